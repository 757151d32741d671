/- ref09: Why, Against. / origin: what the program and the reference find is the same: distances, windows, rooms, fewest marks: plain. / law09.OriginExcludes: the walk. / The variable origin.nowhere, as the rows' condition lays it, and the door's own heap, which meets that condition. -/
import Derived.Test.YtommeljlfkmpjaaGreatDoorPkLawOriginExcludes10
import Derived.Test.YtommeljlfkmpjaaGreatDoorPkLawOriginExcludes3
import Derived.Test.YtommeljlfkmpjaaGreatDoorRows
import Derived.Test.YtommeljlfkmpjaaGreatDoorPkLawOriginExcludes4
import Derived.LaidLaws
import Derived.LaidHandle
import Derived.LaidMore
import Derived.ChangeVars
import Derived.ChangeShapes
namespace Go.Proofs.YtommeljlfkmpjaaGreatDoor
open Go.RowKit Go.Proofs.YtommeljlfkmpjaaGreatDoorW.PrintWords
set_option linter.unusedVariables false
set_option linter.unusedSimpArgs false
/-- the best set so far -/
def bestK (p : List MarT → Bool) (ms : List MarT) : Nat → List Int
 | 0 => idsL (setOf ms (2 ^ ms.length - 1))
 | k + 1 => if (shorterF (idsL (setOf ms k)) (bestK p ms k) && p (setOf ms k)) = true then idsL (setOf ms k) else bestK p ms k
def bestR (p : List MarT → Bool) (ms : List MarT) : List Int := bestK p ms (2 ^ ms.length - 1)
theorem idsS_len (ms : List MarT) (k : Nat) : (idsL (setOf ms k)).length ≤ ms.length := by
 have := chosenL_len k ms ms.length
 unfold idsL setOf
 rw [List.length_map]
 exact this
theorem bestK_len (p : List MarT → Bool) (ms : List MarT) : ∀ k, (bestK p ms k).length ≤ ms.length
 | 0 => idsS_len ms _
 | k + 1 => by
   unfold bestK
   split
   · exact idsS_len ms k
   · exact bestK_len p ms k
theorem intsAt_row {w : World} {r : RowR} {xs : List Int} (h : BlIn (hpR 3 1 r xs.length (xs.map (.int .i64))) w) (h0 : r = none → xs.length = 0) : IntsAt w (valA r) xs := intsAt_hp (η1 := []) (by rw [List.append_nil]; exact h) rfl h0
def rwhyC (R E : Int) (gs : List GatT) (ms : List MarT) (room : Int) : Int := if sceneF R E gs ms = true then (if inF 0 (R - 1) room = true then (if someR R.toNat E gs room.toNat (setOf ms (2 ^ ms.length - 1)) = true then 8 else 0) else 2) else 90
def rwhyL (R E : Int) (gs : List GatT) (ms : List MarT) (room : Int) : List Int := if rwhyC R E gs ms room = 0 then bestR (fun l => !someR R.toNat E gs room.toNat l) ms else []
theorem markR_of {n : Nat} {E : Int} {gs : List GatT} {ms : List MarT} (h : sceneF n E gs ms = true) : ∀ m ∈ ms, MarkR n m := by
 obtain ⟨hR6, hE6, hG, hm8, hmk⟩ := sceneF_ok h
 intro m hm
 have h1 := marks_ok hR6 hmk m hm
 have h2 : ∀ {ms : List MarT} {last : Int}, marksF n last ms = true → ∀ m ∈ ms, (0 ≤ m.f2 ∧ m.f2 < n) ∧ (0 ≤ m.f3 ∧ m.f3 < n) := by
   intro ms
   induction ms with
   | nil => intro last _ m hm; cases hm
   | cons x ms ih =>
     intro last h m hm
     simp only [marksF, Bool.and_eq_true] at h
     obtain ⟨⟨⟨⟨q1, q2⟩, q3⟩, q4⟩, q5⟩ := h
     rcases List.mem_cons.1 hm with rfl | hm
     · have k2 := inF_iff.1 q2
       refine ⟨by omega, ?_⟩
       unfold kindF at q4
       split at q4
       · simp only [timedF, Bool.and_eq_true, decide_eq_true_eq] at q4
         omega
       · split at q4
         · simp only [lastingF, Bool.and_eq_true, decide_eq_true_eq] at q4
           omega
         · simp only [beforeF, Bool.and_eq_true] at q4
           have := inF_iff.1 q4.1.1.1
           omega
     · exact ih q5 m hm
 exact ⟨h1, (h2 hmk m hm).1, (h2 hmk m hm).2⟩
theorem sceneR_of {w : World} {n : Nat} {E : Int} {A B : Option Addr} {gs : List GatT} {ms : List MarT} (h : sceneF n E gs ms = true) (hA : RowOf gatV 4 zGat w A gs) (hM : RowOf marV 7 zMar w B ms) : SceneR w n E A B gs ms := by
 obtain ⟨hR6, hE6, hG, hm8, hmk⟩ := sceneF_ok h
 exact ⟨by omega, hE6, hG, hm8, markR_of h, hA, hM⟩
def ragainstL (R E : Int) (gs : List GatT) (ms : List MarT) : List Int := if sceneF R E gs ms = true ∧ (roomsRef R.toNat E gs (setOf ms (2 ^ ms.length - 1)) R.toNat).length = 0 then bestR (fun l => decide (((roomsRef R.toNat E gs l R.toNat).length : Int) = 0)) ms else []
set_option maxHeartbeats 20000000 in
theorem rwhy_calls (R E : Int) (A B : Option Addr) (c c2 : Nat) (gs : List GatT) (ms : List MarT) (room : Int) (w : World) (hA : RowOf gatV 4 zGat w A gs) (hM : RowOf marV 7 zMar w B ms) :
   Calls Tryz.prog 15 #[.agg (scnV R A gs.length c E B ms.length c2).toArray, .int .i64 room] w fun e w' => ∃ rr : RowR, e = .returned (.tuple #[valR rr (rwhyL R E gs ms room).length, .int .i64 (rwhyC R E gs ms room)]) ∧ RowAt 3 w.heap.size w' rr (rwhyL R E gs ms room) ∧ Below w.heap.size w w' := by
 refine x_calls (X := XNone) Tryz.func15 rfl rfl rfl ?_
 with_reducible ((repeat refine xc_seq ?_); refine xcR ?_)
 refine xo_box rfl rfl rfl rfl (fun b2 => ?_)
 refine xo_asg rfl rfl rfl ?_
 refine xo_asg rfl rfl rfl ?_
 with_reducible (refine xo_nil ?_; (repeat (first | refine xqT ?_ | refine xqB ?_ | refine xqS ?_)))
 cases hsc : sceneF R E gs ms
 · have e1 : rwhyC R E gs ms room = 90 := by simp [rwhyC, hsc]
   have e2 : rwhyL R E gs ms room = [] := by rw [rwhyL, if_neg (by rw [e1]; decide)]
   with_reducible ((repeat refine xc_seq ?_); refine xcR ?_)
   refine xo_loadN T_ rfl rfl rfl (by repeat first | exact memH | apply memT | apply memA) rfl rfl ?_
   refine xo_callB (fs := []) (cs := []) rfl rfl rfl scene_enters rfl (fun w1 hw1 => scene_calls R E A B c c2 gs ms w1 (hA.below hw1.kx.below) (hM.below hw1.kx.below)) ?_
   refine xo_notOp rfl rfl rfl ?_
   refine xo_as (i := 11) rfl (congrArg (fun b => Value.bool !b) hsc) ?_
   with_reducible (refine xo_nil ?_; (repeat (first | refine xqT ?_ | refine xqB ?_ | refine xqS ?_)); (repeat refine xc_seq ?_))
   refine xc_condT rfl ?_
   with_reducible ((repeat refine xc_seq ?_); refine xcR ?_)
   refine xo_asg rfl rfl rfl ?_
   refine xo_asg rfl rfl rfl ?_
   with_reducible (refine xo_nil ?_; (repeat (first | refine xqT ?_ | refine xqB ?_ | refine xqS ?_)); (repeat refine xc_seq ?_); refine xc_ret ?_; (repeat (first | refine xq_thenR ?_ | refine xq_blockR ?_ | refine xq_scopeR ?_)))
   exact xq_ret2 rfl rfl rfl fun w' hw => ⟨none, by rw [e1, e2]; rfl, by rw [e2]; exact ⟨fun _ => rfl, fun p hp => by cases hp⟩, hw.kx.below⟩
 obtain ⟨hR6, hE6, hG, hm8, hmk⟩ := sceneF_ok hsc
 clear hmk
 with_reducible ((repeat refine xc_seq ?_); refine xcR ?_)
 refine xo_loadN T_ rfl rfl rfl (by repeat first | exact memH | apply memT | apply memA) rfl rfl ?_
 refine xo_callB (fs := []) (cs := []) rfl rfl rfl scene_enters rfl (fun w1 hw1 => scene_calls R E A B c c2 gs ms w1 (hA.below hw1.kx.below) (hM.below hw1.kx.below)) ?_
 refine xo_notOp rfl rfl rfl ?_
 refine xo_as (i := 11) rfl (congrArg (fun b => Value.bool !b) hsc) ?_
 with_reducible (refine xo_nil ?_; (repeat (first | refine xqT ?_ | refine xqB ?_ | refine xqS ?_)); (repeat refine xc_seq ?_))
 refine xc_condF rfl ?_
 with_reducible (refine xc_skip ?_; (repeat (first | refine xqT ?_ | refine xqB ?_ | refine xqS ?_)))
 cases hrm : inF 0 (R - 1) room
 · have e1 : rwhyC R E gs ms room = 2 := by simp [rwhyC, hsc, hrm]
   have e2 : rwhyL R E gs ms room = [] := by rw [rwhyL, if_neg (by rw [e1]; decide)]
   with_reducible ((repeat refine xc_seq ?_); refine xcR ?_)
   refine xo_mv rfl rfl rfl ?_
   refine xo_fa T_ rfl rfl rfl rfl rfl ?_
   refine xo_load0 T_ rfl rfl rfl (by repeat first | exact memH | apply memT | apply memA) rfl rfl ?_
   refine xo_sub rfl rfl rfl (by omega) rfl ?_
   refine xo_callB (fs := []) (cs := []) rfl rfl rfl within_enters rfl (fun w1 hw1 => within_calls room 0 (R - 1) w1) ?_
   refine xo_notOp rfl rfl rfl ?_
   refine xo_as (i := 17) rfl (congrArg (fun b => Value.bool !b) hrm) ?_
   with_reducible (refine xo_nil ?_; (repeat (first | refine xqT ?_ | refine xqB ?_ | refine xqS ?_)); (repeat refine xc_seq ?_))
   refine xc_condT rfl ?_
   with_reducible ((repeat refine xc_seq ?_); refine xcR ?_)
   refine xo_asg rfl rfl rfl ?_
   refine xo_asg rfl rfl rfl ?_
   with_reducible (refine xo_nil ?_; (repeat (first | refine xqT ?_ | refine xqB ?_ | refine xqS ?_)); (repeat refine xc_seq ?_); refine xc_ret ?_; (repeat (first | refine xq_thenR ?_ | refine xq_blockR ?_ | refine xq_scopeR ?_)))
   exact xq_ret2 rfl rfl rfl fun w' hw => ⟨none, by rw [e1, e2]; rfl, by rw [e2]; exact ⟨fun _ => rfl, fun p hp => by cases hp⟩, hw.kx.below⟩
 with_reducible ((repeat refine xc_seq ?_); refine xcR ?_)
 refine xo_mv rfl rfl rfl ?_
 refine xo_fa T_ rfl rfl rfl rfl rfl ?_
 refine xo_load0 T_ rfl rfl rfl (by repeat first | exact memH | apply memT | apply memA) rfl rfl ?_
 refine xo_sub rfl rfl rfl (by omega) rfl ?_
 refine xo_callB (fs := []) (cs := []) rfl rfl rfl within_enters rfl (fun w1 hw1 => within_calls room 0 (R - 1) w1) ?_
 refine xo_notOp rfl rfl rfl ?_
 refine xo_as (i := 17) rfl (congrArg (fun b => Value.bool !b) hrm) ?_
 with_reducible (refine xo_nil ?_; (repeat (first | refine xqT ?_ | refine xqB ?_ | refine xqS ?_)); (repeat refine xc_seq ?_))
 refine xc_condF rfl ?_
 with_reducible (refine xc_skip ?_; (repeat (first | refine xqT ?_ | refine xqB ?_ | refine xqS ?_)))
 have e1 : rwhyC R E gs ms room = if someR R.toNat E gs room.toNat (setOf ms (2 ^ ms.length - 1)) = true then 8 else 0 := by simp [rwhyC, hsc, hrm]
 unfold rwhyL
 rw [e1]
 clear e1
 obtain ⟨n, rfl, hn1, hn6⟩ := nat_of hR6
 obtain ⟨r, rfl, hr⟩ := roomOK_nat hn6 hrm
 have en : ((n : Nat) : Int).toNat = n := rfl
 have er : ((r : Nat) : Int).toNat = r := rfl
 rw [en, er]
 have h2 := two8 hm8
 have hsR : ∀ w1, Below w.heap.size w w1 → SceneR w1 n E A B gs ms := fun w1 hb => sceneR_of hsc (hA.below hb) (hM.below hb)
 refine xc_slots [(1, .int .i64 (r : Int)), (2, .pointer (some ⟨b2, 0, none⟩))] ⟨rfl, rfl, trivial⟩ ?_
 cases hsm : someR n E gs r (setOf ms (2 ^ ms.length - 1))
 rotate_left
 · with_reducible repeat refine xc_seq ?_
   apply xc_drawN
   · exact T_.mixed
   · rfl
   · rfl
   · rfl
   · rfl
   · apply DrawOps.cons
     · intro τ
       refine xo_loadN T_ rfl rfl rfl (by repeat first | exact memH | apply memT | apply memA) rfl rfl ?_
       exact xo_fin rfl
     apply DrawOps.cons
     · intro τ
       refine xo_loadN T_ rfl rfl rfl (by repeat first | exact memH | apply memT | apply memA) rfl rfl ?_
       exact xo_fin rfl
     apply DrawOps.cons
     · intro τ
       refine xo_callB (fs := []) (cs := []) rfl rfl rfl every_enters rfl (fun w1 hw1 => every_calls n E A B gs.length c c2 ms w1 hm8) ?_
       exact xo_fin rfl
     apply DrawOps.cons
     · intro τ
       refine xo_mv rfl rfl rfl ?_
       exact xo_fin rfl
     apply DrawOps.cons
     · intro τ
       refine xo_callB (fs := []) (cs := []) rfl rfl rfl some_enters rfl (fun w1 hw1 => some_calls n E A B c c2 gs ms (2 ^ ms.length - 1) r w1 (hsR w1 hw1.kx.below) (by omega) hr) ?_
       first
         | exact xo_fin (congrArg Value.bool hsm)
         | exact xo_fin rfl
     exact DrawOps.nil
   · rfl
   with_reducible ((repeat (first | refine xqT ?_ | refine xqB ?_ | refine xqS ?_)); (repeat refine xc_seq ?_))
   refine xc_condT rfl ?_
   with_reducible ((repeat refine xc_seq ?_); refine xcR ?_)
   refine xo_asg rfl rfl rfl ?_
   refine xo_asg rfl rfl rfl ?_
   with_reducible (refine xo_nil ?_; (repeat (first | refine xqT ?_ | refine xqB ?_ | refine xqS ?_)); (repeat refine xc_seq ?_); refine xc_ret ?_; (repeat (first | refine xq_thenR ?_ | refine xq_blockR ?_ | refine xq_scopeR ?_)))
   exact xq_ret2 rfl rfl rfl fun w' hw => ⟨none, rfl, ⟨fun _ => rfl, fun p hp => by cases hp⟩, hw.kx.below⟩
 with_reducible (repeat refine xc_seq ?_)
 apply xc_drawN
 · exact T_.mixed
 · rfl
 · rfl
 · rfl
 · rfl
 · apply DrawOps.cons
   · intro τ
     refine xo_loadN T_ rfl rfl rfl (by repeat first | exact memH | apply memT | apply memA) rfl rfl ?_
     exact xo_fin rfl
   apply DrawOps.cons
   · intro τ
     refine xo_loadN T_ rfl rfl rfl (by repeat first | exact memH | apply memT | apply memA) rfl rfl ?_
     exact xo_fin rfl
   apply DrawOps.cons
   · intro τ
     refine xo_callB (fs := []) (cs := []) rfl rfl rfl every_enters rfl (fun w1 hw1 => every_calls n E A B gs.length c c2 ms w1 hm8) ?_
     exact xo_fin rfl
   apply DrawOps.cons
   · intro τ
     refine xo_mv rfl rfl rfl ?_
     exact xo_fin rfl
   apply DrawOps.cons
   · intro τ
     refine xo_callB (fs := []) (cs := []) rfl rfl rfl some_enters rfl (fun w1 hw1 => some_calls n E A B c c2 gs ms (2 ^ ms.length - 1) r w1 (hsR w1 hw1.kx.below) (by omega) hr) ?_
     first
       | exact xo_fin (congrArg Value.bool hsm)
       | exact xo_fin rfl
   exact DrawOps.nil
 · rfl
 with_reducible ((repeat (first | refine xqT ?_ | refine xqB ?_ | refine xqS ?_)); (repeat refine xc_seq ?_))
 refine xc_condF rfl ?_
 with_reducible (refine xc_skip ?_; (repeat (first | refine xqT ?_ | refine xqB ?_ | refine xqS ?_)))
 rw [if_neg (show ¬ (false = true) from Bool.false_ne_true), if_pos rfl]
 refine xc_slots [(1, .int .i64 (r : Int)), (2, .pointer (some ⟨b2, 0, none⟩))] ⟨rfl, rfl, trivial⟩ ?_
 with_reducible (repeat refine xc_seq ?_)
 apply xc_drawE (fun g => [(3, valR (g.getD 0 gv0).rr (bestK (fun l => !someR n E gs r l) ms 0).length), (4, valR (g.getD 0 gv0).rr (bestK (fun l => !someR n E gs r l) ms 0).length)]) (fun (η0 : Hp) g => match g with | [] => (η0) | a0 :: _ => (hpR 3 1 a0.rr (bestK (fun l => !someR n E gs r l) ms 0).length ((bestK (fun l => !someR n E gs r l) ms 0).map (.int .i64)) ++ [(b2, true, cel (scnV n A gs.length c E B ms.length c2) 25)])) (fun g => match g with | a0 :: _ => (a0.rr = none → (bestK (fun l => !someR n E gs r l) ms 0).length = 0) | _ => True) [0, 0, 0, 1, 1] [3] [[0, 2, 2]] (by trivial)
 apply SameLen.cons
 apply SameLen.cons
 apply SameLen.cons
 apply SameLen.cons (c := undef)
 apply SameLen.cons (c := undef)
 exact SameLen.nil
 rotate_left 3
 case hH0 => rfl
 case hmix => exact T_.mixed
 case hbind => rfl
 case hdeps => rfl
 case hdist => rfl
 case hfresh => rfl
 case hE => rfl
 case hEn => decide
 · refine DrawE.pure 0 0 rfl (.inr (by decide)) (fun L g hg hd => Nat.zero_le _) (fun g hlo hhi hF τ => ?_) ?_
   · rcases g with _ | ⟨a0, _ | ⟨a1, g⟩⟩ <;> first | (simp only [lenC, lenN] at hlo hhi; omega) | (refine ⟨_, rfl, ?_⟩; refine xo_loadN T_ rfl rfl rfl (by repeat first | exact memH | apply memT | apply memA) rfl rfl ?_; exact xo_fin rfl)
   refine DrawE.pure 0 1 rfl (.inl rfl) (fun L g hg hd => Nat.zero_le _) (fun g hlo hhi hF τ => ?_) ?_
   · rcases g with _ | ⟨a0, _ | ⟨a1, g⟩⟩ <;> first | (simp only [lenC, lenN] at hlo hhi; omega) | (refine ⟨_, rfl, ?_⟩; refine xo_loadN T_ rfl rfl rfl (by repeat first | exact memH | apply memT | apply memA) rfl rfl ?_; exact xo_fin rfl)
   refine DrawE.pure 0 0 rfl (.inr (by decide)) (fun L g hg hd => Nat.zero_le _) (fun g hlo hhi hF τ => ?_) ?_
   · rcases g with _ | ⟨a0, _ | ⟨a1, g⟩⟩ <;> first | (simp only [lenC, lenN] at hlo hhi; omega) | (refine ⟨_, rfl, ?_⟩; refine xo_callB (fs := []) (cs := []) rfl rfl rfl every_enters rfl (fun w1 hw1 => every_calls n E A B gs.length c c2 ms w1 hm8) ?_; exact xo_fin rfl)
   refine DrawE.eff 0 rfl (by decide) rfl (fun j hj => hj) (fun j g a hj => ?_) (fun L g hg hd => Nat.zero_le _) (fun g hgl hF τ => ?_) ?_
   · rcases j with _ | _ | _ | _ | _ | j
     all_goals first | rfl | (rcases g with _ | ⟨a0, _ | ⟨a1, g⟩⟩ <;> first | rfl | exact absurd hj (by decide) | exact absurd hj (by simp [List.getD]))
   · obtain rfl : g = [] := by
       rcases g with _ | ⟨a0, g⟩ <;> first | rfl | (exfalso; simp only [List.length_cons, List.length_nil] at hgl; omega)
     refine xo_call (fs := []) (cs := []) rfl rfl rfl members_enters rfl (fun w1 hw1 => (members_calls n E A B gs.length c c2 ms (2 ^ ms.length - 1) w1 (hM.below hw1.kx.below) hm8 (by omega)).mono ?_)
     rintro e w2 ⟨rr, rfl, hrw, hb⟩
     have h11 := hrw.1
     refine ⟨_, _, rfl, hw1.row hb hrw, ?_⟩
     clear hrw hb hw1
     exact xo_finE ⟨0, 0, rr⟩ rfl (fun q => by rw [show bestK (fun l => !someR n E gs r l) ms 0 = idsL (setOf ms (2 ^ ms.length - 1)) from rfl, h11 q]; rfl)
   refine DrawE.pure 1 1 rfl (.inl rfl) (fun L g hg hd => hg.2.1 3 (hd 3 (by decide))) (fun g hlo hhi hF τ => ?_) ?_
   · rcases g with _ | ⟨a0, _ | ⟨a1, g⟩⟩ <;> first | (simp only [lenC, lenN] at hlo hhi; omega) | (refine ⟨_, rfl, ?_⟩; refine xo_asg rfl rfl rfl ?_; exact xo_fin rfl)
   exact DrawE.nil
 intro g hgl hF
 obtain ⟨a0, rfl⟩ : ∃ a0, g = [a0] := by
   rcases g with _ | ⟨a0, _ | ⟨a1, g⟩⟩ <;> first | exact ⟨_, rfl⟩ | (exfalso; simp only [List.length_cons, List.length_nil] at hgl; omega)
 with_reducible (repeat (first | refine xqT ?_ | refine xqB ?_ | refine xqS ?_))
 obtain ⟨xa, xb, rr⟩ := a0
 have hrr0 : rr = none → (bestK (fun l => !someR n E gs r l) ms 0).length = 0 := hF
 clear hF
 refine xc_slots [(1, .int .i64 (r : Int)), (2, .pointer (some ⟨b2, 0, none⟩)), (6, .slice (valA rr) (bestK (fun l => !someR n E gs r l) ms 0).length (valC rr))] ⟨rfl, rfl, congrArg some (valR_eq hrr0), trivial⟩ ?_
 with_reducible ((repeat refine xc_seq ?_); refine xcR ?_)
 refine xo_asg rfl rfl rfl ?_
 with_reducible (refine xo_nil ?_; (repeat (first | refine xqT ?_ | refine xqB ?_ | refine xqS ?_)); (repeat refine xc_seq ?_); refine xc_block ?_)
 refine xc_loop (γ := Nat × RowR) (fun q => q.1 ≤ 2 ^ ms.length - 1 ∧ (q.2 = none → (bestK (fun l => !someR n E gs r l) ms q.1).length = 0)) (fun q => [(1, .int .i64 (r : Int)), (2, .pointer (some ⟨b2, 0, none⟩)), (6, .slice (valA q.2) (bestK (fun l => !someR n E gs r l) ms q.1).length (valC q.2)), (7, .int .i64 (q.1 : Int))])
   (fun q => hpR 3 1 q.2 (bestK (fun l => !someR n E gs r l) ms q.1).length ((bestK (fun l => !someR n E gs r l) ms q.1).map (.int .i64)) ++ [(b2, true, cel (scnV n A gs.length c E B ms.length c2) 25)]) (fun q => 2 ^ ms.length - 1 - q.1) (0, rr) ⟨Nat.zero_le _, hrr0⟩ ⟨rfl, rfl, rfl, rfl, trivial⟩ (List.Sublist.refl _) ?_
 rintro ⟨k, rb⟩ ⟨hk, hrb⟩
 have hk : k ≤ 2 ^ ms.length - 1 := hk
 have hrb : rb = none → (bestK (fun l => !someR n E gs r l) ms k).length = 0 := hrb
 with_reducible ((repeat refine xc_seq ?_); refine xcR ?_)
 refine xo_mv rfl rfl rfl ?_
 refine xo_loadN T_ (b := b2) (wr := true) (cs := scnV n A gs.length c E B ms.length c2) (te := 25) rfl rfl rfl (by repeat first | exact memH | apply memT | apply memA) rfl rfl ?_
 refine xo_callB (fs := []) (cs := []) rfl rfl rfl every_enters rfl (fun w1 hw1 => every_calls n E A B gs.length c c2 ms w1 hm8) ?_
 refine xo_lss rfl rfl rfl rfl ?_
 with_reducible (refine xo_nil ?_; (repeat (first | refine xqT ?_ | refine xqB ?_ | refine xqS ?_)); (repeat refine xc_seq ?_))
 refine xc_cond rfl (fun h => ?_) (fun h => ?_)
 · have hlt : k < 2 ^ ms.length - 1 := by
     have h' : ((k : Nat) : Int) < ((2 ^ ms.length - 1 : Nat) : Int) := of_decide_eq_true h
     omega
   have hst : bestK (fun l => !someR n E gs r l) ms (k + 1) = if (shorterF (idsL (setOf ms k)) (bestK (fun l => !someR n E gs r l) ms k) && !someR n E gs r (setOf ms k)) = true then idsL (setOf ms k) else (bestK (fun l => !someR n E gs r l) ms k) := rfl
   have hbl := bestK_len (fun l => !someR n E gs r l) ms k
   have hil := idsS_len ms k
   generalize bestK (fun l => !someR n E gs r l) ms k = b at hrb hst hbl
   with_reducible (refine xc_skip ?_; (repeat (first | refine xqT ?_ | refine xqB ?_ | refine xqS ?_)); (repeat refine xc_seq ?_); refine xc_block ?_; (repeat refine xc_seq ?_); refine xcR ?_)
   refine xo_loadN T_ (b := b2) (wr := true) (cs := scnV n A gs.length c E B ms.length c2) (te := 25) rfl rfl rfl (by repeat first | exact memH | apply memT | apply memA) rfl rfl ?_
   refine xo_mv rfl rfl rfl ?_
   refine xo_call (fs := []) (cs := []) rfl rfl rfl members_enters rfl (fun w1 hw1 => (members_calls n E A B gs.length c c2 ms k w1 (hM.below hw1.kx.below) hm8 (by omega)).mono ?_)
   rintro e w2 ⟨rl, rfl, hrw, hb⟩
   have h11 := hrw.1
   refine ⟨_, _, rfl, hw1.row hb hrw, ?_⟩
   clear hrw hb hw1
   refine xo_asg rfl rfl rfl ?_
   with_reducible (refine xo_nil ?_; (repeat (first | refine xqT ?_ | refine xqB ?_ | refine xqS ?_)))
   have hrl : rl = none → (idsL (setOf ms k)).length = 0 := fun q => by rw [h11 q]; rfl
   clear h11
   generalize hls : idsL (setOf ms k) = l at hst hil hrl
   refine xc_slots [(1, .int .i64 (r : Int)), (2, .pointer (some ⟨b2, 0, none⟩)), (6, .slice (valA rb) b.length (valC rb)), (7, .int .i64 (k : Int)), (8, .slice (valA rl) l.length (valC rl))] ⟨rfl, rfl, rfl, rfl, congrArg some (valR_eq hrl), trivial⟩ ?_
   with_reducible (repeat refine xc_seq ?_)
   refine xc_meet2 (γ := Unit) (fun _ => True) (fun _ => [(1, .int .i64 (r : Int)), (2, .pointer (some ⟨b2, 0, none⟩)), (6, .slice (valA rb) b.length (valC rb)), (7, .int .i64 (k : Int)), (8, .slice (valA rl) l.length (valC rl)), (45, .bool (shorterF l b && !someR n E gs r (setOf ms k)))]) (fun _ => hpR 3 1 rl l.length (l.map (.int .i64)) ++ (hpR 3 1 rb b.length (b.map (.int .i64)) ++ [(b2, true, cel (scnV n A gs.length c E B ms.length c2) 25)])) ?_ (fun _ _ => ?_)
   · with_reducible refine xcR ?_
     refine xo_mv rfl rfl rfl ?_
     refine xo_mv rfl rfl rfl ?_
     refine xo_callB (fs := []) (cs := []) rfl rfl rfl shorter_enters rfl (fun w1 hw1 => shorter_calls (valA rl) (valA rb) (valC rl) (valC rb) l b w1 (intsAt_row (hw1.bl_of fun e he => List.mem_append_left _ he) hrl) (intsAt_row (hw1.bl_of fun e he => List.mem_append_right _ (List.mem_append_left _ he)) hrb) (by omega)) ?_
     refine xo_mv rfl rfl rfl ?_
     first
       | refine xo_lit (i := 39) (b := true) rfl ?_
       | refine xo_lit (i := 39) (b := false) rfl ?_
       | refine xo_split (i := 39) rfl rfl (fun h39 => ?_) (fun h39 => ?_)
     all_goals
       try simp only [decide_eq_true_eq, decide_eq_false_iff_not] at h39
       (first | refine xo_not rfl rfl ?_ | (refine xo_loadN T_ (b := b2) (wr := true) (cs := scnV n A gs.length c E B ms.length c2) (te := 25) rfl rfl rfl (by repeat first | exact memH | apply memT | apply memA) rfl rfl ?_))
       (first | refine xo_not rfl rfl ?_ | (refine xo_mv rfl rfl rfl ?_))
       (first | refine xo_not rfl rfl ?_ | (refine xo_mv rfl rfl rfl ?_))
       (first | refine xo_not rfl rfl ?_ | (refine xo_callB (fs := []) (cs := []) rfl rfl rfl some_enters rfl (fun w1 hw1 => some_calls n E A B c c2 gs ms k r w1 (hsR w1 hw1.kx.below) (by omega) hr) ?_))
       (first | refine xo_not rfl rfl ?_ | (refine xo_notOp rfl rfl rfl ?_))
       first | refine xo_pickT rfl rfl rfl rfl ?_ | refine xo_pickF rfl rfl rfl rfl ?_
       with_reducible refine xo_nil ?_
       exact xq_meet (fun _ => True) _ _ () trivial ⟨(by first | rfl | exact congrArg (fun b => some (Value.bool b)) (by first | simp [h39] | simp [])), (by first | rfl | exact congrArg (fun b => some (Value.bool b)) (by first | simp [h39] | simp [])), (by first | rfl | exact congrArg (fun b => some (Value.bool b)) (by first | simp [h39] | simp [])), (by first | rfl | exact congrArg (fun b => some (Value.bool b)) (by first | simp [h39] | simp [])), (by first | rfl | exact congrArg (fun b => some (Value.bool b)) (by first | simp [h39] | simp [])), (by first | rfl | exact congrArg (fun b => some (Value.bool b)) (by first | simp [h39] | simp [])), trivial⟩ (List.Sublist.refl _)
   with_reducible (repeat (first | refine xqT ?_ | refine xqB ?_ | refine xqS ?_))
   cases hq : (shorterF l b && !someR n E gs r (setOf ms k))
   · rw [hq, if_neg Bool.false_ne_true] at hst
     with_reducible (repeat refine xc_seq ?_)
     refine xc_condF rfl ?_
     with_reducible (refine xc_skip ?_; (repeat (first | refine xqT ?_ | refine xqB ?_ | refine xqS ?_)); (repeat refine xc_seq ?_); refine xcR ?_)
     refine xo_mv rfl rfl rfl ?_
     refine xo_add rfl rfl rfl (by omega) rfl ?_
     refine xo_asg rfl rfl rfl ?_
     with_reducible (refine xo_nil ?_; (repeat (first | refine xqT ?_ | refine xqB ?_ | refine xqS ?_)))
     exact xq_again _ _ _ _ _ (k + 1, rb) ⟨hlt, fun q => by rw [hst]; exact hrb q⟩ (by simp only; omega) ⟨rfl, rfl, by rw [hst]; rfl, rfl, trivial⟩ (by rw [hst]; exact List.sublist_append_right _ _)
   · rw [hq, if_pos rfl] at hst
     with_reducible (repeat refine xc_seq ?_)
     refine xc_condT rfl ?_
     with_reducible ((repeat refine xc_seq ?_); refine xcR ?_)
     refine xo_mv rfl rfl rfl ?_
     refine xo_asg rfl rfl rfl ?_
     with_reducible (refine xo_nil ?_; (repeat (first | refine xqT ?_ | refine xqB ?_ | refine xqS ?_)); (repeat refine xc_seq ?_); refine xcR ?_)
     refine xo_mv rfl rfl rfl ?_
     refine xo_add rfl rfl rfl (by omega) rfl ?_
     refine xo_asg rfl rfl rfl ?_
     with_reducible (refine xo_nil ?_; (repeat (first | refine xqT ?_ | refine xqB ?_ | refine xqS ?_)))
     exact xq_again _ _ _ _ _ (k + 1, rl) ⟨hlt, fun q => by rw [hst]; exact hrl q⟩ (by simp only; omega) ⟨rfl, rfl, by rw [hst]; rfl, rfl, trivial⟩ (by rw [hst]; exact List.Sublist.append_left (List.sublist_append_right _ _) _)
 have hge : k = 2 ^ ms.length - 1 := by
   have h' : ¬ ((k : Nat) : Int) < ((2 ^ ms.length - 1 : Nat) : Int) := of_decide_eq_false h
   omega
 subst hge
 with_reducible (refine xc_exit ?_; (repeat (first | refine xq_blockX ?_ | refine xq_thenE ?_ | refine xq_blockE rfl ?_ | refine xq_scopeE ?_)); (repeat (first | refine xqT ?_ | refine xqB ?_ | refine xqS ?_)))
 refine xc_slots [(6, valR rb (bestR (fun l => !someR n E gs r l) ms).length)] ⟨congrArg some (valR_eq hrb).symm, trivial⟩ ?_
 with_reducible ((repeat refine xc_seq ?_); refine xcR ?_)
 refine xo_mv rfl rfl rfl ?_
 refine xo_asg rfl rfl rfl ?_
 refine xo_asg rfl rfl rfl ?_
 with_reducible (refine xo_nil ?_; (repeat (first | refine xqT ?_ | refine xqB ?_ | refine xqS ?_)); (repeat refine xc_seq ?_); refine xc_ret ?_; (repeat (first | refine xq_thenR ?_ | refine xq_blockR ?_ | refine xq_scopeR ?_)))
 exact xq_ret2 rfl rfl rfl fun w' hw => ⟨rb, rfl, RowAt.of hw (fun q => List.eq_nil_of_length_eq_zero (hrb q)), hw.kx.below⟩
theorem rwhy_enters : ∀ args w, (callFunc 15 args).run Tryz.prog w = .ok (.enter 15 args) w := enters_of Tryz.func15 (by kernel_rfl) rfl
set_option maxHeartbeats 20000000 in
theorem ragainst_calls (R E : Int) (A B : Option Addr) (c c2 : Nat) (gs : List GatT) (ms : List MarT) (w : World) (hA : RowOf gatV 4 zGat w A gs) (hM : RowOf marV 7 zMar w B ms) :
   Calls Tryz.prog 17 #[.agg (scnV R A gs.length c E B ms.length c2).toArray] w fun e w' => ∃ rr : RowR, e = .returned (.tuple #[valR rr (ragainstL R E gs ms).length, .int .i64 (checkF R E gs ms)]) ∧ RowAt 3 w.heap.size w' rr (ragainstL R E gs ms) ∧ Below w.heap.size w w' := by
 refine x_calls (X := XNone) Tryz.func17 rfl rfl rfl ?_
 with_reducible ((repeat refine xc_seq ?_); refine xcR ?_)
 refine xo_box rfl rfl rfl rfl (fun b1 => ?_)
 refine xo_asg rfl rfl rfl ?_
 refine xo_asg rfl rfl rfl ?_
 with_reducible (refine xo_nil ?_; (repeat (first | refine xqT ?_ | refine xqB ?_ | refine xqS ?_)))
 cases hsc : sceneF R E gs ms
 · have e1 := check_no hsc
   have e2 : ragainstL R E gs ms = [] := by rw [ragainstL, if_neg (by simp [hsc])]
   with_reducible ((repeat refine xc_seq ?_); refine xcR ?_)
   refine xo_loadN T_ rfl rfl rfl (by repeat first | exact memH | apply memT | apply memA) rfl rfl ?_
   refine xo_callB (fs := []) (cs := []) rfl rfl rfl scene_enters rfl (fun w1 hw1 => scene_calls R E A B c c2 gs ms w1 (hA.below hw1.kx.below) (hM.below hw1.kx.below)) ?_
   refine xo_notOp rfl rfl rfl ?_
   refine xo_as (i := 9) rfl (congrArg (fun b => Value.bool !b) hsc) ?_
   with_reducible (refine xo_nil ?_; (repeat (first | refine xqT ?_ | refine xqB ?_ | refine xqS ?_)); (repeat refine xc_seq ?_))
   refine xc_condT rfl ?_
   with_reducible ((repeat refine xc_seq ?_); refine xcR ?_)
   refine xo_asg rfl rfl rfl ?_
   refine xo_asg rfl rfl rfl ?_
   with_reducible (refine xo_nil ?_; (repeat (first | refine xqT ?_ | refine xqB ?_ | refine xqS ?_)); (repeat refine xc_seq ?_); refine xc_ret ?_; (repeat (first | refine xq_thenR ?_ | refine xq_blockR ?_ | refine xq_scopeR ?_)))
   exact xq_ret2 rfl rfl rfl fun w' hw => ⟨none, by rw [e1, e2]; rfl, by rw [e2]; exact ⟨fun _ => rfl, fun p hp => by cases hp⟩, hw.kx.below⟩
 obtain ⟨hR6, hE6, hG, hm8, hmk⟩ := sceneF_ok hsc
 clear hmk
 have e1 : checkF R E gs ms = 0 := by rw [checkF, if_pos hsc]
 rw [e1]
 clear e1
 have e2 : ragainstL R E gs ms = if (roomsRef R.toNat E gs (setOf ms (2 ^ ms.length - 1)) R.toNat).length = 0 then bestR (fun l => decide (((roomsRef R.toNat E gs l R.toNat).length : Int) = 0)) ms else [] := by
   unfold ragainstL
   simp [hsc]
 rw [e2]
 clear e2
 with_reducible ((repeat refine xc_seq ?_); refine xcR ?_)
 refine xo_loadN T_ rfl rfl rfl (by repeat first | exact memH | apply memT | apply memA) rfl rfl ?_
 refine xo_callB (fs := []) (cs := []) rfl rfl rfl scene_enters rfl (fun w1 hw1 => scene_calls R E A B c c2 gs ms w1 (hA.below hw1.kx.below) (hM.below hw1.kx.below)) ?_
 refine xo_notOp rfl rfl rfl ?_
 refine xo_as (i := 9) rfl (congrArg (fun b => Value.bool !b) hsc) ?_
 with_reducible (refine xo_nil ?_; (repeat (first | refine xqT ?_ | refine xqB ?_ | refine xqS ?_)); (repeat refine xc_seq ?_))
 refine xc_condF rfl ?_
 with_reducible (refine xc_skip ?_; (repeat (first | refine xqT ?_ | refine xqB ?_ | refine xqS ?_)))
 obtain ⟨n, rfl, hn1, hn6⟩ := nat_of hR6
 have en : ((n : Nat) : Int).toNat = n := rfl
 rw [en]
 have h2 := two8 hm8
 have hsR : ∀ w1, Below w.heap.size w w1 → SceneR w1 n E A B gs ms := fun w1 hb => sceneR_of hsc (hA.below hb) (hM.below hb)
 refine xc_slots [(1, .pointer (some ⟨b1, 0, none⟩))] ⟨rfl, trivial⟩ ?_
 with_reducible (repeat refine xc_seq ?_)
 apply xc_drawE (fun g => [(3, valR (g.getD 0 gv0).rr (roomsRef n E gs (setOf ms (2 ^ ms.length - 1)) n).length)]) (fun (η0 : Hp) g => match g with | [] => (η0) | a0 :: _ => (η0)) (fun g => match g with | a0 :: _ => (a0.rr = none → (roomsRef n E gs (setOf ms (2 ^ ms.length - 1)) n).length = 0) | _ => True) [0, 0, 0, 1, 1, 1] [3] [[0, 2, 2]] (by trivial)
 apply SameLen.cons
 apply SameLen.cons
 apply SameLen.cons
 apply SameLen.cons (c := undef)
 apply SameLen.cons
 apply SameLen.cons
 exact SameLen.nil
 rotate_left 5
 case hH0 => rfl
 case hmix => exact T_.mixed
 case hbind => rfl
 case hdeps => rfl
 case hdist => rfl
 case hfresh => rfl
 case hE => rfl
 case hEn => decide
 · refine DrawE.pure 0 0 rfl (.inr (by decide)) (fun L g hg hd => Nat.zero_le _) (fun g hlo hhi hF τ => ?_) ?_
   · rcases g with _ | ⟨a0, _ | ⟨a1, g⟩⟩ <;> first | (simp only [lenC, lenN] at hlo hhi; omega) | (refine ⟨_, rfl, ?_⟩; refine xo_loadN T_ rfl rfl rfl (by repeat first | exact memH | apply memT | apply memA) rfl rfl ?_; exact xo_fin rfl)
   refine DrawE.pure 0 1 rfl (.inl rfl) (fun L g hg hd => Nat.zero_le _) (fun g hlo hhi hF τ => ?_) ?_
   · rcases g with _ | ⟨a0, _ | ⟨a1, g⟩⟩ <;> first | (simp only [lenC, lenN] at hlo hhi; omega) | (refine ⟨_, rfl, ?_⟩; refine xo_loadN T_ rfl rfl rfl (by repeat first | exact memH | apply memT | apply memA) rfl rfl ?_; exact xo_fin rfl)
   refine DrawE.pure 0 0 rfl (.inr (by decide)) (fun L g hg hd => Nat.zero_le _) (fun g hlo hhi hF τ => ?_) ?_
   · rcases g with _ | ⟨a0, _ | ⟨a1, g⟩⟩ <;> first | (simp only [lenC, lenN] at hlo hhi; omega) | (refine ⟨_, rfl, ?_⟩; refine xo_callB (fs := []) (cs := []) rfl rfl rfl every_enters rfl (fun w1 hw1 => every_calls n E A B gs.length c c2 ms w1 hm8) ?_; exact xo_fin rfl)
   refine DrawE.eff 0 rfl (by decide) rfl (fun j hj => hj) (fun j g a hj => ?_) (fun L g hg hd => Nat.zero_le _) (fun g hgl hF τ => ?_) ?_
   · rcases j with _ | _ | _ | _ | _ | _ | j
     all_goals first | rfl | (rcases g with _ | ⟨a0, _ | ⟨a1, g⟩⟩ <;> first | rfl | exact absurd hj (by decide) | exact absurd hj (by simp [List.getD]))
   · obtain rfl : g = [] := by
       rcases g with _ | ⟨a0, g⟩ <;> first | rfl | (exfalso; simp only [List.length_cons, List.length_nil] at hgl; omega)
     refine xo_call (fs := []) (cs := []) rfl rfl rfl rrooms_enters rfl (fun w1 hw1 => (rrooms_calls n E A B c c2 gs ms (2 ^ ms.length - 1) w1 (hsR w1 hw1.kx.below) (by omega)).mono ?_)
     rintro e w2 ⟨rr, rfl, hrw, hb⟩
     have h11 := hrw.1
     refine ⟨_, _, rfl, hw1.below hb, ?_⟩
     clear hrw hb hw1
     exact xo_finE ⟨0, 0, rr⟩ rfl (fun q => by have := h11 q; simpa [intsN] using this)
   refine DrawE.pure 1 1 rfl (.inl rfl) (fun L g hg hd => hg.2.1 3 (hd 3 (by decide))) (fun g hlo hhi hF τ => ?_) ?_
   · rcases g with _ | ⟨a0, _ | ⟨a1, g⟩⟩ <;> first | (simp only [lenC, lenN] at hlo hhi; omega) | (refine ⟨_, rfl, ?_⟩; refine xo_len T_ rfl (show _ = some (Value.slice (valA a0.rr) (roomsRef n E gs (setOf ms (2 ^ ms.length - 1)) n).length (valC a0.rr)) from congrArg some (valR_eq hF)) rfl rfl ?_; exact xo_fin rfl)
   refine DrawE.pure 1 1 rfl (.inl rfl) (fun L g hg hd => hg.2.1 4 (hd 4 (by decide))) (fun g hlo hhi hF τ => ?_) ?_
   · rcases g with _ | ⟨a0, _ | ⟨a1, g⟩⟩ <;> first | (simp only [lenC, lenN] at hlo hhi; omega) | (refine ⟨_, rfl, ?_⟩; refine xo_gtr rfl rfl rfl rfl ?_; exact xo_fin rfl)
   exact DrawE.nil
 intro g hgl hF
 obtain ⟨a0, rfl⟩ : ∃ a0, g = [a0] := by
   rcases g with _ | ⟨a0, _ | ⟨a1, g⟩⟩ <;> first | exact ⟨_, rfl⟩ | (exfalso; simp only [List.length_cons, List.length_nil] at hgl; omega)
 with_reducible (repeat (first | refine xqT ?_ | refine xqB ?_ | refine xqS ?_))
 clear hF
 cases hc : decide ((0 : Int) < (roomsRef n E gs (setOf ms (2 ^ ms.length - 1)) n).length)
 rotate_left
 · have h0 : ¬ (roomsRef n E gs (setOf ms (2 ^ ms.length - 1)) n).length = 0 := by have := of_decide_eq_true hc; omega
   rw [if_neg h0]
   refine xc_slots [(15, .bool true)] ⟨rfl, trivial⟩ ?_
   with_reducible (repeat refine xc_seq ?_)
   refine xc_condT rfl ?_
   with_reducible ((repeat refine xc_seq ?_); refine xcR ?_)
   refine xo_asg rfl rfl rfl ?_
   refine xo_asg rfl rfl rfl ?_
   with_reducible (refine xo_nil ?_; (repeat (first | refine xqT ?_ | refine xqB ?_ | refine xqS ?_)); (repeat refine xc_seq ?_); refine xc_ret ?_; (repeat (first | refine xq_thenR ?_ | refine xq_blockR ?_ | refine xq_scopeR ?_)))
   exact xq_ret2 rfl rfl rfl fun w' hw => ⟨none, rfl, ⟨fun _ => rfl, fun p hp => by cases hp⟩, hw.kx.below⟩
 have h0 : (roomsRef n E gs (setOf ms (2 ^ ms.length - 1)) n).length = 0 := by have := of_decide_eq_false hc; omega
 rw [if_pos h0]
 refine xc_slots [(1, .pointer (some ⟨b1, 0, none⟩)), (15, .bool false)] ⟨rfl, rfl, trivial⟩ ?_
 with_reducible (repeat refine xc_seq ?_)
 refine xc_condF rfl ?_
 with_reducible (refine xc_skip ?_; (repeat (first | refine xqT ?_ | refine xqB ?_ | refine xqS ?_)))
 refine xc_slots [(1, .pointer (some ⟨b1, 0, none⟩))] ⟨rfl, trivial⟩ ?_
 with_reducible (repeat refine xc_seq ?_)
 apply xc_drawE (fun g => [(3, valR (g.getD 0 gv0).rr (bestK (fun l => decide (((roomsRef n E gs l n).length : Int) = 0)) ms 0).length), (4, valR (g.getD 0 gv0).rr (bestK (fun l => decide (((roomsRef n E gs l n).length : Int) = 0)) ms 0).length)]) (fun (η0 : Hp) g => match g with | [] => (η0) | a0 :: _ => (hpR 3 1 a0.rr (bestK (fun l => decide (((roomsRef n E gs l n).length : Int) = 0)) ms 0).length ((bestK (fun l => decide (((roomsRef n E gs l n).length : Int) = 0)) ms 0).map (.int .i64)) ++ [(b1, true, cel (scnV n A gs.length c E B ms.length c2) 25)])) (fun g => match g with | a0 :: _ => (a0.rr = none → (bestK (fun l => decide (((roomsRef n E gs l n).length : Int) = 0)) ms 0).length = 0) | _ => True) [0, 0, 0, 1, 1] [3] [[0, 2, 2]] (by trivial)
 apply SameLen.cons
 apply SameLen.cons
 apply SameLen.cons
 apply SameLen.cons (c := undef)
 apply SameLen.cons (c := undef)
 exact SameLen.nil
 rotate_left 3
 case hH0 => rfl
 case hmix => exact T_.mixed
 case hbind => rfl
 case hdeps => rfl
 case hdist => rfl
 case hfresh => rfl
 case hE => rfl
 case hEn => decide
 · refine DrawE.pure 0 0 rfl (.inr (by decide)) (fun L g hg hd => Nat.zero_le _) (fun g hlo hhi hF τ => ?_) ?_
   · rcases g with _ | ⟨a0, _ | ⟨a1, g⟩⟩ <;> first | (simp only [lenC, lenN] at hlo hhi; omega) | (refine ⟨_, rfl, ?_⟩; refine xo_loadN T_ rfl rfl rfl (by repeat first | exact memH | apply memT | apply memA) rfl rfl ?_; exact xo_fin rfl)
   refine DrawE.pure 0 1 rfl (.inl rfl) (fun L g hg hd => Nat.zero_le _) (fun g hlo hhi hF τ => ?_) ?_
   · rcases g with _ | ⟨a0, _ | ⟨a1, g⟩⟩ <;> first | (simp only [lenC, lenN] at hlo hhi; omega) | (refine ⟨_, rfl, ?_⟩; refine xo_loadN T_ rfl rfl rfl (by repeat first | exact memH | apply memT | apply memA) rfl rfl ?_; exact xo_fin rfl)
   refine DrawE.pure 0 0 rfl (.inr (by decide)) (fun L g hg hd => Nat.zero_le _) (fun g hlo hhi hF τ => ?_) ?_
   · rcases g with _ | ⟨a0, _ | ⟨a1, g⟩⟩ <;> first | (simp only [lenC, lenN] at hlo hhi; omega) | (refine ⟨_, rfl, ?_⟩; refine xo_callB (fs := []) (cs := []) rfl rfl rfl every_enters rfl (fun w1 hw1 => every_calls n E A B gs.length c c2 ms w1 hm8) ?_; exact xo_fin rfl)
   refine DrawE.eff 0 rfl (by decide) rfl (fun j hj => hj) (fun j g a hj => ?_) (fun L g hg hd => Nat.zero_le _) (fun g hgl hF τ => ?_) ?_
   · rcases j with _ | _ | _ | _ | _ | j
     all_goals first | rfl | (rcases g with _ | ⟨a0, _ | ⟨a1, g⟩⟩ <;> first | rfl | exact absurd hj (by decide) | exact absurd hj (by simp [List.getD]))
   · obtain rfl : g = [] := by
       rcases g with _ | ⟨a0, g⟩ <;> first | rfl | (exfalso; simp only [List.length_cons, List.length_nil] at hgl; omega)
     refine xo_call (fs := []) (cs := []) rfl rfl rfl members_enters rfl (fun w1 hw1 => (members_calls n E A B gs.length c c2 ms (2 ^ ms.length - 1) w1 (hM.below hw1.kx.below) hm8 (by omega)).mono ?_)
     rintro e w2 ⟨rr, rfl, hrw, hb⟩
     have h11 := hrw.1
     refine ⟨_, _, rfl, hw1.row hb hrw, ?_⟩
     clear hrw hb hw1
     exact xo_finE ⟨0, 0, rr⟩ rfl (fun q => by rw [show bestK (fun l => decide (((roomsRef n E gs l n).length : Int) = 0)) ms 0 = idsL (setOf ms (2 ^ ms.length - 1)) from rfl, h11 q]; rfl)
   refine DrawE.pure 1 1 rfl (.inl rfl) (fun L g hg hd => hg.2.1 3 (hd 3 (by decide))) (fun g hlo hhi hF τ => ?_) ?_
   · rcases g with _ | ⟨a0, _ | ⟨a1, g⟩⟩ <;> first | (simp only [lenC, lenN] at hlo hhi; omega) | (refine ⟨_, rfl, ?_⟩; refine xo_asg rfl rfl rfl ?_; exact xo_fin rfl)
   exact DrawE.nil
 intro g hgl hF
 obtain ⟨a0, rfl⟩ : ∃ a0, g = [a0] := by
   rcases g with _ | ⟨a0, _ | ⟨a1, g⟩⟩ <;> first | exact ⟨_, rfl⟩ | (exfalso; simp only [List.length_cons, List.length_nil] at hgl; omega)
 with_reducible (repeat (first | refine xqT ?_ | refine xqB ?_ | refine xqS ?_))
 obtain ⟨xa, xb, rr⟩ := a0
 have hrr0 : rr = none → (bestK (fun l => decide (((roomsRef n E gs l n).length : Int) = 0)) ms 0).length = 0 := hF
 clear hF
 refine xc_slots [(1, .pointer (some ⟨b1, 0, none⟩)), (4, .slice (valA rr) (bestK (fun l => decide (((roomsRef n E gs l n).length : Int) = 0)) ms 0).length (valC rr))] ⟨rfl, congrArg some (valR_eq hrr0), trivial⟩ ?_
 with_reducible ((repeat refine xc_seq ?_); refine xcR ?_)
 refine xo_asg rfl rfl rfl ?_
 with_reducible (refine xo_nil ?_; (repeat (first | refine xqT ?_ | refine xqB ?_ | refine xqS ?_)); (repeat refine xc_seq ?_); refine xc_block ?_)
 refine xc_loop (γ := Nat × RowR) (fun q => q.1 ≤ 2 ^ ms.length - 1 ∧ (q.2 = none → (bestK (fun l => decide (((roomsRef n E gs l n).length : Int) = 0)) ms q.1).length = 0)) (fun q => [(1, .pointer (some ⟨b1, 0, none⟩)), (4, .slice (valA q.2) (bestK (fun l => decide (((roomsRef n E gs l n).length : Int) = 0)) ms q.1).length (valC q.2)), (5, .int .i64 (q.1 : Int))])
   (fun q => hpR 3 1 q.2 (bestK (fun l => decide (((roomsRef n E gs l n).length : Int) = 0)) ms q.1).length ((bestK (fun l => decide (((roomsRef n E gs l n).length : Int) = 0)) ms q.1).map (.int .i64)) ++ [(b1, true, cel (scnV n A gs.length c E B ms.length c2) 25)]) (fun q => 2 ^ ms.length - 1 - q.1) (0, rr) ⟨Nat.zero_le _, hrr0⟩ ⟨rfl, rfl, rfl, trivial⟩ (List.Sublist.refl _) ?_
 rintro ⟨k, rb⟩ ⟨hk, hrb⟩
 have hk : k ≤ 2 ^ ms.length - 1 := hk
 have hrb : rb = none → (bestK (fun l => decide (((roomsRef n E gs l n).length : Int) = 0)) ms k).length = 0 := hrb
 with_reducible ((repeat refine xc_seq ?_); refine xcR ?_)
 refine xo_mv rfl rfl rfl ?_
 refine xo_loadN T_ (b := b1) (wr := true) (cs := scnV n A gs.length c E B ms.length c2) (te := 25) rfl rfl rfl (by repeat first | exact memH | apply memT | apply memA) rfl rfl ?_
 refine xo_callB (fs := []) (cs := []) rfl rfl rfl every_enters rfl (fun w1 hw1 => every_calls n E A B gs.length c c2 ms w1 hm8) ?_
 refine xo_lss rfl rfl rfl rfl ?_
 with_reducible (refine xo_nil ?_; (repeat (first | refine xqT ?_ | refine xqB ?_ | refine xqS ?_)); (repeat refine xc_seq ?_))
 refine xc_cond rfl (fun h => ?_) (fun h => ?_)
 · have hlt : k < 2 ^ ms.length - 1 := by
     have h' : ((k : Nat) : Int) < ((2 ^ ms.length - 1 : Nat) : Int) := of_decide_eq_true h
     omega
   have hst : bestK (fun l => decide (((roomsRef n E gs l n).length : Int) = 0)) ms (k + 1) = if (shorterF (idsL (setOf ms k)) (bestK (fun l => decide (((roomsRef n E gs l n).length : Int) = 0)) ms k) && decide (((roomsRef n E gs (setOf ms k) n).length : Int) = 0)) = true then idsL (setOf ms k) else (bestK (fun l => decide (((roomsRef n E gs l n).length : Int) = 0)) ms k) := rfl
   have hbl := bestK_len (fun l => decide (((roomsRef n E gs l n).length : Int) = 0)) ms k
   have hil := idsS_len ms k
   generalize bestK (fun l => decide (((roomsRef n E gs l n).length : Int) = 0)) ms k = b at hrb hst hbl
   with_reducible (refine xc_skip ?_; (repeat (first | refine xqT ?_ | refine xqB ?_ | refine xqS ?_)); (repeat refine xc_seq ?_); refine xc_block ?_; (repeat refine xc_seq ?_); refine xcR ?_)
   refine xo_loadN T_ (b := b1) (wr := true) (cs := scnV n A gs.length c E B ms.length c2) (te := 25) rfl rfl rfl (by repeat first | exact memH | apply memT | apply memA) rfl rfl ?_
   refine xo_mv rfl rfl rfl ?_
   refine xo_call (fs := []) (cs := []) rfl rfl rfl members_enters rfl (fun w1 hw1 => (members_calls n E A B gs.length c c2 ms k w1 (hM.below hw1.kx.below) hm8 (by omega)).mono ?_)
   rintro e w2 ⟨rl, rfl, hrw, hb⟩
   have h11 := hrw.1
   refine ⟨_, _, rfl, hw1.row hb hrw, ?_⟩
   clear hrw hb hw1
   refine xo_asg rfl rfl rfl ?_
   with_reducible (refine xo_nil ?_; (repeat (first | refine xqT ?_ | refine xqB ?_ | refine xqS ?_)))
   have hrl : rl = none → (idsL (setOf ms k)).length = 0 := fun q => by rw [h11 q]; rfl
   clear h11
   generalize hls : idsL (setOf ms k) = l at hst hil hrl
   refine xc_slots [(1, .pointer (some ⟨b1, 0, none⟩)), (4, .slice (valA rb) b.length (valC rb)), (5, .int .i64 (k : Int)), (6, .slice (valA rl) l.length (valC rl))] ⟨rfl, rfl, rfl, congrArg some (valR_eq hrl), trivial⟩ ?_
   with_reducible (repeat refine xc_seq ?_)
   refine xc_meet2 (γ := Unit) (fun _ => True) (fun _ => [(1, .pointer (some ⟨b1, 0, none⟩)), (4, .slice (valA rb) b.length (valC rb)), (5, .int .i64 (k : Int)), (6, .slice (valA rl) l.length (valC rl)), (38, .bool (shorterF l b && decide (((roomsRef n E gs (setOf ms k) n).length : Int) = 0)))]) (fun _ => hpR 3 1 rl l.length (l.map (.int .i64)) ++ (hpR 3 1 rb b.length (b.map (.int .i64)) ++ [(b1, true, cel (scnV n A gs.length c E B ms.length c2) 25)])) ?_ (fun _ _ => ?_)
   · with_reducible refine xcR ?_
     refine xo_mv rfl rfl rfl ?_
     refine xo_mv rfl rfl rfl ?_
     refine xo_callB (fs := []) (cs := []) rfl rfl rfl shorter_enters rfl (fun w1 hw1 => shorter_calls (valA rl) (valA rb) (valC rl) (valC rb) l b w1 (intsAt_row (hw1.bl_of fun e he => List.mem_append_left _ he) hrl) (intsAt_row (hw1.bl_of fun e he => List.mem_append_right _ (List.mem_append_left _ he)) hrb) (by omega)) ?_
     refine xo_mv rfl rfl rfl ?_
     first
       | refine xo_lit (i := 32) (b := true) rfl ?_
       | refine xo_lit (i := 32) (b := false) rfl ?_
       | refine xo_split (i := 32) rfl rfl (fun h32 => ?_) (fun h32 => ?_)
     all_goals
       try simp only [decide_eq_true_eq, decide_eq_false_iff_not] at h32
       (first | refine xo_not rfl rfl ?_ | (refine xo_loadN T_ (b := b1) (wr := true) (cs := scnV n A gs.length c E B ms.length c2) (te := 25) rfl rfl rfl (by repeat first | exact memH | apply memT | apply memA) rfl rfl ?_))
       (first | refine xo_not rfl rfl ?_ | (refine xo_mv rfl rfl rfl ?_))
       first
         | refine xo_not rfl rfl ?_
         | (refine xo_call (fs := []) (cs := []) rfl rfl rfl rrooms_enters rfl (fun w1 hw1 => (rrooms_calls n E A B c c2 gs ms k w1 (hsR w1 hw1.kx.below) (by omega)).mono ?_)
            rintro e w2 ⟨r9, rfl, hrw9, hb9⟩
            have h19 := hrw9.1
            refine ⟨_, _, rfl, hw1.below hb9, ?_⟩
            clear hrw9 hb9 hw1)
       (first | refine xo_not rfl rfl ?_ | (refine xo_len T_ rfl (show _ = some (Value.slice (valA r9) (roomsRef n E gs (setOf ms k) n).length (valC r9)) from congrArg some (valR_eq (fun q => by have := h19 q; simpa [intsN] using this))) rfl rfl ?_))
       (first | refine xo_not rfl rfl ?_ | (refine xo_eql rfl rfl rfl rfl ?_))
       first | refine xo_pickT rfl rfl rfl rfl ?_ | refine xo_pickF rfl rfl rfl rfl ?_
       with_reducible refine xo_nil ?_
       exact xq_meet (fun _ => True) _ _ () trivial ⟨(by first | rfl | exact congrArg (fun b => some (Value.bool b)) (by first | simp [h32] | simp [])), (by first | rfl | exact congrArg (fun b => some (Value.bool b)) (by first | simp [h32] | simp [])), (by first | rfl | exact congrArg (fun b => some (Value.bool b)) (by first | simp [h32] | simp [])), (by first | rfl | exact congrArg (fun b => some (Value.bool b)) (by first | simp [h32] | simp [])), (by first | rfl | exact congrArg (fun b => some (Value.bool b)) (by first | simp [h32] | simp [])), trivial⟩ (List.Sublist.refl _)
   with_reducible (repeat (first | refine xqT ?_ | refine xqB ?_ | refine xqS ?_))
   cases hq : (shorterF l b && decide (((roomsRef n E gs (setOf ms k) n).length : Int) = 0))
   · rw [hq, if_neg Bool.false_ne_true] at hst
     with_reducible (repeat refine xc_seq ?_)
     refine xc_condF rfl ?_
     with_reducible (refine xc_skip ?_; (repeat (first | refine xqT ?_ | refine xqB ?_ | refine xqS ?_)); (repeat refine xc_seq ?_); refine xcR ?_)
     refine xo_mv rfl rfl rfl ?_
     refine xo_add rfl rfl rfl (by omega) rfl ?_
     refine xo_asg rfl rfl rfl ?_
     with_reducible (refine xo_nil ?_; (repeat (first | refine xqT ?_ | refine xqB ?_ | refine xqS ?_)))
     exact xq_again _ _ _ _ _ (k + 1, rb) ⟨hlt, fun q => by rw [hst]; exact hrb q⟩ (by simp only; omega) ⟨rfl, by rw [hst]; rfl, rfl, trivial⟩ (by rw [hst]; exact List.sublist_append_right _ _)
   · rw [hq, if_pos rfl] at hst
     with_reducible (repeat refine xc_seq ?_)
     refine xc_condT rfl ?_
     with_reducible ((repeat refine xc_seq ?_); refine xcR ?_)
     refine xo_mv rfl rfl rfl ?_
     refine xo_asg rfl rfl rfl ?_
     with_reducible (refine xo_nil ?_; (repeat (first | refine xqT ?_ | refine xqB ?_ | refine xqS ?_)); (repeat refine xc_seq ?_); refine xcR ?_)
     refine xo_mv rfl rfl rfl ?_
     refine xo_add rfl rfl rfl (by omega) rfl ?_
     refine xo_asg rfl rfl rfl ?_
     with_reducible (refine xo_nil ?_; (repeat (first | refine xqT ?_ | refine xqB ?_ | refine xqS ?_)))
     exact xq_again _ _ _ _ _ (k + 1, rl) ⟨hlt, fun q => by rw [hst]; exact hrl q⟩ (by simp only; omega) ⟨rfl, by rw [hst]; rfl, rfl, trivial⟩ (by rw [hst]; exact List.Sublist.append_left (List.sublist_append_right _ _) _)
 have hge : k = 2 ^ ms.length - 1 := by
   have h' : ¬ ((k : Nat) : Int) < ((2 ^ ms.length - 1 : Nat) : Int) := of_decide_eq_false h
   omega
 subst hge
 with_reducible (refine xc_exit ?_; (repeat (first | refine xq_blockX ?_ | refine xq_thenE ?_ | refine xq_blockE rfl ?_ | refine xq_scopeE ?_)); (repeat (first | refine xqT ?_ | refine xqB ?_ | refine xqS ?_)))
 refine xc_slots [(4, valR rb (bestR (fun l => decide (((roomsRef n E gs l n).length : Int) = 0)) ms).length)] ⟨congrArg some (valR_eq hrb).symm, trivial⟩ ?_
 with_reducible ((repeat refine xc_seq ?_); refine xcR ?_)
 refine xo_mv rfl rfl rfl ?_
 refine xo_asg rfl rfl rfl ?_
 refine xo_asg rfl rfl rfl ?_
 with_reducible (refine xo_nil ?_; (repeat (first | refine xqT ?_ | refine xqB ?_ | refine xqS ?_)); (repeat refine xc_seq ?_); refine xc_ret ?_; (repeat (first | refine xq_thenR ?_ | refine xq_blockR ?_ | refine xq_scopeR ?_)))
 exact xq_ret2 rfl rfl rfl fun w' hw => ⟨rb, rfl, RowAt.of hw (fun q => List.eq_nil_of_length_eq_zero (hrb q)), hw.kx.below⟩
theorem ragainst_enters : ∀ args w, (callFunc 17 args).run Tryz.prog w = .ok (.enter 17 args) w := enters_of Tryz.func17 (by kernel_rfl) rfl
theorem Wk.len {es : List Edge3} (h60 : ∀ e ∈ es, e.2.2 ≤ 60) {b a : Nat} {p : List Nat} {n : Int} (h : Wk es b a p n) : n ≤ 60 * ((p.length : Int) - 1) := by
 induction h with
 | nil => simp
 | @cons a c p n l h _ ih =>
   have h6 : l ≤ 60 := h.elim (fun q => h60 (a, c, l) q) (fun q => h60 (c, a, l) q)
   simp only [List.length_cons]
   omega
theorem far_same {n : Nat} {gs : List GatT} {l : List Int} {room v : Nat} (hn : 1 ≤ n ∧ n ≤ 6) (hG : GatesR n gs) (hl : okD gs l) (hr : room < n) (hv : v < n) :
   (farM n gs l room v = dR n gs room l v ∧ 0 ≤ dR n gs room l v ∧ dR n gs room l v ≤ 300) ∨ (farM n gs l room v = 1073741824 ∧ dR n gs room l v = 1000000) := by
 have hp := okD_pos hl fun g hg => (hG.ok g hg).2.2.2.1
 have h60 : ∀ e ∈ edgesL gs l, e.2.2 ≤ 60 := fun e he => by
   obtain ⟨i, hi, rfl⟩ := List.getElem_of_mem he
   have hll := okD_len hl
   rw [edges_len hll] at hi
   have h1 := edges_at hll i hi
   rw [List.getElem?_eq_getElem (by rw [edges_len hll]; exact hi)] at h1
   rw [Option.some.inj h1]
   have h2 := okD_at hl i hi
   have h3 := hG.ok _ (getD_mem gs zGat i hi)
   simp only [edgeL]
   omega
 have hF : Fine (edgesL gs l) n := fun e he => by
   obtain ⟨g, hg, h1, h2⟩ := edges_from e he
   have h3 := hG.ok g hg
   exact ⟨by omega, by omega, hp e he⟩
 have hne := edges_ne hG l
 have d1 := fw_dist hF hne (N := nvr) (by decide) hr
 have d2 := rounds_dist hF hne (N := 1000000) (by decide) hr
 have key : ∀ {N : Int} {d : Nat → Int}, Dist (edgesL gs l) n N room d → 300 < N → (d v ≤ 300 ∧ d v < N) ∨ ∀ p m, ¬ Wk (edgesL gs l) room v p m := fun {N d} h hN => by
   by_cases hw : ∃ p m, Wk (edgesL gs l) room v p m
   · obtain ⟨p, m, hw⟩ := hw
     obtain ⟨q, k, h1, h2, h3⟩ := hw.simple hF
     have h4 := h1.len h60
     have h5 := nodup_le n q h2 (h1.room hF hr)
     have h6 := h.least v hv q k h1
     left
     omega
   · right
     exact fun p m q => hw ⟨p, m, q⟩
 have k1 := key d1 (by decide)
 have k2 := key d2 (by decide)
 have p2 := d2.pos hF (by decide) hv
 rcases Dist.same d1 d2 hv (k1.imp_left (·.2)) (k2.imp_left (·.2)) with e | ⟨e1, e2⟩
 · rcases k2 with ⟨q, _⟩ | q
   · exact .inl ⟨e, p2, q⟩
   · right
     refine ⟨(d1.is v hv).resolve_right fun ⟨p, w⟩ => q p _ w, (d2.is v hv).resolve_right fun ⟨p, w⟩ => q p _ w⟩
 · exact .inr ⟨e1, e2⟩
/-- a minute in a window -/
def inS (s : SpaT) (z : Int) : Prop := s.f0 ≤ z ∧ z ≤ s.f1
/-- windows that say the same, within a scene's time -/
def Eqv (E : Int) (s t : SpaT) : Prop := (∀ z, inS s z ↔ inS t z) ∧ ∀ z, inS s z → 0 ≤ z ∧ z ≤ E
theorem Eqv.le {E : Int} {s t : SpaT} (h : Eqv E s t) : decide (s.f0 ≤ s.f1) = decide (t.f0 ≤ t.f1) := by
 rw [Bool.eq_iff_iff, decide_eq_true_eq, decide_eq_true_eq]
 have h1 := h.1 s.f0
 have h2 := h.1 t.f0
 unfold inS at h1 h2
 omega
theorem Eqv.eq {E : Int} {s t : SpaT} (h : Eqv E s t) (hle : s.f0 ≤ s.f1) : s = t := by
 have h1 := h.1 s.f0
 have h2 := h.1 s.f1
 have h3 := h.1 t.f0
 have h4 := h.1 t.f1
 unfold inS at h1 h2 h3 h4
 obtain ⟨a, b⟩ := s
 obtain ⟨c, d⟩ := t
 simp only at h1 h2 h3 h4 hle
 have e1 : a = c := by omega
 have e2 : b = d := by omega
 rw [e1, e2]
theorem in_com (x y : SpaT) (z : Int) : inS (comF x y) z ↔ inS x z ∧ inS y z := by
 unfold inS
 rw [show (comF x y).f0 = if x.f0 < y.f0 then y.f0 else x.f0 from rfl, show (comF x y).f1 = if y.f1 < x.f1 then y.f1 else x.f1 from rfl]
 split <;> split <;> omega
theorem Eqv.com {E : Int} {s t x y : SpaT} (h : Eqv E s t) (hx : ∀ z, 0 ≤ z → z ≤ E → (inS x z ↔ inS y z)) : Eqv E (comF s x) (comF t y) := by
 refine ⟨fun z => ?_, fun z hz => h.2 z ((in_com _ _ _).1 hz).1⟩
 rw [in_com, in_com]
 constructor
 · rintro ⟨h1, h2⟩
   have := h.2 z h1
   exact ⟨(h.1 z).1 h1, (hx z this.1 this.2).1 h2⟩
 · rintro ⟨h1, h2⟩
   have h1 := (h.1 z).2 h1
   have := h.2 z h1
   exact ⟨h1, (hx z this.1 this.2).2 h2⟩
theorem in_after {n d z : Int} (hz : 0 ≤ z ∧ z ≤ 600) : inS (afterF n d) z ↔ (d = 1073741824 ∨ n + 1 - d ≤ z) := by
 unfold afterF inS
 split
 · simp only
   omega
 · simp only
   omega
theorem in_until {n d z : Int} (hz : 0 ≤ z ∧ z ≤ 600) : inS (untilF n d) z ↔ (d ≠ 1073741824 ∧ z ≤ n - d) := by
 unfold untilF nowhereF inS
 split
 · simp only
   omega
 · simp only
   omega
theorem in_lit {a b z : Int} : inS ⟨a, b⟩ z ↔ a ≤ z ∧ z ≤ b := Iff.rfl
theorem in_ite {p : Prop} [Decidable p] {s t : SpaT} {z : Int} : inS (if p then s else t) z ↔ (p ∧ inS s z) ∨ (¬ p ∧ inS t z) := by
 by_cases h : p
 · rw [if_pos h]; simp [h]
 · rw [if_neg h]; simp [h]
/-- what a mark says is the same -/
theorem says_same {n : Nat} {E : Int} {D d : Nat → Int} {m : MarT} (hE : 0 ≤ E ∧ E ≤ 600) (hm : MarkR n m) (hd : ∀ v, v < n → (D v = d v ∧ 0 ≤ d v ∧ d v ≤ 300) ∨ (D v = 1073741824 ∧ d v = 1000000)) {s t : SpaT} (h : Eqv E s t) : Eqv E (comF s (saysF E D m)) (comF t (windowF E d m)) := by
 obtain ⟨⟨hk, hb, ho, hlo, hhi, hlong⟩, hroom, hother⟩ := hm
 have h1 := hd m.f2.toNat (by omega)
 have h2 := hd m.f3.toNat (by omega)
 refine h.com fun z hz1 hz2 => ?_
 have hz : 0 ≤ z ∧ z ≤ 600 := by omega
 unfold windowF saysF
 generalize D m.f2.toNat = X at h1 ⊢
 generalize D m.f3.toNat = Y at h2 ⊢
 generalize d m.f2.toNat = x at h1 ⊢
 generalize d m.f3.toNat = y at h2 ⊢
 unfold windowV noneS nowhereF
 have hc : m.f1 = 1 ∨ m.f1 = 2 ∨ m.f1 = 3 ∨ m.f1 = 4 ∨ m.f1 = 5 ∨ m.f1 = 6 := by omega
 rcases hc with hc | hc | hc | hc | hc | hc
 · rw [if_pos (show m.f1 ≤ 1 by omega), if_pos hc, in_com, in_after hz, in_until hz, in_ite, in_lit, in_lit]
   omega
 · rw [if_neg (show ¬ m.f1 ≤ 1 by omega), if_pos (show m.f1 ≤ 2 by omega), if_neg (show ¬ m.f1 = 1 by omega), if_pos hc, in_after hz, in_ite, in_lit, in_lit]
   omega
 · rw [if_neg (show ¬ m.f1 ≤ 1 by omega), if_neg (show ¬ m.f1 ≤ 2 by omega), if_pos (show m.f1 ≤ 3 by omega), if_neg (show ¬ m.f1 = 1 by omega), if_neg (show ¬ m.f1 = 2 by omega), if_pos hc, in_until hz, in_ite, in_lit, in_lit]
   omega
 · rw [if_neg (show ¬ m.f1 ≤ 1 by omega), if_neg (show ¬ m.f1 ≤ 2 by omega), if_neg (show ¬ m.f1 ≤ 3 by omega), if_pos (show m.f1 ≤ 4 by omega), if_neg (show ¬ m.f1 = 1 by omega), if_neg (show ¬ m.f1 = 2 by omega), if_neg (show ¬ m.f1 = 3 by omega), if_pos hc, in_until hz, in_ite, in_lit, in_lit]
   omega
 · rw [if_neg (show ¬ m.f1 ≤ 1 by omega), if_neg (show ¬ m.f1 ≤ 2 by omega), if_neg (show ¬ m.f1 ≤ 3 by omega), if_neg (show ¬ m.f1 ≤ 4 by omega), if_pos (show m.f1 ≤ 5 by omega), if_neg (show ¬ m.f1 = 1 by omega), if_neg (show ¬ m.f1 = 2 by omega), if_neg (show ¬ m.f1 = 3 by omega), if_neg (show ¬ m.f1 = 4 by omega), if_pos hc, in_after hz, in_ite, in_lit, in_lit]
   omega
 · rw [if_neg (show ¬ m.f1 ≤ 1 by omega), if_neg (show ¬ m.f1 ≤ 2 by omega), if_neg (show ¬ m.f1 ≤ 3 by omega), if_neg (show ¬ m.f1 ≤ 4 by omega), if_neg (show ¬ m.f1 ≤ 5 by omega), if_neg (show ¬ m.f1 = 1 by omega), if_neg (show ¬ m.f1 = 2 by omega), if_neg (show ¬ m.f1 = 3 by omega), if_neg (show ¬ m.f1 = 4 by omega), if_neg (show ¬ m.f1 = 5 by omega), if_pos hc, in_ite, in_ite, in_lit, in_lit, in_lit, in_lit]
   omega
theorem win_same {n : Nat} {E : Int} {D d : Nat → Int} (hE : 0 ≤ E ∧ E ≤ 600) (hd : ∀ v, v < n → (D v = d v ∧ 0 ≤ d v ∧ d v ≤ 300) ∨ (D v = 1073741824 ∧ d v = 1000000)) (l : List MarT) (hl : ∀ m ∈ l, MarkR n m) : Eqv E (winF E D l) (winR E d l) := by
 have key : ∀ (l : List MarT) (s t : SpaT), (∀ m ∈ l, MarkR n m) → Eqv E s t → Eqv E (l.foldl (fun s m => comF s (saysF E D m)) s) (l.foldl (fun s m => comF s (windowF E d m)) t) := by
   intro l
   induction l with
   | nil => intro s t _ h; exact h
   | cons m l ih => intro s t hl h; exact ih _ _ (fun q hq => hl q (List.mem_cons_of_mem _ hq)) (says_same hE (hl m List.mem_cons_self) hd h)
 exact key l ⟨0, E⟩ ⟨0, E⟩ hl ⟨fun z => Iff.rfl, fun z hz => hz⟩
/-- a scene's numbers -/
structure Sane (n : Nat) (E : Int) (gs : List GatT) : Prop where
 n6 : 1 ≤ n ∧ n ≤ 6
 E6 : 0 ≤ E ∧ E ≤ 600
 G : GatesR n gs
theorem win_at {n : Nat} {E : Int} {gs : List GatT} (h : Sane n E gs) {ls : List MarT} (hm : ∀ m ∈ ls, MarkR n m) {room : Nat} (hr : room < n) {l : List Int} (hl : l ∈ allD gs) : Eqv E (winF E (farM n gs l room) ls) (winR E (dR n gs room l) ls) := win_same h.E6 (fun v hv => far_same h.n6 h.G (allD_ok _ hl) hr hv) ls hm
theorem can_iff {E : Int} {R : Nat} {gs : List GatT} {room : Nat} {ms : List MarT} : canF E R gs room ms = true ↔ ∃ l ∈ allD gs, (winF E (farM R gs l room) ms).f0 ≤ (winF E (farM R gs l room) ms).f1 := by
 unfold canF
 rw [Bool.not_eq_true', List.isEmpty_eq_false_iff_exists_mem]
 constructor
 · rintro ⟨x, hx⟩
   obtain ⟨h1, h2, h3⟩ := beganL_mem.1 hx
   rw [h2] at h3
   exact ⟨_, getD_mem (allD gs) [] x.1 h1, h3⟩
 · rintro ⟨l, hl, h⟩
   obtain ⟨i, hi, rfl⟩ := List.getElem_of_mem hl
   have e : (allD gs).getD i [] = (allD gs)[i] := by simp [List.getD_eq_getElem?_getD, List.getElem?_eq_getElem hi]
   exact ⟨(i, winF E (farM R gs (allD gs)[i] room) ms), beganL_mem.2 ⟨hi, by rw [e], h⟩⟩
theorem can_same {n : Nat} {E : Int} {gs : List GatT} (h : Sane n E gs) {ls : List MarT} (hm : ∀ m ∈ ls, MarkR n m) {room : Nat} (hr : room < n) : canF E n gs room ls = someR n E gs room ls := by
 rw [Bool.eq_iff_iff, can_iff]
 unfold someR
 rw [List.any_eq_true]
 constructor
 · rintro ⟨l, hl, h1⟩
   have := (win_at h hm hr hl).le
   exact ⟨l, hl, by unfold holdsR; rw [← this, decide_eq_true h1]⟩
 · rintro ⟨l, hl, h1⟩
   have := (win_at h hm hr hl).le
   unfold holdsR at h1
   rw [← this] at h1
   exact ⟨l, hl, of_decide_eq_true h1⟩
theorem rooms_same {n : Nat} {E : Int} {gs : List GatT} (h : Sane n E gs) {ls : List MarT} (hm : ∀ m ∈ ls, MarkR n m) : roomsN E n gs ls = roomsRef n E gs ls n := List.filter_congr fun r hr => can_same h hm (List.mem_range.1 hr)
/-! ### all marks -/
theorem bitN_full {n i : Nat} (h : i < n) : bitN (2 ^ n - 1) i = true := by
 have := Nat.testBit_two_pow_sub_one n i
 rw [Nat.testBit_eq_decide_div_mod_eq, decide_eq_true h] at this
 unfold bitN
 rw [decide_eq_true_eq]
 have := of_decide_eq_true this
 omega
theorem setOf_full (ms : List MarT) : setOf ms (2 ^ ms.length - 1) = ms := by
 have key : ∀ k, k ≤ ms.length → chosenL (2 ^ ms.length - 1) ms k = ms.take k := by
   intro k
   induction k with
   | zero => intro _; rfl
   | succ k ih =>
     intro hk
     rw [chosenL, if_pos (bitN_full (by omega)), ih (by omega), List.take_add_one, List.getElem?_eq_getElem (by omega)]
     simp [List.getD_eq_getElem?_getD, List.getElem?_eq_getElem (show k < ms.length by omega)]
 unfold setOf
 rw [key _ (Nat.le_refl _), List.take_length]
theorem setOf_mem {ms : List MarT} {s : Nat} {m : MarT} (h : m ∈ setOf ms s) : m ∈ ms := chosenL_mem s ms ms.length (Nat.le_refl _) m h
/-! ### the fewest -/
theorem less_cmp : ∀ (a b : List MarT), a.length = b.length → lessL (idsL a) (idsL b) = decide (cmpL a b < 0)
 | [], [], _ => rfl
 | [], _ :: _, h => by simp at h
 | _ :: _, [], h => by simp at h
 | x :: xs, y :: ys, h => by
   have ih := less_cmp xs ys (by simpa using h)
   simp only [idsL, List.map_cons] at ih ⊢
   rw [lessL, cmpL]
   by_cases e : x.f0 = y.f0
   · rw [if_pos e, if_pos (by omega), ih]
   · rw [if_neg e, if_neg (by omega), Bool.eq_iff_iff, decide_eq_true_eq, decide_eq_true_eq]
     omega
theorem shorter_cmp (a b : List MarT) : shorterF (idsL a) (idsL b) = decide (cmpS a b < 0) := by
 unfold shorterF cmpS
 have l1 : (idsL a).length = a.length := by simp [idsL]
 have l2 : (idsL b).length = b.length := by simp [idsL]
 rw [l1, l2]
 by_cases e : (a.length : Int) = b.length
 · rw [if_pos e, if_pos e, less_cmp a b (by omega)]
 · rw [if_neg e, if_neg e, Bool.eq_iff_iff, decide_eq_true_eq, decide_eq_true_eq]
   omega
theorem bestK_spec (p : List MarT → Bool) (ms : List MarT) (hfull : p (setOf ms (2 ^ ms.length - 1)) = true) : ∀ k, k ≤ 2 ^ ms.length - 1 → ∃ j, j < 2 ^ ms.length ∧ bestK p ms k = idsL (setOf ms j) ∧ p (setOf ms j) = true ∧ ¬ cmpS (setOf ms (2 ^ ms.length - 1)) (setOf ms j) < 0 ∧ ∀ i, i < k → p (setOf ms i) = true → ¬ cmpS (setOf ms i) (setOf ms j) < 0
 | 0, _ => ⟨2 ^ ms.length - 1, by have := Nat.two_pow_pos ms.length; omega, rfl, hfull, cmpS_irr _, fun i hi => absurd hi (Nat.not_lt_zero _)⟩
 | k + 1, hk => by
   obtain ⟨j, h1, h2, h3, h4, h5⟩ := bestK_spec p ms hfull k (by omega)
   rw [bestK, h2, shorter_cmp]
   by_cases hlt : cmpS (setOf ms k) (setOf ms j) < 0 ∧ p (setOf ms k) = true
   · rw [if_pos (by rw [decide_eq_true hlt.1, hlt.2]; rfl)]
     refine ⟨k, by omega, rfl, hlt.2, fun q => h4 (cmpS_trans _ _ _ q hlt.1), fun i hi hp => ?_⟩
     by_cases e : i = k
     · subst e; exact cmpS_irr _
     · exact fun q => h5 i (by omega) hp (cmpS_trans _ _ _ q hlt.1)
   · rw [if_neg (by rw [Bool.and_eq_true, decide_eq_true_eq]; exact hlt)]
     refine ⟨j, h1, rfl, h3, h4, fun i hi hp => ?_⟩
     by_cases e : i = k
     · subst e; exact fun q => hlt ⟨q, hp⟩
     · exact h5 i (by omega) hp
theorem fewest_same (p q : List MarT → Bool) (ms : List MarT) (hpq : ∀ s, p (setOf ms s) = q (setOf ms s)) (hfull : p (setOf ms (2 ^ ms.length - 1)) = true) : fewestL p (allSets ms) = bestR q ms := by
 have hpos := Nat.two_pow_pos ms.length
 obtain ⟨j, h1, h2, h3, h4, h5⟩ := bestK_spec q ms (by rw [← hpq]; exact hfull) (2 ^ ms.length - 1) (Nat.le_refl _)
 unfold bestR fewestL bestL
 rw [h2]
 rcases best_spec p (allSets ms) none (fun q hq => by cases hq) with ⟨_, _, k3⟩ | ⟨r, k1, k2, k3, k4, _⟩
 · have := k3 (setOf ms (2 ^ ms.length - 1)) (List.mem_map.2 ⟨_, List.mem_range.2 (by omega), rfl⟩)
   rw [hfull] at this
   cases this
 · rw [k1]
   simp only
   have hr := k3.resolve_right fun x => by cases x
   obtain ⟨i, hi, rfl⟩ := List.mem_map.1 hr
   have hi := List.mem_range.1 hi
   refine cmpS_ids _ _ ?_ (k4 _ (List.mem_map.2 ⟨j, List.mem_range.2 h1, rfl⟩) (by rw [hpq]; exact h3))
   by_cases e : i = 2 ^ ms.length - 1
   · rw [e]; exact h4
   · exact h5 i (by omega) (by rw [← hpq]; exact k2)
theorem sane_of {R E : Int} {n : Nat} {gs : List GatT} {ms : List MarT} (hR : R = n) (h : sceneF R E gs ms = true) : Sane n E gs ∧ ∀ m ∈ ms, MarkR n m := by
 subst hR
 obtain ⟨hR6, hE6, hG, hm8, hmk⟩ := sceneF_ok h
 refine ⟨⟨by omega, hE6, hG⟩, ?_⟩
 exact markR_of h
theorem why_same (R E : Int) (gs : List GatT) (ms : List MarT) (room : Int) : whyC R E gs ms room = rwhyC R E gs ms room ∧ whyL R E gs ms room = rwhyL R E gs ms room := by
 have hC : whyC R E gs ms room = rwhyC R E gs ms room := by
   unfold whyC rwhyC roomOK
   by_cases h : sceneF R E gs ms = true
   · rw [if_pos h, if_pos h]
     by_cases hr : inF 0 (R - 1) room = true
     · rw [if_pos hr, if_pos hr]
       obtain ⟨hR6, _⟩ := sceneF_ok h
       have hrr := inF_iff.1 hr
       obtain ⟨hs, hm⟩ := sane_of (n := R.toNat) (by omega) h
       rw [setOf_full, can_same hs hm (by omega)]
     · rw [if_neg hr, if_neg hr]
   · rw [if_neg h, if_neg h]
 refine ⟨hC, ?_⟩
 unfold whyL rwhyL
 rw [hC]
 by_cases h0 : rwhyC R E gs ms room = 0
 · rw [if_pos h0, if_pos h0]
   have h : sceneF R E gs ms = true := by
     apply Classical.byContradiction
     intro q
     rw [rwhyC, if_neg q] at h0
     cases h0
   have hr : inF 0 (R - 1) room = true := by
     apply Classical.byContradiction
     intro q
     rw [rwhyC, if_pos h, if_neg q] at h0
     cases h0
   obtain ⟨hR6, _⟩ := sceneF_ok h
   have hrr := inF_iff.1 hr
   obtain ⟨hs, hm⟩ := sane_of (n := R.toNat) (by omega) h
   refine fewest_same _ _ ms (fun s => by rw [can_same hs (fun m q => hm m (setOf_mem q)) (by omega)]) ?_
   rw [setOf_full]
   rw [rwhyC, if_pos h, if_pos hr, setOf_full] at h0
   cases hsm : someR R.toNat E gs room.toNat ms
   · rw [can_same hs hm (by omega), hsm]; rfl
   · rw [hsm, if_pos rfl] at h0; cases h0
 · rw [if_neg h0, if_neg h0]
theorem against_same (R E : Int) (gs : List GatT) (ms : List MarT) : againstL R E gs ms = ragainstL R E gs ms := by
 unfold againstL ragainstL
 by_cases h : sceneF R E gs ms = true
 · obtain ⟨hR6, _⟩ := sceneF_ok h
   obtain ⟨hs, hm⟩ := sane_of (n := R.toNat) (by omega) h
   rw [setOf_full, ← rooms_same hs hm]
   by_cases h0 : sceneF R E gs ms = true ∧ (roomsN E R.toNat gs ms).length = 0
   · rw [if_pos h0, if_pos h0]
     refine fewest_same _ _ ms (fun s => by rw [rooms_same hs (fun m q => hm m (setOf_mem q))]) ?_
     rw [setOf_full, decide_eq_true_eq]
     omega
   · rw [if_neg h0, if_neg h0]
 · rw [if_neg (fun q => h q.1), if_neg (fun q => h q.1)]
theorem u8_of {n : Int} (h : (Lit.int .u8 n).wf = true) : 0 ≤ n ∧ n ≤ 255 := by
 simp only [Lit.wf, Bool.and_eq_true, decide_eq_true_eq] at h
 exact h
theorem gates_C {w : World} {b cap : Nat} {gs : List GatT} (hl : gs.length ≤ 1000000) (h : BlIn [(b, true, orow 52 4 gs.length cap (gatL gs))] w) : Kd.C gatK w (some ⟨b, 0, none⟩) gs.length gs := by
 obtain ⟨o, h1, h2⟩ := h _ List.mem_cons_self
 refine C_row (d := gatK) (cells := gs.map gatV) (cap := cap) h1 (e := 52) (by rw [List.length_map]; exact h2) (by simp) (by intro c hc; obtain ⟨x, _, rfl⟩ := List.mem_map.1 hc; rfl) (fun j x c hx hcx => ?_) (by omega)
 rw [List.getElem?_map, hx] at hcx
 obtain rfl := Option.some.inj hcx
 exact k52_mk w x
theorem marks_C {w : World} {b cap : Nat} {ms : List MarT} (hl : ms.length ≤ 1000000) (h : BlIn [(b, true, orow 56 7 ms.length cap (marL ms))] w) : Kd.C marK w (some ⟨b, 0, none⟩) ms.length ms := by
 obtain ⟨o, h1, h2⟩ := h _ List.mem_cons_self
 refine C_row (d := marK) (cells := ms.map marV) (cap := cap) h1 (e := 56) (by rw [List.length_map]; exact h2) (by simp) (by intro c hc; obtain ⟨x, _, rfl⟩ := List.mem_map.1 hc; rfl) (fun j x c hx hcx => ?_) (by omega)
 rw [List.getElem?_map, hx] at hcx
 obtain rfl := Option.some.inj hcx
 exact k56_mk w x
theorem C_none {α : Type} {d : Kd α} {w : World} {A : Option Addr} {xs : List α} (h : Kd.C d w A xs.length xs) (e : A = none) : xs.length = 0 := by
 subst e
 by_cases h0 : xs.length = 0
 · exact h0
 · obtain ⟨ad, e, _⟩ := h.2.2 (by omega)
   cases e
theorem rwhyL_len (R E : Int) (gs : List GatT) (ms : List MarT) (room : Int) : (rwhyL R E gs ms room).length ≤ ms.length := by
 unfold rwhyL
 split
 · exact bestK_len _ ms _
 · simp
theorem ragainstL_len (R E : Int) (gs : List GatT) (ms : List MarT) : (ragainstL R E gs ms).length ≤ ms.length := by
 unfold ragainstL
 split
 · exact bestK_len _ ms _
 · simp
set_option maxHeartbeats 16000000 in
theorem originExcludes_law (R E : Int) (A B : Option Addr) (c c2 : Nat) (gs : List GatT) (ms : List MarT) (room : Int) (w : World) (hA : Kd.C gatK w A gs.length gs) (hB : Kd.C marK w B ms.length ms) (hk : BytesK ms) (hglob : GlobO w) :
   Calls Tryz.prog 3 #[.agg (scnV R A gs.length c E B ms.length c2).toArray, .int .i64 room] w fun e w' => e = .returned (.bool true) ∧ Below w.heap.size w w' := by
 refine x_calls (X := XNone) Tryz.func3 rfl rfl rfl ?_
 with_reducible ((repeat refine xc_seq ?_); refine xcR ?_)
 refine xo_box rfl rfl rfl rfl (fun b2 => ?_)
 refine xo_asg rfl rfl rfl ?_
 with_reducible (refine xo_nil ?_; (repeat (first | refine xqT ?_ | refine xqB ?_ | refine xqS ?_)))
 cases hgr : greatF gs ms
 rotate_left
 · with_reducible repeat refine xc_seq ?_
   with_reducible refine xcR ?_
   refine xo_loadN T_ rfl rfl rfl (by repeat first | exact memH | apply memT | apply memA) rfl rfl ?_
   refine xo_callB (fs := []) (cs := []) rfl rfl rfl great_enters rfl (fun w1 hw1 => great_calls R E A B c c2 gs ms w1) ?_
   refine xo_as (i := 15) rfl (congrArg Value.bool hgr) ?_
   with_reducible (refine xo_nil ?_; (repeat (first | refine xqT ?_ | refine xqB ?_ | refine xqS ?_)); (repeat refine xc_seq ?_))
   refine xc_condT rfl ?_
   with_reducible ((repeat refine xc_seq ?_); refine xcR ?_)
   refine xo_asg rfl rfl rfl ?_
   with_reducible (refine xo_nil ?_; (repeat (first | refine xqT ?_ | refine xqB ?_ | refine xqS ?_)); (repeat refine xc_seq ?_); refine xc_ret ?_; (repeat (first | refine xq_thenR ?_ | refine xq_blockR ?_ | refine xq_scopeR ?_)))
   exact xq_ret1 rfl rfl fun w' hw => ⟨rfl, hw.kx.below⟩
 have hlen : gs.length ≤ 10 ∧ ms.length ≤ 12 := by
   unfold greatF at hgr
   rw [Bool.or_eq_false_iff, decide_eq_false_iff_not, decide_eq_false_iff_not] at hgr
   omega
 with_reducible ((repeat refine xc_seq ?_); refine xcR ?_)
 refine xo_loadN T_ rfl rfl rfl (by repeat first | exact memH | apply memT | apply memA) rfl rfl ?_
 refine xo_callB (fs := []) (cs := []) rfl rfl rfl great_enters rfl (fun w1 hw1 => great_calls R E A B c c2 gs ms w1) ?_
 refine xo_as (i := 15) rfl (congrArg Value.bool hgr) ?_
 with_reducible (refine xo_nil ?_; (repeat (first | refine xqT ?_ | refine xqB ?_ | refine xqS ?_)); (repeat refine xc_seq ?_))
 refine xc_condF rfl ?_
 with_reducible (refine xc_skip ?_; (repeat (first | refine xqT ?_ | refine xqB ?_ | refine xqS ?_)))
 have hgr4 := gat_row hA
 have hmr7 := mar_row hB
 with_reducible ((repeat refine xc_seq ?_); refine xcR ?_)
 refine xo_loadN T_ rfl rfl rfl (by repeat first | exact memH | apply memT | apply memA) rfl rfl ?_
 refine xo_call (fs := []) (cs := []) rfl rfl rfl twin_enters rfl (fun w1 hw1 => (twin_calls R E A B c c2 gs ms w1 (hgr4.below hw1.kx.below) (hmr7.below hw1.kx.below) (C_none hA) (C_none hB) (by omega) (by omega)).mono ?_)
 rintro e w2 ⟨bg, kg, bm, km, rfl, hz⟩
 refine ⟨_, _, rfl, hw1.join hz (fun e he => by simp only [List.mem_cons, List.not_mem_nil, or_false] at he; rcases he with rfl | rfl <;> rfl), ?_⟩
 clear hz hw1
 refine xo_alloc T_ rfl rfl rfl rfl (fun b5 => ?_)
 refine xo_store T_ rfl rfl rfl rfl (by repeat first | exact memH | apply memT | apply memA) rfl rfl rfl rfl (by repeat (first | exact Upd.head | apply Upd.tail | apply Upd.app)) rfl ?_
 with_reducible (refine xo_nil ?_; (repeat (first | refine xqT ?_ | refine xqB ?_ | refine xqS ?_)))
 refine xc_sub (η' := [(b5, true, cel (scnV R (some ⟨bg, 0, none⟩) gs.length kg E (some ⟨bm, 0, none⟩) ms.length km) 25), (bm, true, orow 56 7 ms.length km (marL ms)), (bg, true, orow 52 4 gs.length kg (gatL gs)), (b2, true, cel (scnV R A gs.length c E B ms.length c2) 25)]) (List.Sublist.refl _) ?_
 have hown : ∀ {η : Hp} {w1 : World}, WOK w XNone η w1 → (bg, true, orow 52 4 gs.length kg (gatL gs)) ∈ η → (bm, true, orow 56 7 ms.length km (marL ms)) ∈ η → SceneAt w1 (some ⟨bg, 0, none⟩) (some ⟨bm, 0, none⟩) gs ms := fun {η w1} hw1 m1 m2 =>
   ⟨gates_C (by omega) (hw1.bl_of fun e he => by rw [List.mem_singleton.1 he]; exact m1), marks_C (by omega) (hw1.bl_of fun e he => by rw [List.mem_singleton.1 he]; exact m2), hk, hglob.below hw1.kx.below⟩
 obtain ⟨hwC, hwL⟩ := why_same R E gs ms room
 have haL := against_same R E gs ms
 have l1 := rwhyL_len R E gs ms room
 have l2 := ragainstL_len R E gs ms
 with_reducible ((repeat refine xc_seq ?_); refine xcR ?_)
 refine xo_loadN T_ (b := b5) (cs := scnV R (some ⟨bg, 0, none⟩) gs.length kg E (some ⟨bm, 0, none⟩) ms.length km) rfl rfl rfl (by repeat (first | exact List.Mem.head _ | exact List.mem_append_left _ (List.Mem.head _) | apply List.mem_append_right | apply List.Mem.tail)) rfl rfl ?_
 refine xo_mv rfl rfl rfl ?_
 refine xo_call (fs := []) (cs := []) rfl rfl rfl Why_enters rfl (fun w1 hw1 => (Why_calls R E _ _ kg km gs ms room w1 (hown hw1 (by repeat (first | exact List.Mem.head _ | exact List.mem_append_left _ (List.Mem.head _) | apply List.mem_append_right | apply List.Mem.tail)) (by repeat (first | exact List.Mem.head _ | exact List.mem_append_left _ (List.Mem.head _) | apply List.mem_append_right | apply List.Mem.tail)))).mono ?_)
 rintro e w2 ⟨r6, rfl, hrw, hb⟩
 have h6 := hrw.1
 refine ⟨_, _, rfl, hw1.row hb hrw, ?_⟩
 clear hrw hb hw1
 refine xo_mv rfl rfl rfl ?_
 refine xo_ext rfl rfl rfl rfl ?_
 refine xo_ext rfl rfl rfl rfl ?_
 refine xo_asg rfl rfl rfl ?_
 refine xo_asg rfl rfl rfl ?_
 with_reducible (refine xo_nil ?_; (repeat (first | refine xqT ?_ | refine xqB ?_ | refine xqS ?_)); (repeat refine xc_seq ?_); refine xcR ?_)
 refine xo_loadN T_ (b := b2) (cs := scnV R A gs.length c E B ms.length c2) rfl rfl rfl (by repeat (first | exact List.Mem.head _ | exact List.mem_append_left _ (List.Mem.head _) | apply List.mem_append_right | apply List.Mem.tail)) rfl rfl ?_
 refine xo_mv rfl rfl rfl ?_
 refine xo_call (fs := []) (cs := []) rfl rfl rfl rwhy_enters rfl (fun w1 hw1 => (rwhy_calls R E A B c c2 gs ms room w1 (hgr4.below hw1.kx.below) (hmr7.below hw1.kx.below)).mono ?_)
 rintro e w2 ⟨r8, rfl, hrw, hb⟩
 have h8 := hrw.1
 refine ⟨_, _, rfl, hw1.row hb hrw, ?_⟩
 clear hrw hb hw1
 refine xo_mv rfl rfl rfl ?_
 refine xo_ext rfl rfl rfl rfl ?_
 refine xo_ext rfl rfl rfl rfl ?_
 refine xo_asg rfl rfl rfl ?_
 refine xo_asg rfl rfl rfl ?_
 with_reducible (refine xo_nil ?_; (repeat (first | refine xqT ?_ | refine xqB ?_ | refine xqS ?_)); (repeat refine xc_seq ?_); refine xcR ?_)
 refine xo_loadN T_ (b := b5) (cs := scnV R (some ⟨bg, 0, none⟩) gs.length kg E (some ⟨bm, 0, none⟩) ms.length km) rfl rfl rfl (by repeat (first | exact List.Mem.head _ | exact List.mem_append_left _ (List.Mem.head _) | apply List.mem_append_right | apply List.Mem.tail)) rfl rfl ?_
 refine xo_call (fs := []) (cs := []) rfl rfl rfl Against_enters rfl (fun w1 hw1 => (Against_calls R E _ _ kg km gs ms w1 (hown hw1 (by repeat (first | exact List.Mem.head _ | exact List.mem_append_left _ (List.Mem.head _) | apply List.mem_append_right | apply List.Mem.tail)) (by repeat (first | exact List.Mem.head _ | exact List.mem_append_left _ (List.Mem.head _) | apply List.mem_append_right | apply List.Mem.tail)))).mono ?_)
 rintro e w2 ⟨r10, rfl, hrw, hb⟩
 have h10 := hrw.1
 refine ⟨_, _, rfl, hw1.row hb hrw, ?_⟩
 clear hrw hb hw1
 refine xo_mv rfl rfl rfl ?_
 refine xo_ext rfl rfl rfl rfl ?_
 refine xo_ext rfl rfl rfl rfl ?_
 refine xo_asg rfl rfl rfl ?_
 refine xo_asg rfl rfl rfl ?_
 with_reducible (refine xo_nil ?_; (repeat (first | refine xqT ?_ | refine xqB ?_ | refine xqS ?_)); (repeat refine xc_seq ?_); refine xcR ?_)
 refine xo_loadN T_ (b := b2) (cs := scnV R A gs.length c E B ms.length c2) rfl rfl rfl (by repeat (first | exact List.Mem.head _ | exact List.mem_append_left _ (List.Mem.head _) | apply List.mem_append_right | apply List.Mem.tail)) rfl rfl ?_
 refine xo_call (fs := []) (cs := []) rfl rfl rfl ragainst_enters rfl (fun w1 hw1 => (ragainst_calls R E A B c c2 gs ms w1 (hgr4.below hw1.kx.below) (hmr7.below hw1.kx.below)).mono ?_)
 rintro e w2 ⟨r12, rfl, hrw, hb⟩
 have h12 := hrw.1
 refine ⟨_, _, rfl, hw1.row hb hrw, ?_⟩
 clear hrw hb hw1
 refine xo_mv rfl rfl rfl ?_
 refine xo_ext rfl rfl rfl rfl ?_
 refine xo_ext rfl rfl rfl rfl ?_
 refine xo_asg rfl rfl rfl ?_
 refine xo_asg rfl rfl rfl ?_
 with_reducible (refine xo_nil ?_; (repeat (first | refine xqT ?_ | refine xqB ?_ | refine xqS ?_)))
 have h6 : r6 = none → (whyL R E gs ms room).length = 0 := fun q => by rw [h6 q]; rfl
 have h8 : r8 = none → (rwhyL R E gs ms room).length = 0 := fun q => by rw [h8 q]; rfl
 have h10 : r10 = none → (againstL R E gs ms).length = 0 := fun q => by rw [h10 q]; rfl
 have h12 : r12 = none → (ragainstL R E gs ms).length = 0 := fun q => by rw [h12 q]; rfl
 have e42 : decide (whyL R E gs ms room = rwhyL R E gs ms room) = true := decide_eq_true hwL
 have e46 : decide (whyC R E gs ms room = rwhyC R E gs ms room) = true := decide_eq_true hwC
 have e51 : decide (againstL R E gs ms = ragainstL R E gs ms) = true := decide_eq_true haL
 have e56 : decide (checkF R E gs ms = checkF R E gs ms) = true := decide_eq_true rfl
 have e61 : sceneE R E R E gs gs ms ms = true := eqL_true rfl
 have hbl1 : (whyL R E gs ms room).length ≤ 1000000 := by rw [hwL]; omega
 have hbl2 : (againstL R E gs ms).length ≤ 1000000 := by rw [haL]; omega
 clear hwL hwC haL l1 l2
 refine xc_slots [(2, .pointer (some ⟨b2, 0, none⟩)), (5, .pointer (some ⟨b5, 0, none⟩)), (6, .slice (valA r6) (whyL R E gs ms room).length (valC r6)), (7, .int .i64 (whyC R E gs ms room)), (8, .slice (valA r8) (rwhyL R E gs ms room).length (valC r8)), (9, .int .i64 (rwhyC R E gs ms room)), (10, .slice (valA r10) (againstL R E gs ms).length (valC r10)), (11, .int .i64 (checkF R E gs ms)), (12, .slice (valA r12) (ragainstL R E gs ms).length (valC r12)), (13, .int .i64 (checkF R E gs ms))]
   ⟨rfl, rfl, congrArg some (valR_eq h6), rfl, congrArg some (valR_eq h8), rfl, congrArg some (valR_eq h10), rfl, congrArg some (valR_eq h12), rfl, trivial⟩ ?_
 with_reducible ((repeat refine xc_seq ?_); refine xcR ?_)
 refine xo_mv rfl rfl rfl ?_
 refine xo_mv rfl rfl rfl ?_
 refine xo_callB (fs := []) (cs := []) rfl rfl rfl sameInts_enters rfl (fun w1 hw1 => sameInts_calls (valA r6) (valA r8) (valC r6) (valC r8) (whyL R E gs ms room) (rwhyL R E gs ms room) w1 (intsAt_row (hw1.bl_of (fun e he => by repeat (first | exact he | exact List.mem_append_left _ he | apply List.mem_append_right | apply List.Mem.tail))) h6) (intsAt_row (hw1.bl_of (fun e he => by repeat (first | exact he | exact List.mem_append_left _ he | apply List.mem_append_right | apply List.Mem.tail))) h8) hbl1) ?_
 refine xo_as (i := 42) rfl (congrArg Value.bool e42) ?_
 refine xo_mv rfl rfl rfl ?_
 (first | refine xo_not rfl rfl ?_ | (refine xo_mv rfl rfl rfl ?_))
 (first | refine xo_not rfl rfl ?_ | (refine xo_mv rfl rfl rfl ?_))
 (first | refine xo_not rfl rfl ?_ | (refine xo_eql rfl rfl rfl rfl ?_))
 refine xo_as (i := 46) rfl (congrArg Value.bool e46) ?_
 first | refine xo_pickT rfl rfl rfl rfl ?_ | refine xo_pickF rfl rfl rfl rfl ?_
 refine xo_mv rfl rfl rfl ?_
 (first | refine xo_not rfl rfl ?_ | (refine xo_mv rfl rfl rfl ?_))
 (first | refine xo_not rfl rfl ?_ | (refine xo_mv rfl rfl rfl ?_))
 (first | refine xo_not rfl rfl ?_ | (refine xo_callB (fs := []) (cs := []) rfl rfl rfl sameInts_enters rfl (fun w1 hw1 => sameInts_calls (valA r10) (valA r12) (valC r10) (valC r12) (againstL R E gs ms) (ragainstL R E gs ms) w1 (intsAt_row (hw1.bl_of (fun e he => by repeat (first | exact he | exact List.mem_append_left _ he | apply List.mem_append_right | apply List.Mem.tail))) h10) (intsAt_row (hw1.bl_of (fun e he => by repeat (first | exact he | exact List.mem_append_left _ he | apply List.mem_append_right | apply List.Mem.tail))) h12) hbl2) ?_))
 refine xo_as (i := 51) rfl (congrArg Value.bool e51) ?_
 first | refine xo_pickT rfl rfl rfl rfl ?_ | refine xo_pickF rfl rfl rfl rfl ?_
 refine xo_mv rfl rfl rfl ?_
 (first | refine xo_not rfl rfl ?_ | (refine xo_mv rfl rfl rfl ?_))
 (first | refine xo_not rfl rfl ?_ | (refine xo_mv rfl rfl rfl ?_))
 (first | refine xo_not rfl rfl ?_ | (refine xo_eql rfl rfl rfl rfl ?_))
 refine xo_as (i := 56) rfl (congrArg Value.bool e56) ?_
 first | refine xo_pickT rfl rfl rfl rfl ?_ | refine xo_pickF rfl rfl rfl rfl ?_
 refine xo_mv rfl rfl rfl ?_
 (first | refine xo_not rfl rfl ?_ | (refine xo_loadN T_ (b := b5) (cs := scnV R (some ⟨bg, 0, none⟩) gs.length kg E (some ⟨bm, 0, none⟩) ms.length km) rfl rfl rfl (by repeat (first | exact List.Mem.head _ | exact List.mem_append_left _ (List.Mem.head _) | apply List.mem_append_right | apply List.Mem.tail)) rfl rfl ?_))
 (first | refine xo_not rfl rfl ?_ | (refine xo_loadN T_ (b := b2) (cs := scnV R A gs.length c E B ms.length c2) rfl rfl rfl (by repeat (first | exact List.Mem.head _ | exact List.mem_append_left _ (List.Mem.head _) | apply List.mem_append_right | apply List.Mem.tail)) rfl rfl ?_))
 (first | refine xo_not rfl rfl ?_ | (refine xo_callB (fs := []) (cs := []) rfl rfl rfl same_enters rfl (fun w1 hw1 => same_calls R E R E _ _ A B kg km c c2 gs gs ms ms w1 (gat_row (hown hw1 (by repeat (first | exact List.Mem.head _ | exact List.mem_append_left _ (List.Mem.head _) | apply List.mem_append_right | apply List.Mem.tail)) (by repeat (first | exact List.Mem.head _ | exact List.mem_append_left _ (List.Mem.head _) | apply List.mem_append_right | apply List.Mem.tail))).gates) (mar_row (hown hw1 (by repeat (first | exact List.Mem.head _ | exact List.mem_append_left _ (List.Mem.head _) | apply List.mem_append_right | apply List.Mem.tail)) (by repeat (first | exact List.Mem.head _ | exact List.mem_append_left _ (List.Mem.head _) | apply List.mem_append_right | apply List.Mem.tail))).marks) (hgr4.below hw1.kx.below) (hmr7.below hw1.kx.below) (by omega) (by omega)) ?_))
 refine xo_as (i := 61) rfl (congrArg Value.bool e61) ?_
 first | refine xo_pickT rfl rfl rfl rfl ?_ | refine xo_pickF rfl rfl rfl rfl ?_
 refine xo_asg rfl rfl rfl ?_
 with_reducible (refine xo_nil ?_; (repeat (first | refine xqT ?_ | refine xqB ?_ | refine xqS ?_)); (repeat refine xc_seq ?_); refine xc_ret ?_; (repeat (first | refine xq_thenR ?_ | refine xq_blockR ?_ | refine xq_scopeR ?_)))
 exact xq_ret1 rfl rfl fun w' hw => ⟨rfl, hw.kx.below⟩
end Go.Proofs.YtommeljlfkmpjaaGreatDoor
namespace Go.Proofs.YtommeljlfkmpjaaGreatDoor
open Go.ChangeShapes Go.WideShapes Go.RowKit
set_option linter.unusedVariables false
set_option linter.unusedSimpArgs false
def laidL : List (String × DataW Unit) := [("cottonpad/origin.nowhere", Rows.laid_cottonpad_origin_nowhere)]
theorem gNow : Tryz.prog.globalNamed "cottonpad/origin.nowhere" = some 0 := by kernel_rfl
theorem tNow : (Tryz.prog.globals[0]?).map (·.type) = some 45 := by kernel_rfl
theorem door_met (os : Os) (args : Array Value) : laidMetH Tryz.prog laidL ((World.doorLaid Tryz.prog 400 os).forCall (fun _ _ => 0) ⟨#[], args, []⟩).memory :=
 laidMetH_of_parts3 (fuel := 8) (laidMet_of_run' 8 (by kernel_rfl) (by kernel_rfl)) (by kernel_rfl) (by kernel_rfl)
theorem trod_pair {P : Program} {H : Type} {enc : TypeId × Value → H} {w : World} {fuel : Nat} {bb : Bool} {t ta tb : TypeId} {f g : Field} {a b : Value} {d : DataW H} {ps : List MemPlace}
   (ht : P.underlying t = some (.struct #[f, g])) (h1 : f.type = ta) (h2 : f.offset = 0) (h3 : g.type = tb) (h4 : g.offset = 1) (hA : P.cellsOf ta = 1) (hB : P.cellsOf tb = 1)
   (h : DataW.trod enc P w 0 (fun _ => true) bb (fuel + 1) t [a, b] = some (d, ps)) :
   ∃ x y, DataW.trod enc P w 0 (fun _ => true) bb fuel ta [a] = some x ∧ DataW.trod enc P w 0 (fun _ => true) bb fuel tb [b] = some y ∧ d = .agg [x.1, y.1] := by
 unfold DataW.trod at h
 rw [ht] at h
 simp only [List.length_cons, List.length_nil] at h
 split at h
 · simp only [List.mapM_cons, List.mapM_nil, h1, h2, h3, h4, hA, hB, List.drop_zero, List.take_succ_cons, List.take_zero, List.drop_succ_cons, Option.map_eq_some_iff] at h
   obtain ⟨xs, h, e⟩ := h
   cases hx : DataW.trod enc P w 0 (fun _ => true) bb fuel ta [a] with
   | none => simp [hx] at h
   | some x =>
     cases hy : DataW.trod enc P w 0 (fun _ => true) bb fuel tb [b] with
     | none => simp [hx, hy] at h
     | some y =>
       simp [hx, hy] at h
       subst h
       simp at e
       exact ⟨x, y, rfl, rfl, e.1.symm⟩
 · simp at h
theorem trod_lenS {P : Program} {H : Type} {enc : TypeId × Value → H} {w : World} {fuel : Nat} {bb : Bool} {t : TypeId} {fs : Array Field} {l : List Value} {x : DataW H × List MemPlace}
   (ht : P.underlying t = some (.struct fs)) (h : DataW.trod enc P w 0 (fun _ => true) bb fuel t l = some x) : l.length = P.cellsOf t := by
 cases fuel with
 | zero => simp [DataW.trod] at h
 | succ m =>
   by_cases hl : l.length = P.cellsOf t
   · exact hl
   · exfalso
     unfold DataW.trod at h
     rw [ht] at h
     simp [hl] at h
theorem trod_int {P : Program} {H : Type} {enc : TypeId × Value → H} {w : World} {fuel : Nat} {bb : Bool} {t : TypeId} {k : IntKind} {a : Value} {n : Int} {ps : List MemPlace} (hu : P.underlying t = some (.int k))
   (h : DataW.trod enc P w 0 (fun _ => true) bb fuel t [a] = some (.lit (.int .i64 n), ps)) : a = .int .i64 n := by
 cases fuel with
 | zero => simp [DataW.trod] at h
 | succ fuel =>
   unfold DataW.trod at h
   rw [hu] at h
   split at h <;> simp_all
set_option maxRecDepth 100000 in
theorem glob_of_laid {W : World} (h : laidMetH Tryz.prog laidL W) : GlobO W := by
 have h' : laidMet Tryz.prog laidL W := h
 obtain ⟨ps, ⟨g, t, cs, fuel, p, q, hg, ht, hv, hd, _, _⟩, _, _⟩ := h'
 obtain rfl := Option.some.inj (gNow.symm.trans hg)
 obtain rfl := Option.some.inj (tNow.symm.trans ht)
 have hd' : DataW.trod (fun _ => ()) Tryz.prog W 0 (fun _ => true) false fuel 45 cs.toList = some (.agg [.lit (.int .i64 1073741824), .lit (.int .i64 (-1073741824))], p) := hd
 have hlen : cs.toList.length = 2 := (trod_lenS Tryz.underlying45 hd').trans (by kernel_rfl)
 obtain ⟨l⟩ := cs
 match l, hlen with
 | [a, b], _ =>
   cases fuel with
   | zero => simp [DataW.trod] at hd'
   | succ n =>
     obtain ⟨x, y, hx, hy, e⟩ := trod_pair (ta := 3) (tb := 3) Tryz.underlying45 rfl rfl rfl rfl (by kernel_rfl) (by kernel_rfl) hd'
     simp only [DataW.agg.injEq, List.cons.injEq, and_true] at e
     obtain ⟨x1, x2⟩ := x
     obtain ⟨y1, y2⟩ := y
     simp only at e
     obtain ⟨rfl, rfl⟩ := e
     obtain rfl := trod_int Tryz.underlying3 hx
     obtain rfl := trod_int Tryz.underlying3 hy
     unfold World.var? at hv
     rw [gNow] at hv
     simp only [Option.bind_some] at hv
     cases hh : W.heap[0]? with
     | none => simp [hh] at hv
     | some o =>
       cases o <;> simp [hh] at hv
       subst hv
       refine ro_of fun j v hj => ?_
       rw [Addr.add_lit, Nat.zero_add]
       unfold World.cell?
       rw [hh]
       have hj' : ([.int .i64 1073741824, .int .i64 (-1073741824)] : List Value)[j]? = some v := hj
       simpa using hj'
end Go.Proofs.YtommeljlfkmpjaaGreatDoor
