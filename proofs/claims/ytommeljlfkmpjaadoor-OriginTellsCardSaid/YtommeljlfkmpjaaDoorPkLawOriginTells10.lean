/- ref09: Minutes, Rooms, Named, Truth, Check: as the program's (reached by OriginTells alone). / origin, plain: the first truth (as in POTruth, for the seat that does not reach the law's own functions). / ref09: Truth, as the program's (reached by OriginTells alone). / law09.OriginExcludes: the walk. / law09: the chapter's scene, as the program writes it. / law09.alive: the chapter's examples come o -/
import Derived.Test.YtommeljlfkmpjaaDoorPkLawOriginTells9
import Derived.Test.YtommeljlfkmpjaaDoorPkLawOriginTells3
import Derived.Test.YtommeljlfkmpjaaDoorPkLawOriginTells2
import Derived.Test.YtommeljlfkmpjaaDoorRows
import Derived.LaidLaws
import Derived.LaidHandle
import Derived.LaidMore
import Derived.ChangeVars
import Derived.ChangeShapes
set_option linter.unusedVariables false
set_option linter.unusedSimpArgs false
namespace Go.Proofs.YtommeljlfkmpjaaDoor
open Go.RowKit Go.Proofs.YtommeljlfkmpjaaDoorW.PrintWords
theorem can_told {n : Nat} {E : Int} {gs : List GatT} (h : Sane n E gs) {ls : List MarT} (hm : ∀ m ∈ ls, MarkR n m) {room : Nat} (hr : room < n) (m : Nat) : toldF (beganL E n gs room ls) m = canB n E gs room ls m := by
 rw [Bool.eq_iff_iff, toldF_iff, canB, List.any_eq_true]
 constructor
 ·rintro ⟨x, hx, h1, h2⟩
  obtain ⟨a, b, _⟩ := beganL_mem.1 hx
  have hl := getD_mem (allD gs) [] x.1 a
  rw [b] at h1 h2
  exact ⟨_, hl, inF_iff.2 (((win_at h hm hr hl).1 m).1 ⟨h1, h2⟩)⟩
 ·rintro ⟨l, hl, hit⟩
  have hq := ((win_at h hm hr hl).1 m).2 (inF_iff.1 hit)
  obtain ⟨i, hi, e⟩ := List.getElem_of_mem hl
  have hg : (allD gs).getD i [] = l := by simp [List.getD_eq_getElem?_getD, List.getElem?_eq_getElem hi, e]
  exact ⟨(i, winF E (farM n gs l room) ls), beganL_mem.2 ⟨hi, by rw [hg], Int.le_trans hq.1 hq.2⟩, hq.1, hq.2⟩
theorem setOf_all (ms : List MarT) : setOf ms (2 ^ ms.length - 1) = ms := setOf_full ms
theorem minutes_can {n N : Nat} {E : Int} {gs : List GatT} {ms : List MarT} {room : Nat} (hEN : E = N) (hsc : sceneF n E gs ms = true) (hr : room < n) (hm : minutesC n E gs ms room = 0) : minutesL n E gs ms room = grpL (canB n E gs room ms) (N + 1) := by
 obtain ⟨hS, hmk⟩ := sane_of (R := n) rfl hsc
 rw [minutesL, if_pos hm, grpL, toldL, Int.toNat_natCast, Int.toNat_natCast, show (E + 1).toNat = N + 1 by omega]
 congr 2
 exact List.filter_congr fun m _ => can_told hS hmk hr m
set_option maxHeartbeats 40000000 in
theorem rminutes_calls (R E : Int) (A B : Option Addr) (c c2 : Nat) (gs : List GatT) (ms : List MarT) (room : Int) (w : World) (hA : RowOf gatV 4 zGat w A gs) (hM : RowOf marV 7 zMar w B ms) :
  Calls Tryd.prog 8 #[.agg (scnV R A gs.length c E B ms.length c2).toArray, .int .i64 room] w fun e w' => ∃ rr : RowR, e = .returned (.tuple #[valR rr (minutesL R E gs ms room).length, .int .i64 (minutesC R E gs ms room)]) ∧ RowZ 55 2 (minutesL R E gs ms room).length w.heap.size w' rr (spaL (minutesL R E gs ms room)) ∧ Below w.heap.size w w' := by
 refine x_calls (X := XNone) Tryd.func8 rfl rfl rfl ?_
 with_reducible ((repeat apply xc_seq); apply xcR)
 refine xo_box rfl rfl rfl rfl (fun b2 => ?_)
 refine xoA ?_
 refine xoA ?_
 with_reducible (apply xo_nil; (repeat first | apply xqT | apply xqB | apply xqS))
 cases hsc : sceneF R E gs ms
 ·have e1 : minutesC R E gs ms room = 90 := by simp [minutesC, hsc]
  have e2 : minutesL R E gs ms room = [] := by rw [minutesL, if_neg (by rw [e1]; decide)]
  with_reducible ((repeat apply xc_seq); apply xcR)
  refine xo_loadN T_ rfl rfl rfl (by repeat first | exact mH | apply mT | apply mA) rfl rfl ?_
  refine xo_callB (fs := []) (cs := []) rfl rfl rfl scene_enters rfl (fun w1 hw1 => scene_calls R E A B c c2 gs ms w1 (hA.below hw1.kx.below) (hM.below hw1.kx.below)) ?_
  refine xo_notOp rfl rfl rfl ?_
  refine xo_as (i := 11) rfl (congrArg (fun b => Value.bool !b) hsc) ?_
  with_reducible (apply xo_nil; (repeat first | apply xqT | apply xqB | apply xqS); (repeat apply xc_seq))
  refine xc_condT rfl ?_
  with_reducible ((repeat apply xc_seq); apply xcR)
  refine xoA ?_
  refine xoA ?_
  with_reducible (apply xo_nil; (repeat first | apply xqT | apply xqB | apply xqS); (repeat apply xc_seq); apply xc_ret; (repeat (first | apply xq_thenR | apply xq_blockR | apply xq_scopeR)))
  exact xq_ret2 rfl rfl rfl fun w' hw => ⟨none, by rw [e1, e2]; rfl, by rw [e2]; exact ⟨fun _ => rfl, fun p hp => by cases hp⟩, hw.kx.below⟩
 with_reducible ((repeat apply xc_seq); apply xcR)
 refine xo_loadN T_ rfl rfl rfl (by repeat first | exact mH | apply mT | apply mA) rfl rfl ?_
 refine xo_callB (fs := []) (cs := []) rfl rfl rfl scene_enters rfl (fun w1 hw1 => scene_calls R E A B c c2 gs ms w1 (hA.below hw1.kx.below) (hM.below hw1.kx.below)) ?_
 refine xo_notOp rfl rfl rfl ?_
 refine xo_as (i := 11) rfl (congrArg (fun b => Value.bool !b) hsc) ?_
 with_reducible (apply xo_nil; (repeat first | apply xqT | apply xqB | apply xqS); (repeat apply xc_seq))
 refine xc_condF rfl ?_
 with_reducible (apply xc_skip; (repeat first | apply xqT | apply xqB | apply xqS))
 obtain ⟨hR6, hE6, hG, hm8, hmk⟩ := sceneF_ok hsc
 cases hrm : inF 0 (R - 1) room
 ·have e1 : minutesC R E gs ms room = 2 := by rw [minutesC, if_pos hsc, if_neg (by rw [show roomOK R room = false from hrm]; exact Bool.false_ne_true)]
  have e2 : minutesL R E gs ms room = [] := by rw [minutesL, if_neg (by rw [e1]; decide)]
  with_reducible ((repeat apply xc_seq); apply xcR)
  refine xoM ?_
  refine xo_fa T_ rfl rfl rfl rfl rfl ?_
  refine xo_load0 T_ rfl rfl rfl (by repeat first | exact mH | apply mT | apply mA) rfl rfl ?_
  refine xo_sub rfl rfl rfl (by omega) rfl ?_
  refine xo_callB (fs := []) (cs := []) rfl rfl rfl within_enters rfl (fun w1 hw1 => within_calls room 0 (R - 1) w1) ?_
  refine xo_notOp rfl rfl rfl ?_
  refine xo_as (i := 17) rfl (congrArg (fun b => Value.bool !b) hrm) ?_
  with_reducible (apply xo_nil; (repeat first | apply xqT | apply xqB | apply xqS); (repeat apply xc_seq))
  refine xc_condT rfl ?_
  with_reducible ((repeat apply xc_seq); apply xcR)
  refine xoA ?_
  refine xoA ?_
  with_reducible (apply xo_nil; (repeat first | apply xqT | apply xqB | apply xqS); (repeat apply xc_seq); apply xc_ret; (repeat (first | apply xq_thenR | apply xq_blockR | apply xq_scopeR)))
  exact xq_ret2 rfl rfl rfl fun w' hw => ⟨none, by rw [e1, e2]; rfl, by rw [e2]; exact ⟨fun _ => rfl, fun p hp => by cases hp⟩, hw.kx.below⟩
 with_reducible ((repeat apply xc_seq); apply xcR)
 refine xoM ?_
 refine xo_fa T_ rfl rfl rfl rfl rfl ?_
 refine xo_load0 T_ rfl rfl rfl (by repeat first | exact mH | apply mT | apply mA) rfl rfl ?_
 refine xo_sub rfl rfl rfl (by omega) rfl ?_
 refine xo_callB (fs := []) (cs := []) rfl rfl rfl within_enters rfl (fun w1 hw1 => within_calls room 0 (R - 1) w1) ?_
 refine xo_notOp rfl rfl rfl ?_
 refine xo_as (i := 17) rfl (congrArg (fun b => Value.bool !b) hrm) ?_
 with_reducible (apply xo_nil; (repeat first | apply xqT | apply xqB | apply xqS); (repeat apply xc_seq))
 refine xc_condF rfl ?_
 with_reducible (apply xc_skip; (repeat first | apply xqT | apply xqB | apply xqS))
 have e1 : minutesC R E gs ms room = 0 := by rw [minutesC, if_pos hsc, if_pos (show roomOK R room = true from hrm)]
 obtain ⟨n, rfl, hn1, hn6⟩ := nat_of hR6
 obtain ⟨r, rfl, hr⟩ := roomOK_nat hn6 hrm
 obtain ⟨N, hEN⟩ : ∃ N : Nat, E = N := ⟨E.toNat, by omega⟩
 have h2 := two8 hm8
 rw [e1, minutes_can hEN hsc hr e1]
 have hcan := fun w1 (hb : Below w.heap.size w w1) => rcan_calls n N E A B c c2 gs ms (2 ^ ms.length - 1) r w1 hEN (sceneR_of hsc (hA.below hb) (hM.below hb)) (by omega) hr
 rw [setOf_all] at hcan
 generalize canB n E gs r ms = f at hcan ⊢
 refine xc_slots [(1, .int .i64 (r : Int)), (2, .pointer (some ⟨b2, 0, none⟩))] ⟨rfl, rfl, trivial⟩ ?_
 with_reducible (repeat apply xc_seq)
 apply xc_drawE (fun g => [(4, .slice (some ⟨(g.getD 0 gv0).b, 0, none⟩) (N + 1) (N + 1)), (5, .slice (some ⟨(g.getD 0 gv0).b, 0, none⟩) (N + 1) (N + 1))]) (fun (η0 : Hp) g => match g with | [] => (η0) | a0 :: _ => ((a0.b, true, cel (rowB (N + 1) f) 4) :: η0)) (fun _ => True) [0, 0, 0, 0, 1, 1] [4] [[0, 2, 3, 2]] (by trivial)
 apply SameLen.cons
 apply SameLen.cons
 apply SameLen.cons
 apply SameLen.cons
 apply SameLen.cons (c := undef)
 apply SameLen.cons (c := undef)
 exact SameLen.nil
 rotate_left 4
 case hH0 => rfl
 case hmix => exact T_.mixed
 case hbind => rfl
 case hdeps => rfl
 case hdist => rfl
 case hfresh => rfl
 case hE => rfl
 case hEn => decide
 ·refine DrawE.pure 0 0 rfl (.inr (by decide)) (fun L g hg hd => Nat.zero_le _) (fun g hlo hhi hF τ => ?_) ?_
  ·rcases g with _ | ⟨a0, _ | ⟨a1, g⟩⟩ <;> first | (simp only [lenC, lenN] at hlo hhi; omega) | (refine ⟨_, rfl, ?_⟩; refine xo_loadN T_ rfl rfl rfl (by repeat first | exact mH | apply mT | apply mA) rfl rfl ?_; exact xo_fin rfl)
  refine DrawE.pure 0 1 rfl (.inl rfl) (fun L g hg hd => Nat.zero_le _) (fun g hlo hhi hF τ => ?_) ?_
  ·rcases g with _ | ⟨a0, _ | ⟨a1, g⟩⟩ <;> first | (simp only [lenC, lenN] at hlo hhi; omega) | (refine ⟨_, rfl, ?_⟩; refine xo_loadN T_ rfl rfl rfl (by repeat first | exact mH | apply mT | apply mA) rfl rfl ?_; exact xo_fin rfl)
  refine DrawE.pure 0 0 rfl (.inr (by decide)) (fun L g hg hd => Nat.zero_le _) (fun g hlo hhi hF τ => ?_) ?_
  ·rcases g with _ | ⟨a0, _ | ⟨a1, g⟩⟩ <;> first | (simp only [lenC, lenN] at hlo hhi; omega) | (refine ⟨_, rfl, ?_⟩; refine xo_callB (fs := []) (cs := []) rfl rfl rfl every_enters rfl (fun w1 hw1 => every_calls n E A B gs.length c c2 ms w1 hm8) ?_; exact xo_fin rfl)
  refine DrawE.pure 0 0 rfl (.inr (by decide)) (fun L g hg hd => Nat.zero_le _) (fun g hlo hhi hF τ => ?_) ?_
  ·rcases g with _ | ⟨a0, _ | ⟨a1, g⟩⟩ <;> first | (simp only [lenC, lenN] at hlo hhi; omega) | (refine ⟨_, rfl, ?_⟩; refine xoM ?_; exact xo_fin rfl)
  refine DrawE.eff 0 rfl (by decide) rfl (fun j hj => hj) (fun j g a hj => ?_) (fun L g hg hd => Nat.zero_le _) (fun g hgl hF τ => ?_) ?_
  ·rcases j with _ | _ | _ | _ | _ | _ | j
   all_goals first | rfl | (rcases g with _ | ⟨a0, _ | ⟨a1, g⟩⟩ <;> first | rfl | exact absurd hj (by decide) | exact absurd hj (by simp [List.getD]))
  ·obtain rfl : g = [] := by
    rcases g with _ | ⟨a0, g⟩ <;> first | rfl | (exfalso; simp only [List.length_cons, List.length_nil] at hgl; omega)
   refine xo_call (fs := []) (cs := []) rfl rfl rfl rcan_enters rfl (fun w1 hw1 => (hcan w1 hw1.kx.below).mono ?_)
   rintro e w2 ⟨b9, rfl, hz⟩
   refine ⟨_, _, rfl, hw1.join hz (fun e he => by rw [List.mem_singleton.1 he]), ?_⟩
   clear hz hw1
   exact xo_finE ⟨b9, 0, none⟩ rfl trivial
  refine DrawE.pure 1 1 rfl (.inl rfl) (fun L g hg hd => hg.2.1 4 (hd 4 (by decide))) (fun g hlo hhi hF τ => ?_) ?_
  ·rcases g with _ | ⟨a0, _ | ⟨a1, g⟩⟩ <;> first | (simp only [lenC, lenN] at hlo hhi; omega) | (refine ⟨_, rfl, ?_⟩; refine xoA ?_; exact xo_fin rfl)
  exact DrawE.nil
 intro g hgl hF
 obtain ⟨a0, rfl⟩ : ∃ a0, g = [a0] := by
  rcases g with _ | ⟨a0, _ | ⟨a1, g⟩⟩ <;> first | exact ⟨_, rfl⟩ | (exfalso; simp only [List.length_cons, List.length_nil] at hgl; omega)
 with_reducible (repeat first | apply xqT | apply xqB | apply xqS)
 refine xc_slots [(2, .pointer (some ⟨b2, 0, none⟩)), (6, .slice (some ⟨a0.b, 0, none⟩) (N + 1) (N + 1))] ⟨rfl, rfl, trivial⟩ ?_
 refine xc_sub (η' := [(a0.b, true, cel (rowB (N + 1) f) 4), (b2, true, cel (scnV n A gs.length c E B ms.length c2) 25)]) (List.Sublist.refl _) ?_
 obtain ⟨bb, _, _⟩ := a0
 with_reducible ((repeat apply xc_seq); apply xcR)
 refine xoA ?_
 with_reducible (apply xo_nil; (repeat first | apply xqT | apply xqB | apply xqS); (repeat apply xc_seq); apply xcR)
 refine xoA ?_
 with_reducible (apply xo_nil; (repeat first | apply xqT | apply xqB | apply xqS); (repeat apply xc_seq); apply xc_block)
 refine xc_loop (γ := Nat × RowR) (fun q => q.1 ≤ N + 1 ∧ (q.2 = none → (grpL f q.1).length = 0)) (fun q => [(2, .pointer (some ⟨b2, 0, none⟩)), (6, .slice (some ⟨bb, 0, none⟩) (N + 1) (N + 1)), (7, valR q.2 (grpL f q.1).length), (8, .int .i64 (q.1 : Int))]) (fun q => hpR 55 2 q.2 (grpL f q.1).length (spaL (grpL f q.1)) ++ [(bb, true, cel (rowB (N + 1) f) 4), (b2, true, cel (scnV n A gs.length c E B ms.length c2) 25)]) (fun q => N + 1 - q.1) (0, none) ⟨Nat.zero_le _, fun _ => rfl⟩ ⟨rfl, rfl, rfl, rfl, trivial⟩ (List.Sublist.refl _) ?_
 rintro ⟨k, rr⟩ ⟨hk, hrr⟩
 simp only at hk hrr
 with_reducible ((repeat apply xc_seq); apply xcR)
 refine xoM ?_
 refine xo_fa T_ rfl rfl rfl rfl rfl ?_
 refine xo_load0 T_ rfl rfl rfl (by repeat first | exact mH | apply mT | apply mA) rfl rfl ?_
 refine xo_leq rfl rfl rfl rfl ?_
 with_reducible (apply xo_nil; (repeat first | apply xqT | apply xqB | apply xqS); (repeat apply xc_seq))
 refine xc_cond rfl (fun h => ?_) (fun h => ?_)
 ·have hlt : (k : Int) ≤ E := of_decide_eq_true h
  have hsu := grpL_succ f k
  obtain ⟨hla, hli, hln⟩ := grpL_last f k
  generalize grpL f k = acc at hrr hsu hla hli hln ⊢
  have hal := spaL_len acc
  with_reducible (apply xc_skip; (repeat first | apply xqT | apply xqB | apply xqS); (repeat apply xc_seq); apply xc_block)
  cases hf : f k
  ·rw [hf, if_neg Bool.false_ne_true] at hsu
   with_reducible ((repeat apply xc_seq); apply xcR)
   refine xoM ?_
   refine xoM ?_
   refine xo_ia T_ (i := (k : Int)) rfl rfl rfl rfl rfl ⟨by omega, by omega⟩ rfl ?_
   refine xo_loadI T_ (o := 0) (k := (k : Int).toNat * szN 0) (v := .bool false) rfl rfl rfl (by repeat first | exact mH | apply mT | apply mA) (by rw [rowB_at f (by omega), hf]) rfl ?_
   refine xoM ?_
   (first | refine xoN ?_ | refine xoM ?_)
   (first | refine xoN ?_ | refine xo_eql rfl rfl rfl rfl ?_)
   (first | refine xoN ?_ | refine xoM ?_)
   (first | refine xoN ?_ | refine xoM ?_)
   (first | refine xoN ?_ | refine xoM ?_)
   (first | refine xoN ?_ | refine xo_sub rfl rfl rfl (by omega) rfl ?_)
   (first | refine xoN ?_ | refine xo_ia T_ rfl rfl rfl rfl rfl ⟨by omega, by omega⟩ rfl ?_)
   (first | refine xoN ?_ | refine xo_loadR0 T_ rfl rfl rfl (by first | assumption | exact RO.fld (by assumption) rfl) rfl ?_)
   (first | refine xoN ?_ | refine xo_notOp rfl rfl rfl ?_)
   (first | refine xoN ?_ | (first | refine xo_pickT rfl rfl rfl rfl ?_ | refine xo_pickF rfl rfl rfl rfl ?_))
   first | refine xo_pickT rfl rfl rfl rfl ?_ | refine xo_pickF rfl rfl rfl rfl ?_
   with_reducible (apply xo_nil; (repeat first | apply xqT | apply xqB | apply xqS); (repeat apply xc_seq))
   refine xc_condF rfl ?_
   with_reducible (apply xc_skip; (repeat first | apply xqT | apply xqB | apply xqS); (repeat apply xc_seq); apply xcR)
   refine xoM ?_
   refine xoM ?_
   refine xo_ia T_ (i := (k : Int)) rfl rfl rfl rfl rfl ⟨by omega, by omega⟩ rfl ?_
   refine xo_loadI T_ (o := 0) (k := (k : Int).toNat * szN 0) (v := .bool false) rfl rfl rfl (by repeat first | exact mH | apply mT | apply mA) (by rw [rowB_at f (by omega), hf]) rfl ?_
   with_reducible (apply xo_nil; (repeat first | apply xqT | apply xqB | apply xqS); (repeat apply xc_seq))
   refine xc_condF rfl ?_
   with_reducible (apply xc_skip; (repeat first | apply xqT | apply xqB | apply xqS); (repeat apply xc_seq); apply xcR)
   refine xoM ?_
   refine xo_add rfl rfl rfl (by omega) rfl ?_
   refine xoA ?_
   with_reducible (apply xo_nil; (repeat first | apply xqT | apply xqB | apply xqS))
   exact xq_again _ _ _ _ _ (k + 1, rr) ⟨by omega, fun q => by rw [hsu]; exact hrr q⟩ (by simp only; omega) ⟨rfl, rfl, by rw [hsu]; rfl, rfl, trivial⟩ (by rw [hsu]; exact List.Sublist.refl _)
  ·rw [hf, if_pos rfl] at hsu
   rcases Nat.eq_zero_or_pos k with h0 | h0
   ·have hz : decide ((k : Int) = 0) = true := decide_eq_true (by omega)
    have hg : grpS acc (k : Int) = acc ++ [⟨k, k⟩] := by rw [grpS, if_neg (fun q => by have := (hli.1 q).1; omega)]
    rw [hg] at hsu
    with_reducible ((repeat apply xc_seq); apply xcR)
    refine xoM ?_
    refine xoM ?_
    refine xo_ia T_ (i := (k : Int)) rfl rfl rfl rfl rfl ⟨by omega, by omega⟩ rfl ?_
    refine xo_loadI T_ (o := 0) (k := (k : Int).toNat * szN 0) (v := .bool true) rfl rfl rfl (by repeat first | exact mH | apply mT | apply mA) (by rw [rowB_at f (by omega), hf]) rfl ?_
    refine xoM ?_
    (first | refine xoN ?_ | refine xoM ?_)
    (first | refine xoN ?_ | refine xo_eql rfl rfl rfl rfl ?_)
    refine xo_as (i := 35) rfl (congrArg Value.bool hz) ?_
    (first | refine xoN ?_ | refine xoM ?_)
    (first | refine xoN ?_ | refine xoM ?_)
    (first | refine xoN ?_ | refine xoM ?_)
    (first | refine xoN ?_ | refine xo_sub rfl rfl rfl (by omega) rfl ?_)
    (first | refine xoN ?_ | refine xo_ia T_ rfl rfl rfl rfl rfl ⟨by omega, by omega⟩ rfl ?_)
    (first | refine xoN ?_ | refine xo_loadR0 T_ rfl rfl rfl (by first | assumption | exact RO.fld (by assumption) rfl) rfl ?_)
    (first | refine xoN ?_ | refine xo_notOp rfl rfl rfl ?_)
    (first | refine xoN ?_ | (first | refine xo_pickT rfl rfl rfl rfl ?_ | refine xo_pickF rfl rfl rfl rfl ?_))
    first | refine xo_pickT rfl rfl rfl rfl ?_ | refine xo_pickF rfl rfl rfl rfl ?_
    with_reducible (apply xo_nil; (repeat first | apply xqT | apply xqB | apply xqS); (repeat apply xc_seq))
    refine xc_condT rfl ?_
    with_reducible ((repeat apply xc_seq); apply xcR)
    refine xoM ?_
    refine xoM ?_
    refine xo_build TB_ rfl rfl rfl rfl rfl ?_
    refine xo_bsG T_ 2 rfl rfl rfl rfl rfl rfl rfl rfl rfl rfl (fun b48 => ?_)
    refine xo_app TR_ (xs := spaL acc) rfl rfl rfl rfl rfl rfl rfl rfl hal rfl rfl hrr (by omega) rfl rfl (fun r' hr' => ?_)
    rcases r' with _ | ⟨sb, sc⟩
    ·exact absurd rfl hr'
    refine xoA ?_
    with_reducible (apply xo_nil; (repeat first | apply xqT | apply xqB | apply xqS))
    have hz2 : 0 < acc.length + 1 := by omega
    have hset : (spaL acc ++ spaV ⟨(k : Int), 0⟩).set ((acc.length + 1 - 1) * 2 + 1) (.int .i64 (k : Int)) = spaL (grpL f (k + 1)) := by
     rw [hsu, spaL_app, List.set_append_right _ _ (by omega), hal, show (acc.length + 1 - 1) * 2 + 1 - acc.length * 2 = 1 by omega]
     rfl
    have hgl : (grpL f (k + 1)).length = acc.length + 1 := by rw [hsu, List.length_append]; rfl
    have hcast : ((acc.length + 1 : Nat) : Int) = (acc.length : Int) + 1 := rfl
    refine xc_sub (η' := (sb, true, orow 55 2 (acc.length + 1) sc (spaL acc ++ spaV ⟨(k : Int), 0⟩)) :: [(bb, true, cel (rowB (N + 1) f) 4), (b2, true, cel (scnV n A gs.length c E B ms.length c2) 25)]) (List.Sublist.refl _) ?_
    with_reducible ((repeat apply xc_seq); apply xcR)
    refine xoM ?_
    refine xoM ?_
    refine xo_ia T_ (i := (k : Int)) rfl rfl rfl rfl rfl ⟨by omega, by omega⟩ rfl ?_
    refine xo_loadI T_ (o := 0) (k := (k : Int).toNat * szN 0) (v := .bool true) rfl rfl rfl (by repeat first | exact mH | apply mT | apply mA) (by rw [rowB_at f (by omega), hf]) rfl ?_
    with_reducible (apply xo_nil; (repeat first | apply xqT | apply xqB | apply xqS); (repeat apply xc_seq))
    refine xc_condT rfl ?_
    with_reducible ((repeat apply xc_seq); apply xcR)
    refine xoM ?_
    refine xoM ?_
    refine xo_len T_ rfl rfl rfl rfl ?_
    refine xo_sub rfl rfl rfl (by omega) rfl ?_
    refine xoM ?_
    refine xo_ia T_ (p := ⟨sb, 0, none⟩) (i := ((acc.length + 1) : Int) - 1) rfl rfl rfl rfl rfl ⟨by omega, by omega⟩ rfl ?_
    refine xo_faR T_ rfl rfl rfl rfl rfl ?_
    refine xo_storeZ T_ (η' := (sb, true, orow 55 2 (acc.length + 1) sc ((spaL acc ++ spaV ⟨(k : Int), 0⟩).set (((acc.length + 1) - 1) * 2 + 1) (.int .i64 (k : Int)))) :: [(bb, true, cel (rowB (N + 1) f) 4), (b2, true, cel (scnV n A gs.length c E B ms.length c2) 25)]) rfl rfl rfl (ad_last sb (acc.length + 1) 1 hz2) rfl (List.Mem.head _) rfl rfl (by omega) (by repeat first | exact Upd.head | apply Upd.tail | apply Upd.app) rfl ?_
    with_reducible (apply xo_nil; (repeat first | apply xqT | apply xqB | apply xqS); (repeat apply xc_seq); apply xcR)
    refine xoM ?_
    refine xo_add rfl rfl rfl (by omega) rfl ?_
    refine xoA ?_
    with_reducible (apply xo_nil; (repeat first | apply xqT | apply xqB | apply xqS))
    exact xq_again _ _ _ _ _ (k + 1, some (sb, sc)) ⟨by omega, fun q => by cases q⟩ (by simp only; omega) ⟨rfl, rfl, by rw [hgl]; rfl, rfl, trivial⟩ (by rw [hgl, ← hset]; exact List.Sublist.refl _)
   ·have hz : decide ((k : Int) = 0) = false := decide_eq_false (by omega)
    have hk1 : ((k : Int) - 1).toNat = ((k - 1 : Nat) : Int).toNat := by omega
    cases hp : f (k - 1)
    ·have hg : grpS acc (k : Int) = acc ++ [⟨k, k⟩] := by rw [grpS, if_neg (fun q => by have := (hli.1 q).2; rw [hp] at this; cases this)]
     rw [hg] at hsu
     with_reducible ((repeat apply xc_seq); apply xcR)
     refine xoM ?_
     refine xoM ?_
     refine xo_ia T_ (i := (k : Int)) rfl rfl rfl rfl rfl ⟨by omega, by omega⟩ rfl ?_
     refine xo_loadI T_ (o := 0) (k := (k : Int).toNat * szN 0) (v := .bool true) rfl rfl rfl (by repeat first | exact mH | apply mT | apply mA) (by rw [rowB_at f (by omega), hf]) rfl ?_
     refine xoM ?_
     (first | refine xoN ?_ | refine xoM ?_)
     (first | refine xoN ?_ | refine xo_eql rfl rfl rfl rfl ?_)
     refine xo_as (i := 35) rfl (congrArg Value.bool hz) ?_
     (first | refine xoN ?_ | refine xoM ?_)
     (first | refine xoN ?_ | refine xoM ?_)
     (first | refine xoN ?_ | refine xoM ?_)
     (first | refine xoN ?_ | refine xo_sub rfl rfl rfl (by omega) rfl ?_)
     (first | refine xoN ?_ | refine xo_ia T_ (i := (k : Int) - 1) rfl rfl rfl rfl rfl ⟨by omega, by omega⟩ rfl ?_)
     (first | refine xoN ?_ | refine xo_loadI T_ (o := 0) (k := ((k : Int) - 1).toNat * szN 0) (v := .bool false) rfl rfl rfl (by repeat first | exact mH | apply mT | apply mA) (by rw [hk1, rowB_at f (by omega), hp]) rfl ?_)
     (first | refine xoN ?_ | refine xo_notOp rfl rfl rfl ?_)
     (first | refine xoN ?_ | (first | refine xo_pickT rfl rfl rfl rfl ?_ | refine xo_pickF rfl rfl rfl rfl ?_))
     first | refine xo_pickT rfl rfl rfl rfl ?_ | refine xo_pickF rfl rfl rfl rfl ?_
     with_reducible (apply xo_nil; (repeat first | apply xqT | apply xqB | apply xqS); (repeat apply xc_seq))
     refine xc_condT rfl ?_
     with_reducible ((repeat apply xc_seq); apply xcR)
     refine xoM ?_
     refine xoM ?_
     refine xo_build TB_ rfl rfl rfl rfl rfl ?_
     refine xo_bsG T_ 2 rfl rfl rfl rfl rfl rfl rfl rfl rfl rfl (fun b48 => ?_)
     refine xo_app TR_ (xs := spaL acc) rfl rfl rfl rfl rfl rfl rfl rfl hal rfl rfl hrr (by omega) rfl rfl (fun r' hr' => ?_)
     rcases r' with _ | ⟨sb, sc⟩
     ·exact absurd rfl hr'
     refine xoA ?_
     with_reducible (apply xo_nil; (repeat first | apply xqT | apply xqB | apply xqS))
     have hz2 : 0 < acc.length + 1 := by omega
     have hset : (spaL acc ++ spaV ⟨(k : Int), 0⟩).set ((acc.length + 1 - 1) * 2 + 1) (.int .i64 (k : Int)) = spaL (grpL f (k + 1)) := by
      rw [hsu, spaL_app, List.set_append_right _ _ (by omega), hal, show (acc.length + 1 - 1) * 2 + 1 - acc.length * 2 = 1 by omega]
      rfl
     have hgl : (grpL f (k + 1)).length = acc.length + 1 := by rw [hsu, List.length_append]; rfl
     have hcast : ((acc.length + 1 : Nat) : Int) = (acc.length : Int) + 1 := rfl
     refine xc_sub (η' := (sb, true, orow 55 2 (acc.length + 1) sc (spaL acc ++ spaV ⟨(k : Int), 0⟩)) :: [(bb, true, cel (rowB (N + 1) f) 4), (b2, true, cel (scnV n A gs.length c E B ms.length c2) 25)]) (List.Sublist.refl _) ?_
     with_reducible ((repeat apply xc_seq); apply xcR)
     refine xoM ?_
     refine xoM ?_
     refine xo_ia T_ (i := (k : Int)) rfl rfl rfl rfl rfl ⟨by omega, by omega⟩ rfl ?_
     refine xo_loadI T_ (o := 0) (k := (k : Int).toNat * szN 0) (v := .bool true) rfl rfl rfl (by repeat first | exact mH | apply mT | apply mA) (by rw [rowB_at f (by omega), hf]) rfl ?_
     with_reducible (apply xo_nil; (repeat first | apply xqT | apply xqB | apply xqS); (repeat apply xc_seq))
     refine xc_condT rfl ?_
     with_reducible ((repeat apply xc_seq); apply xcR)
     refine xoM ?_
     refine xoM ?_
     refine xo_len T_ rfl rfl rfl rfl ?_
     refine xo_sub rfl rfl rfl (by omega) rfl ?_
     refine xoM ?_
     refine xo_ia T_ (p := ⟨sb, 0, none⟩) (i := ((acc.length + 1) : Int) - 1) rfl rfl rfl rfl rfl ⟨by omega, by omega⟩ rfl ?_
     refine xo_faR T_ rfl rfl rfl rfl rfl ?_
     refine xo_storeZ T_ (η' := (sb, true, orow 55 2 (acc.length + 1) sc ((spaL acc ++ spaV ⟨(k : Int), 0⟩).set (((acc.length + 1) - 1) * 2 + 1) (.int .i64 (k : Int)))) :: [(bb, true, cel (rowB (N + 1) f) 4), (b2, true, cel (scnV n A gs.length c E B ms.length c2) 25)]) rfl rfl rfl (ad_last sb (acc.length + 1) 1 hz2) rfl (List.Mem.head _) rfl rfl (by omega) (by repeat first | exact Upd.head | apply Upd.tail | apply Upd.app) rfl ?_
     with_reducible (apply xo_nil; (repeat first | apply xqT | apply xqB | apply xqS); (repeat apply xc_seq); apply xcR)
     refine xoM ?_
     refine xo_add rfl rfl rfl (by omega) rfl ?_
     refine xoA ?_
     with_reducible (apply xo_nil; (repeat first | apply xqT | apply xqB | apply xqS))
     exact xq_again _ _ _ _ _ (k + 1, some (sb, sc)) ⟨by omega, fun q => by cases q⟩ (by simp only; omega) ⟨rfl, rfl, by rw [hgl]; rfl, rfl, trivial⟩ (by rw [hgl, ← hset]; exact List.Sublist.refl _)
    ·obtain ⟨hz2, hl2⟩ := hli.2 ⟨h0, hp⟩
     have hset := spaL_set acc (acc.length - 1) (by omega) (k : Int)
     have hg : grpS acc (k : Int) = acc.set (acc.length - 1) ⟨(acc.getD (acc.length - 1) zSpa).f0, k⟩ := by rw [grpS, if_pos ⟨hz2, hl2⟩]
     rw [← hg, ← hsu] at hset
     have hgl : (grpL f (k + 1)).length = acc.length := by rw [hsu, hg, List.length_set]
     rcases rr with _ | ⟨sb, sc⟩
     ·have := hrr rfl
      omega
     with_reducible ((repeat apply xc_seq); apply xcR)
     refine xoM ?_
     refine xoM ?_
     refine xo_ia T_ (i := (k : Int)) rfl rfl rfl rfl rfl ⟨by omega, by omega⟩ rfl ?_
     refine xo_loadI T_ (o := 0) (k := (k : Int).toNat * szN 0) (v := .bool true) rfl rfl rfl (by repeat first | exact mH | apply mT | apply mA) (by rw [rowB_at f (by omega), hf]) rfl ?_
     refine xoM ?_
     (first | refine xoN ?_ | refine xoM ?_)
     (first | refine xoN ?_ | refine xo_eql rfl rfl rfl rfl ?_)
     refine xo_as (i := 35) rfl (congrArg Value.bool hz) ?_
     (first | refine xoN ?_ | refine xoM ?_)
     (first | refine xoN ?_ | refine xoM ?_)
     (first | refine xoN ?_ | refine xoM ?_)
     (first | refine xoN ?_ | refine xo_sub rfl rfl rfl (by omega) rfl ?_)
     (first | refine xoN ?_ | refine xo_ia T_ (i := (k : Int) - 1) rfl rfl rfl rfl rfl ⟨by omega, by omega⟩ rfl ?_)
     (first | refine xoN ?_ | refine xo_loadI T_ (o := 0) (k := ((k : Int) - 1).toNat * szN 0) (v := .bool true) rfl rfl rfl (by repeat first | exact mH | apply mT | apply mA) (by rw [hk1, rowB_at f (by omega), hp]) rfl ?_)
     (first | refine xoN ?_ | refine xo_notOp rfl rfl rfl ?_)
     (first | refine xoN ?_ | (first | refine xo_pickT rfl rfl rfl rfl ?_ | refine xo_pickF rfl rfl rfl rfl ?_))
     first | refine xo_pickT rfl rfl rfl rfl ?_ | refine xo_pickF rfl rfl rfl rfl ?_
     with_reducible (apply xo_nil; (repeat first | apply xqT | apply xqB | apply xqS); (repeat apply xc_seq))
     refine xc_condF rfl ?_
     with_reducible (apply xc_skip; (repeat first | apply xqT | apply xqB | apply xqS); (repeat apply xc_seq); apply xcR)
     refine xoM ?_
     refine xoM ?_
     refine xo_ia T_ (i := (k : Int)) rfl rfl rfl rfl rfl ⟨by omega, by omega⟩ rfl ?_
     refine xo_loadI T_ (o := 0) (k := (k : Int).toNat * szN 0) (v := .bool true) rfl rfl rfl (by repeat first | exact mH | apply mT | apply mA) (by rw [rowB_at f (by omega), hf]) rfl ?_
     with_reducible (apply xo_nil; (repeat first | apply xqT | apply xqB | apply xqS); (repeat apply xc_seq))
     refine xc_condT rfl ?_
     with_reducible ((repeat apply xc_seq); apply xcR)
     refine xoM ?_
     refine xoM ?_
     refine xo_len T_ rfl rfl rfl rfl ?_
     refine xo_sub rfl rfl rfl (by omega) rfl ?_
     refine xoM ?_
     refine xo_ia T_ (p := ⟨sb, 0, none⟩) (i := (acc.length : Int) - 1) rfl rfl rfl rfl rfl ⟨by omega, by omega⟩ rfl ?_
     refine xo_faR T_ rfl rfl rfl rfl rfl ?_
     refine xo_storeZ T_ (η' := (sb, true, orow 55 2 acc.length sc ((spaL acc).set ((acc.length - 1) * 2 + 1) (.int .i64 (k : Int)))) :: [(bb, true, cel (rowB (N + 1) f) 4), (b2, true, cel (scnV n A gs.length c E B ms.length c2) 25)]) rfl rfl rfl (ad_last sb acc.length 1 hz2) rfl (List.Mem.head _) rfl rfl (by omega) (by repeat first | exact Upd.head | apply Upd.tail | apply Upd.app) rfl ?_
     with_reducible (apply xo_nil; (repeat first | apply xqT | apply xqB | apply xqS); (repeat apply xc_seq); apply xcR)
     refine xoM ?_
     refine xo_add rfl rfl rfl (by omega) rfl ?_
     refine xoA ?_
     with_reducible (apply xo_nil; (repeat first | apply xqT | apply xqB | apply xqS))
     exact xq_again _ _ _ _ _ (k + 1, some (sb, sc)) ⟨by omega, fun q => by cases q⟩ (by simp only; omega) ⟨rfl, rfl, by rw [hgl]; rfl, rfl, trivial⟩ (by rw [hgl, ← hset]; exact List.Sublist.refl _)
 have hge : k = N + 1 := by have := of_decide_eq_false h; omega
 subst hge
 with_reducible (apply xc_exit; (repeat (first | apply xq_blockX | apply xq_thenE | refine xq_blockE rfl ?_ | apply xq_scopeE)); (repeat first | apply xqT | apply xqB | apply xqS); (repeat apply xc_seq); apply xcR)
 refine xoM ?_
 refine xoA ?_
 refine xoA ?_
 with_reducible (apply xo_nil; (repeat first | apply xqT | apply xqB | apply xqS); (repeat apply xc_seq); apply xc_ret; (repeat (first | apply xq_thenR | apply xq_blockR | apply xq_scopeR)))
 exact xq_ret2 rfl rfl rfl fun w' hw => ⟨rr, rfl, RowZ.of hw hrr, hw.kx.below⟩
theorem rminutes_enters : ∀ args w, (callFunc 8 args).run Tryd.prog w = .ok (.enter 8 args) w := enters_of Tryd.func8 (by kernel_rfl) rfl
theorem rcheck_calls (R E : Int) (A B : Option Addr) (c c2 : Nat) (gs : List GatT) (ms : List MarT) (w : World) (hA : RowOf gatV 4 zGat w A gs) (hM : RowOf marV 7 zMar w B ms) :
  Calls Tryd.prog 16 #[.agg (scnV R A gs.length c E B ms.length c2).toArray] w fun e w' => e = .returned (.int .i64 (checkF R E gs ms)) ∧ Below w.heap.size w w' := by
 refine x_calls (X := XNone) Tryd.func16 rfl rfl rfl ?_
 with_reducible ((repeat apply xc_seq); apply xcR)
 refine xo_box rfl rfl rfl rfl (fun b1 => ?_)
 refine xoA ?_
 with_reducible (apply xo_nil; (repeat first | apply xqT | apply xqB | apply xqS))
 cases hsc : sceneF R E gs ms
 ·with_reducible repeat apply xc_seq
  with_reducible apply xcR
  refine xo_loadN T_ rfl rfl rfl (by repeat first | exact mH | apply mT | apply mA) rfl rfl ?_
  refine xo_callB (fs := []) (cs := []) rfl rfl rfl scene_enters rfl (fun w1 hw1 => scene_calls R E A B c c2 gs ms w1 (hA.below hw1.kx.below) (hM.below hw1.kx.below)) ?_
  refine xo_notOp rfl rfl rfl ?_
  refine xo_as (i := 5) rfl (congrArg (fun b => Value.bool !b) hsc) ?_
  with_reducible (apply xo_nil; (repeat first | apply xqT | apply xqB | apply xqS); (repeat apply xc_seq))
  refine xc_condT rfl ?_
  with_reducible ((repeat apply xc_seq); apply xcR)
  refine xoA ?_
  with_reducible (apply xo_nil; (repeat first | apply xqT | apply xqB | apply xqS); (repeat apply xc_seq); apply xc_ret; (repeat (first | apply xq_thenR | apply xq_blockR | apply xq_scopeR)))
  exact xq_ret1 rfl rfl fun w' hw => ⟨by rw [check_no hsc], hw.kx.below⟩
 ·with_reducible repeat apply xc_seq
  with_reducible apply xcR
  refine xo_loadN T_ rfl rfl rfl (by repeat first | exact mH | apply mT | apply mA) rfl rfl ?_
  refine xo_callB (fs := []) (cs := []) rfl rfl rfl scene_enters rfl (fun w1 hw1 => scene_calls R E A B c c2 gs ms w1 (hA.below hw1.kx.below) (hM.below hw1.kx.below)) ?_
  refine xo_notOp rfl rfl rfl ?_
  refine xo_as (i := 5) rfl (congrArg (fun b => Value.bool !b) hsc) ?_
  with_reducible (apply xo_nil; (repeat first | apply xqT | apply xqB | apply xqS); (repeat apply xc_seq))
  refine xc_condF rfl ?_
  with_reducible (apply xc_skip; (repeat first | apply xqT | apply xqB | apply xqS); (repeat apply xc_seq); apply xcR)
  refine xoA ?_
  with_reducible (apply xo_nil; (repeat first | apply xqT | apply xqB | apply xqS); (repeat apply xc_seq); apply xc_ret; (repeat (first | apply xq_thenR | apply xq_blockR | apply xq_scopeR)))
  exact xq_ret1 rfl rfl fun w' hw => ⟨by rw [checkF, if_pos hsc], hw.kx.below⟩
theorem rcheck_enters : ∀ args w, (callFunc 16 args).run Tryd.prog w = .ok (.enter 16 args) w := enters_of Tryd.func16 (by kernel_rfl) rfl
set_option maxHeartbeats 8000000 in
theorem rRooms_calls (R E : Int) (A B : Option Addr) (c c2 : Nat) (gs : List GatT) (ms : List MarT) (w : World) (hA : RowOf gatV 4 zGat w A gs) (hM : RowOf marV 7 zMar w B ms) :
  Calls Tryd.prog 10 #[.agg (scnV R A gs.length c E B ms.length c2).toArray] w fun e w' => ∃ rr : RowR, e = .returned (.tuple #[valR rr (roomsR R E gs ms).length, .int .i64 (checkF R E gs ms)]) ∧ RowAt 3 w.heap.size w' rr (intsN (roomsR R E gs ms)) ∧ Below w.heap.size w w' := by
 refine x_calls (X := XNone) Tryd.func10 rfl rfl rfl ?_
 with_reducible ((repeat apply xc_seq); apply xcR)
 refine xo_box rfl rfl rfl rfl (fun b1 => ?_)
 refine xoA ?_
 refine xoA ?_
 with_reducible (apply xo_nil; (repeat first | apply xqT | apply xqB | apply xqS))
 cases hsc : sceneF R E gs ms
 ·have e1 : checkF R E gs ms = 90 := check_no hsc
  have e2 : roomsR R E gs ms = [] := by rw [roomsR, if_neg (by rw [hsc]; exact Bool.false_ne_true)]
  with_reducible ((repeat apply xc_seq); apply xcR)
  refine xo_loadN T_ rfl rfl rfl (by repeat first | exact mH | apply mT | apply mA) rfl rfl ?_
  refine xo_callB (fs := []) (cs := []) rfl rfl rfl scene_enters rfl (fun w1 hw1 => scene_calls R E A B c c2 gs ms w1 (hA.below hw1.kx.below) (hM.below hw1.kx.below)) ?_
  refine xo_notOp rfl rfl rfl ?_
  refine xo_as (i := 6) rfl (congrArg (fun b => Value.bool !b) hsc) ?_
  with_reducible (apply xo_nil; (repeat first | apply xqT | apply xqB | apply xqS); (repeat apply xc_seq))
  refine xc_condT rfl ?_
  with_reducible ((repeat apply xc_seq); apply xcR)
  refine xoA ?_
  refine xoA ?_
  with_reducible (apply xo_nil; (repeat first | apply xqT | apply xqB | apply xqS); (repeat apply xc_seq); apply xc_ret; (repeat (first | apply xq_thenR | apply xq_blockR | apply xq_scopeR)))
  exact xq_ret2 rfl rfl rfl fun w' hw => ⟨none, by rw [e1, e2]; rfl, by rw [e2]; exact ⟨fun _ => rfl, fun p hp => by cases hp⟩, hw.kx.below⟩
 with_reducible ((repeat apply xc_seq); apply xcR)
 refine xo_loadN T_ rfl rfl rfl (by repeat first | exact mH | apply mT | apply mA) rfl rfl ?_
 refine xo_callB (fs := []) (cs := []) rfl rfl rfl scene_enters rfl (fun w1 hw1 => scene_calls R E A B c c2 gs ms w1 (hA.below hw1.kx.below) (hM.below hw1.kx.below)) ?_
 refine xo_notOp rfl rfl rfl ?_
 refine xo_as (i := 6) rfl (congrArg (fun b => Value.bool !b) hsc) ?_
 with_reducible (apply xo_nil; (repeat first | apply xqT | apply xqB | apply xqS); (repeat apply xc_seq))
 refine xc_condF rfl ?_
 with_reducible (apply xc_skip; (repeat first | apply xqT | apply xqB | apply xqS))
 obtain ⟨hR6, hE6, hG, hm8, hmk⟩ := sceneF_ok hsc
 have e1 : checkF R E gs ms = 0 := by rw [checkF, if_pos hsc]
 obtain ⟨n, rfl, hn1, hn6⟩ := nat_of hR6
 obtain ⟨hS, hmkR⟩ := sane_of (R := n) rfl hsc
 have h2 := two8 hm8
 have e2 : roomsR n E gs ms = roomsRef n E gs ms n := by rw [roomsR, if_pos hsc, Int.toNat_natCast, rooms_same hS hmkR]
 have hrr := fun w1 (hb : Below w.heap.size w w1) => rrooms_calls n E A B c c2 gs ms (2 ^ ms.length - 1) w1 (sceneR_of hsc (hA.below hb) (hM.below hb)) (by omega)
 rw [setOf_all] at hrr
 rw [e1, e2]
 generalize roomsRef n E gs ms n = L at hrr ⊢
 have hLL : (intsN L).length = L.length := by simp [intsN]
 refine xc_slots [(1, .pointer (some ⟨b1, 0, none⟩))] ⟨rfl, trivial⟩ ?_
 with_reducible (repeat apply xc_seq)
 apply xc_drawE (fun g => [(3, valR (g.getD 0 gv0).rr L.length), (4, valR (g.getD 0 gv0).rr L.length)]) (fun (η0 : Hp) g => match g with | [] => (η0) | a0 :: _ => (hpR 3 1 a0.rr (intsN L).length ((intsN L).map (.int .i64)) ++ [(b1, true, cel (scnV n A gs.length c E B ms.length c2) 25)])) (fun g => match g with | a0 :: _ => (a0.rr = none → intsN L = []) | _ => True) [0, 0, 0, 1, 1, 1] [3] [[0, 2, 2]] (by trivial)
 apply SameLen.cons
 apply SameLen.cons
 apply SameLen.cons
 apply SameLen.cons (c := undef)
 apply SameLen.cons (c := undef)
 apply SameLen.cons
 exact SameLen.nil
 rotate_left 4
 case hH0 => rfl
 case hmix => exact T_.mixed
 case hbind => rfl
 case hdeps => rfl
 case hdist => rfl
 case hfresh => rfl
 case hE => rfl
 case hEn => decide
 ·refine DrawE.pure 0 0 rfl (.inr (by decide)) (fun L g hg hd => Nat.zero_le _) (fun g hlo hhi hF τ => ?_) ?_
  ·rcases g with _ | ⟨a0, _ | ⟨a1, g⟩⟩ <;> first | (simp only [lenC, lenN] at hlo hhi; omega) | (refine ⟨_, rfl, ?_⟩; refine xo_loadN T_ rfl rfl rfl (by repeat first | exact mH | apply mT | apply mA) rfl rfl ?_; exact xo_fin rfl)
  refine DrawE.pure 0 1 rfl (.inl rfl) (fun L g hg hd => Nat.zero_le _) (fun g hlo hhi hF τ => ?_) ?_
  ·rcases g with _ | ⟨a0, _ | ⟨a1, g⟩⟩ <;> first | (simp only [lenC, lenN] at hlo hhi; omega) | (refine ⟨_, rfl, ?_⟩; refine xo_loadN T_ rfl rfl rfl (by repeat first | exact mH | apply mT | apply mA) rfl rfl ?_; exact xo_fin rfl)
  refine DrawE.pure 0 0 rfl (.inr (by decide)) (fun L g hg hd => Nat.zero_le _) (fun g hlo hhi hF τ => ?_) ?_
  ·rcases g with _ | ⟨a0, _ | ⟨a1, g⟩⟩ <;> first | (simp only [lenC, lenN] at hlo hhi; omega) | (refine ⟨_, rfl, ?_⟩; refine xo_callB (fs := []) (cs := []) rfl rfl rfl every_enters rfl (fun w1 hw1 => every_calls n E A B gs.length c c2 ms w1 hm8) ?_; exact xo_fin rfl)
  refine DrawE.eff 0 rfl (by decide) rfl (fun j hj => hj) (fun j g a hj => ?_) (fun L g hg hd => Nat.zero_le _) (fun g hgl hF τ => ?_) ?_
  ·rcases j with _ | _ | _ | _ | _ | _ | j
   all_goals first | rfl | (rcases g with _ | ⟨a0, _ | ⟨a1, g⟩⟩ <;> first | rfl | exact absurd hj (by decide) | exact absurd hj (by simp [List.getD]))
  ·obtain rfl : g = [] := by
    rcases g with _ | ⟨a0, g⟩ <;> first | rfl | (exfalso; simp only [List.length_cons, List.length_nil] at hgl; omega)
   refine xo_call (fs := []) (cs := []) rfl rfl rfl rrooms_enters rfl (fun w1 hw1 => (hrr w1 hw1.kx.below).mono ?_)
   rintro e w2 ⟨rr, rfl, hrw, hb⟩
   have h11 := hrw.1
   refine ⟨_, _, rfl, hw1.row hb hrw, ?_⟩
   clear hrw hb hw1
   exact xo_finE ⟨0, 0, rr⟩ rfl h11
  refine DrawE.pure 1 1 rfl (.inl rfl) (fun L g hg hd => hg.2.1 3 (hd 3 (by decide))) (fun g hlo hhi hF τ => ?_) ?_
  ·rcases g with _ | ⟨a0, _ | ⟨a1, g⟩⟩ <;> first | (simp only [lenC, lenN] at hlo hhi; omega) | (refine ⟨_, rfl, ?_⟩; refine xoA ?_; exact xo_fin rfl)
  refine DrawE.pure 1 1 rfl (.inl rfl) (fun L g hg hd => hg.2.1 4 (hd 4 (by decide))) (fun g hlo hhi hF τ => ?_) ?_
  ·rcases g with _ | ⟨a0, _ | ⟨a1, g⟩⟩ <;> first | (simp only [lenC, lenN] at hlo hhi; omega) | (refine ⟨_, rfl, ?_⟩; refine xoA ?_; exact xo_fin rfl)
  exact DrawE.nil
 intro g hgl hF
 obtain ⟨a0, rfl⟩ : ∃ a0, g = [a0] := by
  rcases g with _ | ⟨a0, _ | ⟨a1, g⟩⟩ <;> first | exact ⟨_, rfl⟩ | (exfalso; simp only [List.length_cons, List.length_nil] at hgl; omega)
 with_reducible ((repeat first | apply xqT | apply xqB | apply xqS); (repeat apply xc_seq); apply xc_ret; (repeat (first | apply xq_thenR | apply xq_blockR | apply xq_scopeR)))
 exact xq_ret2 rfl rfl rfl fun w' hw => ⟨a0.rr, rfl, RowAt.of hw hF, hw.kx.below⟩
theorem rRooms_enters : ∀ args w, (callFunc 10 args).run Tryd.prog w = .ok (.enter 10 args) w := enters_of Tryd.func10 (by kernel_rfl) rfl
set_option maxHeartbeats 8000000 in
theorem rNamed_calls (R E : Int) (A B : Option Addr) (c c2 : Nat) (gs : List GatT) (ms : List MarT) (w : World) (hA : RowOf gatV 4 zGat w A gs) (hM : RowOf marV 7 zMar w B ms) :
  Calls Tryd.prog 12 #[.agg (scnV R A gs.length c E B ms.length c2).toArray] w fun e w' => e = .returned (.tuple #[.int .i64 (namedV R E gs ms), .int .i64 (namedC R E gs ms)]) ∧ Below w.heap.size w w' := by
 refine x_calls (X := XNone) Tryd.func12 rfl rfl rfl ?_
 with_reducible ((repeat apply xc_seq); apply xcR)
 refine xo_box rfl rfl rfl rfl (fun b1 => ?_)
 refine xoA ?_
 refine xoA ?_
 with_reducible (apply xo_nil; (repeat first | apply xqT | apply xqB | apply xqS); (repeat apply xc_seq); apply xcR)
 refine xo_loadN T_ rfl rfl rfl (by repeat first | exact mH | apply mT | apply mA) rfl rfl ?_
 refine xo_call (fs := []) (cs := []) rfl rfl rfl rRooms_enters rfl (fun w1 hw1 => (rRooms_calls R E A B c c2 gs ms w1 (hA.below hw1.kx.below) (hM.below hw1.kx.below)).mono ?_)
 rintro e w2 ⟨r, rfl, hrw, hb⟩
 have h11 := hrw.1
 refine ⟨_, _, rfl, hw1.row hb hrw, ?_⟩
 clear hrw hb hw1
 refine xoM ?_
 refine xo_ext rfl rfl rfl rfl ?_
 refine xo_ext rfl rfl rfl rfl ?_
 refine xoA ?_
 refine xoA ?_
 with_reducible (apply xo_nil; (repeat first | apply xqT | apply xqB | apply xqS))
 cases hsc : sceneF R E gs ms
 ·have e1 : namedC R E gs ms = 90 := by simp [namedC, hsc]
  have e2 : namedV R E gs ms = 0 := by rw [namedV, if_neg (by rw [e1]; decide)]
  have e3 := check_no hsc
  have hd : (!decide (checkF R E gs ms = 0)) = true := by rw [e3]; rfl
  with_reducible ((repeat apply xc_seq); apply xc_block; (repeat apply xc_seq); apply xcR)
  refine xoM ?_
  refine xo_neq rfl rfl rfl rfl ?_
  refine xoA ?_
  refine xo_as (i := 11) rfl (congrArg Value.bool hd) ?_
  with_reducible (apply xo_nil; (repeat first | apply xqT | apply xqB | apply xqS); (repeat apply xc_seq))
  refine xc_condT rfl ?_
  with_reducible ((repeat apply xc_seq); apply xcR)
  refine xoM ?_
  refine xoA ?_
  refine xoA ?_
  with_reducible (apply xo_nil; (repeat first | apply xqT | apply xqB | apply xqS); (repeat apply xc_seq); apply xc_ret; (repeat (first | apply xq_thenR | apply xq_blockR | apply xq_scopeR)))
  exact xq_ret2 rfl rfl rfl fun w' hw => ⟨by rw [e1, e2, e3], hw.kx.below⟩
 have e3 : checkF R E gs ms = 0 := by rw [checkF, if_pos hsc]
 have hd : (!decide (checkF R E gs ms = 0)) = false := by rw [e3]; rfl
 with_reducible ((repeat apply xc_seq); apply xc_block; (repeat apply xc_seq); apply xcR)
 refine xoM ?_
 refine xo_neq rfl rfl rfl rfl ?_
 refine xoA ?_
 refine xo_as (i := 11) rfl (congrArg Value.bool hd) ?_
 with_reducible (apply xo_nil; (repeat first | apply xqT | apply xqB | apply xqS); (repeat apply xc_seq))
 refine xc_condF rfl ?_
 have e4 : namedC R E gs ms = if (roomsR R E gs ms).length = 0 then 91 else if 1 < (roomsR R E gs ms).length then 6 else 0 := by rw [namedC, if_pos hsc]
 unfold namedV
 rw [e4]
 generalize roomsR R E gs ms = l at h11 ⊢
 have hv := valR_eq (r := r) (n := l.length) fun q => by simpa [intsN] using h11 q
 refine xc_slots [(2, .int .i64 0), (3, .int .i64 0), (4, .slice (valA r) l.length (valC r)), (5, .int .i64 (checkF R E gs ms))] ⟨rfl, rfl, congrArg some hv, rfl, trivial⟩ ?_
 with_reducible ((repeat apply xc_seq); apply xcR)
 refine xoM ?_
 refine xo_len T_ rfl rfl rfl rfl ?_
 refine xo_eql rfl rfl rfl rfl ?_
 refine xoA ?_
 with_reducible (apply xo_nil; (repeat first | apply xqT | apply xqB | apply xqS); (repeat apply xc_seq))
 refine xc_cond rfl (fun h => ?_) (fun h => ?_)
 ·have h0 : l.length = 0 := by have := of_decide_eq_true h; omega
  with_reducible ((repeat apply xc_seq); apply xcR)
  refine xoA ?_
  refine xoA ?_
  with_reducible (apply xo_nil; (repeat first | apply xqT | apply xqB | apply xqS); (repeat apply xc_seq); apply xc_ret; (repeat (first | apply xq_thenR | apply xq_blockR | apply xq_scopeR)))
  exact xq_ret2 rfl rfl rfl fun w' hw => ⟨by rw [if_pos h0]; rfl, hw.kx.below⟩
 have h0 : ¬ l.length = 0 := by have := of_decide_eq_false h; omega
 with_reducible ((repeat apply xc_seq); apply xcR)
 refine xoM ?_
 refine xo_len T_ rfl rfl rfl rfl ?_
 refine xo_gtr rfl rfl rfl rfl ?_
 refine xoA ?_
 with_reducible (apply xo_nil; (repeat first | apply xqT | apply xqB | apply xqS); (repeat apply xc_seq))
 refine xc_cond rfl (fun h => ?_) (fun h => ?_)
 ·have h1 : 1 < l.length := by have := of_decide_eq_true h; omega
  with_reducible ((repeat apply xc_seq); apply xcR)
  refine xoA ?_
  refine xoA ?_
  with_reducible (apply xo_nil; (repeat first | apply xqT | apply xqB | apply xqS); (repeat apply xc_seq); apply xc_ret; (repeat (first | apply xq_thenR | apply xq_blockR | apply xq_scopeR)))
  exact xq_ret2 rfl rfl rfl fun w' hw => ⟨by rw [if_neg h0, if_pos h1]; rfl, hw.kx.below⟩
 have h1 : ¬ 1 < l.length := by have := of_decide_eq_false h; omega
 with_reducible (apply xc_skip; (repeat first | apply xqT | apply xqB | apply xqS))
 rcases r with _ | ⟨rb, rcap⟩
 ·have := h11 rfl
  simp [intsN] at this
  subst this
  exact absurd rfl h0
 with_reducible ((repeat apply xc_seq); apply xcR)
 refine xoM ?_
 refine xo_ia T_ rfl rfl rfl rfl rfl ⟨by omega, by omega⟩ rfl ?_
 refine xo_loadO T_ (k := 0) (v := .int .i64 ((l.getD 0 0 : Nat) : Int)) rfl rfl rfl (List.Mem.head _) ?_ rfl ?_
 ·cases l with
  | nil => exact absurd rfl h0
  | cons x l => simp [intsN]
 refine xoA ?_
 refine xoA ?_
 with_reducible (apply xo_nil; (repeat first | apply xqT | apply xqB | apply xqS); (repeat apply xc_seq); apply xc_ret; (repeat (first | apply xq_thenR | apply xq_blockR | apply xq_scopeR)))
 exact xq_ret2 rfl rfl rfl fun w' hw => ⟨by rw [if_neg h0, if_neg h1]; rfl, hw.kx.below⟩
theorem rNamed_enters : ∀ args w, (callFunc 12 args).run Tryd.prog w = .ok (.enter 12 args) w := enters_of Tryd.func12 (by kernel_rfl) rfl
def hasS (s : SpaT) (z : Int) : Bool := inF s.f0 s.f1 z
theorem hasS_iff {s : SpaT} {z : Int} : hasS s z = true ↔ inS s z := inF_iff
theorem began_find (E : Int) (R : Nat) (gs : List GatT) (room : Nat) (ms : List MarT) (z : Int) : ∀ (ls : List (List Int)) (i : Nat), ((beganFrom E R gs room ms i ls).find? fun x => inF x.2.f0 x.2.f1 z).map (·.1) = (ls.findIdx? fun l => hasS (winF E (farM R gs l room) ms) z).map (i + ·)
 | [], i => rfl
 | l :: ls, i => by
  have ih := began_find E R gs room ms z ls (i + 1)
  have hs : ∀ o : Option Nat, o.map (i + 1 + ·) = (o.map (· + 1)).map (i + ·) := fun o => by cases o <;> simp <;> omega
  unfold beganFrom
  rw [List.findIdx?_cons]
  by_cases hz : inS (winF E (farM R gs l room) ms) z
  ·have hle : (winF E (farM R gs l room) ms).f0 ≤ (winF E (farM R gs l room) ms).f1 := Int.le_trans hz.1 hz.2
   rw [if_pos hle, List.find?_cons_of_pos (by exact inF_iff.2 hz), hasS_iff.2 hz]
   rfl
  ·rw [show hasS (winF E (farM R gs l room) ms) z = false by rw [← Bool.not_eq_true, hasS_iff]; exact hz]
   simp only [Bool.false_eq_true, if_false]
   rw [← hs, ← ih]
   split
   ·rw [List.find?_cons_of_neg (by intro q; exact hz (inF_iff.1 q))]
   ·rfl
theorem truthI_eq (E : Int) (R : Nat) (gs : List GatT) (room : Nat) (ms : List MarT) (z : Int) : truthI E R gs room ms z = (allD gs).findIdx? fun l => hasS (winF E (farM R gs l room) ms) z := by
 unfold truthI beganL
 rw [began_find]
 cases (allD gs).findIdx? _ <;> simp
theorem truthL0_eq (E : Int) (R : Nat) (gs : List GatT) (room : Nat) (ms : List MarT) (z : Int) : truthL0 E R gs room ms z = ((allD gs).find? fun l => hasS (winF E (farM R gs l room) ms) z).getD [] := by
 unfold truthL0
 rw [truthI_eq]
 generalize (allD gs) = L
 induction L with
 | nil => rfl
 | cons l L ih =>
  rw [List.findIdx?_cons, List.find?_cons]
  cases hasS (winF E (farM R gs l room) ms) z
  ·simp only [Bool.false_eq_true, if_false]
   rw [← ih]
   cases List.findIdx? _ L <;> rfl
  ·rfl
theorem find_mem {α : Type} {p : α → Bool} {L : List α} {d : α} (h : (L.find? p).isSome = true) : (L.find? p).getD d ∈ L ∧ p ((L.find? p).getD d) = true := by
 obtain ⟨x, hx⟩ := Option.isSome_iff_exists.1 h
 rw [hx]
 exact ⟨List.mem_of_find?_eq_some hx, List.find?_some hx⟩
theorem truth_is {R E : Int} {gs : List GatT} {ms : List MarT} {room z : Int} (hsc : sceneF R E gs ms = true) (hr : roomOK R room = true) :
  (truthC R E gs ms room z = 0 ∧ truthL R E gs ms room z ∈ allD gs ∧ inS (winF E (farM R.toNat gs (truthL R E gs ms room z) room.toNat) ms) z) ∨ (truthC R E gs ms room z = 91 ∧ truthL R E gs ms room z = [] ∧ ∀ l ∈ allD gs, ¬ inS (winF E (farM R.toNat gs l room.toNat) ms) z) := by
 have hI : (truthI E R.toNat gs room.toNat ms z).isSome = ((allD gs).find? fun l => hasS (winF E (farM R.toNat gs l room.toNat) ms) z).isSome := by
  rw [truthI_eq, List.findIdx?_isSome, List.isSome_find?]
 have hC : truthC R E gs ms room z = if (truthI E R.toNat gs room.toNat ms z).isSome = true then 0 else 91 := by rw [truthC, if_pos hsc, if_pos hr]
 have hL : truthL R E gs ms room z = truthL0 E R.toNat gs room.toNat ms z := by rw [truthL, if_pos ⟨hsc, hr⟩]
 rw [hC, hL, hI, truthL0_eq]
 by_cases h : ((allD gs).find? fun l => hasS (winF E (farM R.toNat gs l room.toNat) ms) z).isSome = true
 ·obtain ⟨h1, h2⟩ := find_mem (d := []) h
  exact .inl ⟨if_pos h, h1, hasS_iff.1 h2⟩
 ·right
  rw [if_neg h]
  rw [Bool.not_eq_true, Option.isSome_eq_false_iff, Option.isNone_iff_eq_none] at h
  rw [h]
  exact ⟨rfl, rfl, fun l hl q => List.find?_eq_none.1 h l hl (hasS_iff.2 q)⟩
theorem find_congr {α : Type} {p q : α → Bool} : ∀ {L : List α}, (∀ x ∈ L, p x = q x) → L.find? p = L.find? q
 | [], _ => rfl
 | x :: L, h => by
  rw [List.find?_cons, List.find?_cons, h x List.mem_cons_self, find_congr fun y hy => h y (List.mem_cons_of_mem _ hy)]
theorem truth_ref {n : Nat} {E z : Int} {gs : List GatT} {ms : List MarT} {room : Nat} (hsc : sceneF n E gs ms = true) (hr : room < n) :
  truthC n E gs ms room z = (if ((allD gs).find? (hitR n E gs room ms z)).isSome = true then 0 else 91) ∧ truthL n E gs ms room z = ((allD gs).find? (hitR n E gs room ms z)).getD [] := by
 obtain ⟨hS, hmk⟩ := sane_of (R := n) rfl hsc
 have hro : roomOK n (room : Int) = true := inF_iff.2 ⟨by omega, by omega⟩
 have hf : (allD gs).find? (fun l => hasS (winF E (farM n gs l room) ms) z) = (allD gs).find? (hitR n E gs room ms z) := find_congr fun l hl => by
  rw [Bool.eq_iff_iff, hasS_iff, (win_at hS hmk hr hl).1 z]
  exact inF_iff.symm
 constructor
 ·rw [truthC, if_pos hsc, if_pos hro, truthI_eq, List.findIdx?_isSome, ← List.isSome_find?, Int.toNat_natCast, Int.toNat_natCast, hf]
 ·rw [truthL, if_pos ⟨hsc, hro⟩, truthL0_eq, Int.toNat_natCast, Int.toNat_natCast, hf]
set_option maxHeartbeats 40000000 in
theorem rTruth_calls (R E : Int) (A B : Option Addr) (c c2 : Nat) (gs : List GatT) (ms : List MarT) (rm minute : Int) (w : World) (hA : RowOf gatV 4 zGat w A gs) (hM : RowOf marV 7 zMar w B ms) :
  Calls Tryd.prog 14 #[.agg (scnV R A gs.length c E B ms.length c2).toArray, .int .i64 rm, .int .i64 minute] w fun e w' => ∃ rr : RowR, e = .returned (.tuple #[valR rr (truthL R E gs ms rm minute).length, .int .i64 (truthC R E gs ms rm minute)]) ∧ RowAt 3 w.heap.size w' rr (truthL R E gs ms rm minute) ∧ Below w.heap.size w w' := by
 refine x_calls (X := XNone) Tryd.func14 rfl rfl rfl ?_
 with_reducible ((repeat apply xc_seq); apply xcR)
 refine xo_box rfl rfl rfl rfl (fun b3 => ?_)
 refine xoA ?_
 refine xoA ?_
 with_reducible (apply xo_nil; (repeat first | apply xqT | apply xqB | apply xqS))
 cases hsc : sceneF R E gs ms
 ·have e1 : truthC R E gs ms rm minute = 90 := by rw [truthC, if_neg (by rw [hsc]; exact Bool.false_ne_true)]
  have e2 : truthL R E gs ms rm minute = [] := by rw [truthL, if_neg (by rw [hsc]; exact fun q => Bool.false_ne_true q.1)]
  with_reducible ((repeat apply xc_seq); apply xcR)
  refine xo_loadN T_ rfl rfl rfl (by repeat first | exact mH | apply mT | apply mA) rfl rfl ?_
  refine xo_callB (fs := []) (cs := []) rfl rfl rfl scene_enters rfl (fun w1 hw1 => scene_calls R E A B c c2 gs ms w1 (hA.below hw1.kx.below) (hM.below hw1.kx.below)) ?_
  refine xo_notOp rfl rfl rfl ?_
  refine xo_as (i := 13) rfl (congrArg (fun b => Value.bool !b) hsc) ?_
  with_reducible (apply xo_nil; (repeat first | apply xqT | apply xqB | apply xqS); (repeat apply xc_seq))
  refine xc_condT rfl ?_
  with_reducible ((repeat apply xc_seq); apply xcR)
  refine xoA ?_
  refine xoA ?_
  with_reducible (apply xo_nil; (repeat first | apply xqT | apply xqB | apply xqS); (repeat apply xc_seq); apply xc_ret; (repeat (first | apply xq_thenR | apply xq_blockR | apply xq_scopeR)))
  exact xq_ret2 rfl rfl rfl fun w' hw => ⟨none, by rw [e1, e2]; rfl, by rw [e2]; exact ⟨fun _ => rfl, fun p hp => by cases hp⟩, hw.kx.below⟩
 with_reducible ((repeat apply xc_seq); apply xcR)
 refine xo_loadN T_ rfl rfl rfl (by repeat first | exact mH | apply mT | apply mA) rfl rfl ?_
 refine xo_callB (fs := []) (cs := []) rfl rfl rfl scene_enters rfl (fun w1 hw1 => scene_calls R E A B c c2 gs ms w1 (hA.below hw1.kx.below) (hM.below hw1.kx.below)) ?_
 refine xo_notOp rfl rfl rfl ?_
 refine xo_as (i := 13) rfl (congrArg (fun b => Value.bool !b) hsc) ?_
 with_reducible (apply xo_nil; (repeat first | apply xqT | apply xqB | apply xqS); (repeat apply xc_seq))
 refine xc_condF rfl ?_
 with_reducible (apply xc_skip; (repeat first | apply xqT | apply xqB | apply xqS))
 obtain ⟨hR6, hE6, hG, hm8, hmk⟩ := sceneF_ok hsc
 cases hrm : inF 0 (R - 1) rm
 ·have hro : roomOK R rm = false := hrm
  have e1 : truthC R E gs ms rm minute = 2 := by rw [truthC, if_pos hsc, if_neg (by rw [hro]; exact Bool.false_ne_true)]
  have e2 : truthL R E gs ms rm minute = [] := by rw [truthL, if_neg (by rw [hro]; exact fun q => Bool.false_ne_true q.2)]
  with_reducible ((repeat apply xc_seq); apply xcR)
  refine xoM ?_
  refine xo_fa T_ rfl rfl rfl rfl rfl ?_
  refine xo_load0 T_ rfl rfl rfl (by repeat first | exact mH | apply mT | apply mA) rfl rfl ?_
  refine xo_sub rfl rfl rfl (by omega) rfl ?_
  refine xo_callB (fs := []) (cs := []) rfl rfl rfl within_enters rfl (fun w1 hw1 => within_calls rm 0 (R - 1) w1) ?_
  refine xo_notOp rfl rfl rfl ?_
  refine xo_as (i := 19) rfl (congrArg (fun b => Value.bool !b) hrm) ?_
  with_reducible (apply xo_nil; (repeat first | apply xqT | apply xqB | apply xqS); (repeat apply xc_seq))
  refine xc_condT rfl ?_
  with_reducible ((repeat apply xc_seq); apply xcR)
  refine xoA ?_
  refine xoA ?_
  with_reducible (apply xo_nil; (repeat first | apply xqT | apply xqB | apply xqS); (repeat apply xc_seq); apply xc_ret; (repeat (first | apply xq_thenR | apply xq_blockR | apply xq_scopeR)))
  exact xq_ret2 rfl rfl rfl fun w' hw => ⟨none, by rw [e1, e2]; rfl, by rw [e2]; exact ⟨fun _ => rfl, fun p hp => by cases hp⟩, hw.kx.below⟩
 with_reducible ((repeat apply xc_seq); apply xcR)
 refine xoM ?_
 refine xo_fa T_ rfl rfl rfl rfl rfl ?_
 refine xo_load0 T_ rfl rfl rfl (by repeat first | exact mH | apply mT | apply mA) rfl rfl ?_
 refine xo_sub rfl rfl rfl (by omega) rfl ?_
 refine xo_callB (fs := []) (cs := []) rfl rfl rfl within_enters rfl (fun w1 hw1 => within_calls rm 0 (R - 1) w1) ?_
 refine xo_notOp rfl rfl rfl ?_
 refine xo_as (i := 19) rfl (congrArg (fun b => Value.bool !b) hrm) ?_
 with_reducible (apply xo_nil; (repeat first | apply xqT | apply xqB | apply xqS); (repeat apply xc_seq))
 refine xc_condF rfl ?_
 with_reducible (apply xc_skip; (repeat first | apply xqT | apply xqB | apply xqS))
 obtain ⟨n, rfl, hn1, hn6⟩ := nat_of hR6
 obtain ⟨room, rfl, hr⟩ := roomOK_nat hn6 hrm
 have hsR := fun w1 (hb : Below w.heap.size w w1) => sceneR_of hsc (hA.below hb) (hM.below hb)
 obtain ⟨hT1, hT2⟩ := truth_ref (z := minute) hsc hr
 rw [hT1, hT2]
 clear hT1 hT2 hmk
 have h256 := two8 hm8
 have hs8 : 2 ^ ms.length - 1 ≤ 256 := by omega
 obtain ⟨hn, hE, hG, hm8, hmk, hA, hM⟩ := sceneR_of hsc hA hM
 have hle : ∀ g ∈ gs, g.f2.f0 ≤ g.f2.f1 := fun g hg => (hG.ok g hg).2.2.2.2.1
 have hAlt := hA.lt gatV_0
 with_reducible ((repeat apply xc_seq); apply xcR)
 refine xo_loadN T_ rfl rfl rfl (by repeat first | exact mH | apply mT | apply mA) rfl rfl ?_
 refine xo_call (fs := []) (cs := []) rfl rfl rfl least_enters rfl (fun w1 hw1 => (least_calls n E A B c ms.length c2 gs w1 (hA.below hw1.kx.below) hG.len).mono ?_)
 rintro e w2 ⟨rd, rfl, hrw, hb⟩
 have h11 := hrw.1
 refine ⟨_, _, rfl, hw1.row hb hrw, ?_⟩
 clear hrw hb hw1
 refine xoA ?_
 with_reducible (apply xo_nil; (repeat first | apply xqT | apply xqB | apply xqS))
 have hll : (leastD gs).length = gs.length := by simp [leastD]
 have hrd : rd = none → gs.length = 0 := fun q => by rw [← hll, h11 q]; rfl
 rw [hll]
 cases hin : inF 0 E minute
 ·have hno : (allD gs).find? (hitR n E gs room ms minute) = none := List.find?_eq_none.2 fun l hl q => by
   have h1 := inF_iff.1 q
   have h2 := winR_in E (dR n gs room l) ms
   have h3 : inF 0 E minute = true := inF_iff.2 ⟨by omega, by omega⟩
   rw [hin] at h3
   cases h3
  with_reducible ((repeat apply xc_seq); apply xcR)
  refine xoM ?_
  refine xo_fa T_ rfl rfl rfl rfl rfl ?_
  refine xo_load0 T_ rfl rfl rfl (by repeat first | exact mH | apply mT | apply mA) rfl rfl ?_
  refine xo_callB (fs := []) (cs := []) rfl rfl rfl within_enters rfl (fun w1 hw1 => within_calls minute 0 E w1) ?_
  refine xoA ?_
  with_reducible (apply xo_nil; (repeat first | apply xqT | apply xqB | apply xqS))
  refine xc_slots [(9, .bool false)] ⟨congrArg (fun b => some (Value.bool b)) hin, trivial⟩ ?_
  with_reducible ((repeat apply xc_seq); apply xc_block)
  refine xc_loop (γ := Unit) (fun _ => True) (fun _ => [(9, .bool false)]) (fun _ => []) (fun _ => 0) () trivial ⟨rfl, trivial⟩ (List.nil_sublist _) ?_
  rintro _ -
  with_reducible ((repeat apply xc_seq); apply xcR)
  refine xoM ?_
  with_reducible (apply xo_nil; (repeat first | apply xqT | apply xqB | apply xqS); (repeat apply xc_seq))
  refine xc_condF rfl ?_
  with_reducible (apply xc_exit; (repeat (first | apply xq_blockX | apply xq_thenE | refine xq_blockE rfl ?_ | apply xq_scopeE)); (repeat first | apply xqT | apply xqB | apply xqS); (repeat apply xc_seq); apply xcR)
  refine xoA ?_
  refine xoA ?_
  with_reducible (apply xo_nil; (repeat first | apply xqT | apply xqB | apply xqS); (repeat apply xc_seq); apply xc_ret; (repeat (first | apply xq_thenR | apply xq_blockR | apply xq_scopeR)))
  exact xq_ret2 rfl rfl rfl fun w' hw => ⟨none, by rw [hno]; rfl, by rw [hno]; exact ⟨fun _ => rfl, fun p hp => by cases hp⟩, hw.kx.below⟩
 with_reducible ((repeat apply xc_seq); apply xcR)
 refine xoM ?_
 refine xo_fa T_ rfl rfl rfl rfl rfl ?_
 refine xo_load0 T_ rfl rfl rfl (by repeat first | exact mH | apply mT | apply mA) rfl rfl ?_
 refine xo_callB (fs := []) (cs := []) rfl rfl rfl within_enters rfl (fun w1 hw1 => within_calls minute 0 E w1) ?_
 refine xoA ?_
 with_reducible (apply xo_nil; (repeat first | apply xqT | apply xqB | apply xqS))
 refine xc_slots [(1, .int .i64 (room : Int)), (2, .int .i64 minute), (3, .pointer (some ⟨b3, 0, none⟩)), (8, .slice (valA rd) gs.length (valC rd)), (9, .bool true)] ⟨rfl, rfl, rfl, congrArg some (valR_eq hrd), congrArg (fun b => some (Value.bool b)) hin, trivial⟩ ?_
 with_reducible ((repeat apply xc_seq); apply xc_block)
 refine xc_loop (γ := Option (List Int)) (fun q => (∀ l, q = some l → okD gs l) ∧ (allD gs).find? (hitR n E gs room ms minute) = (restD gs q).find? (hitR n E gs room ms minute)) (fun q => [(1, .int .i64 (room : Int)), (2, .int .i64 minute), (3, .pointer (some ⟨b3, 0, none⟩)), (8, .slice (valA rd) gs.length (valC rd)), (9, .bool q.isSome)])
  (fun q => hpR 3 1 rd gs.length ((rowN gs q).map (.int .i64)) ++ [(b3, true, cel (scnV n A gs.length c E B ms.length c2) 25)]) (fun q => (restD gs q).length) (some (leastD gs)) ⟨fun l e => by cases e; exact least_ok hle, by rw [restD, tailD_least hle]⟩ ⟨rfl, rfl, rfl, rfl, rfl, trivial⟩ (List.Sublist.refl _) ?_
 rintro (_ | now) ⟨hq, hall⟩
 ·with_reducible repeat apply xc_seq
  with_reducible apply xcR
  refine xoM ?_
  with_reducible (apply xo_nil; (repeat first | apply xqT | apply xqB | apply xqS); (repeat apply xc_seq))
  refine xc_condF rfl ?_
  with_reducible (apply xc_exit; (repeat (first | apply xq_blockX | apply xq_thenE | refine xq_blockE rfl ?_ | apply xq_scopeE)); (repeat first | apply xqT | apply xqB | apply xqS); (repeat apply xc_seq); apply xcR)
  refine xoA ?_
  refine xoA ?_
  with_reducible (apply xo_nil; (repeat first | apply xqT | apply xqB | apply xqS); (repeat apply xc_seq); apply xc_ret; (repeat (first | apply xq_thenR | apply xq_blockR | apply xq_scopeR)))
  exact xq_ret2 rfl rfl rfl fun w' hw => ⟨none, by rw [hall]; rfl, by rw [hall]; exact ⟨fun _ => rfl, fun p hp => by cases hp⟩, hw.kx.below⟩
 have hok := hq now rfl
 have hnl := okD_len hok
 have hdd : InN (dR n gs room now) := (InN.start room).rounds (okD_pos hok fun g hg => (hG.ok g hg).2.2.2.1) n
 have hstep : (allD gs).find? (hitR n E gs room ms minute) = if hitR n E gs room ms minute now = true then some now else (restD gs (nextD gs now)).find? (hitR n E gs room ms minute) := by
  rw [hall]
  show (tailD gs now).find? _ = _
  rw [tail_next hle hok, List.find?_cons]
  cases hitR n E gs room ms minute now <;> rfl
 have hlen : (restD gs (nextD gs now)).length < (restD gs (some now)).length := by
  rw [show restD gs (some now) = tailD gs now from rfl, tail_next hle hok, List.length_cons]
  omega
 have hnok := next_okD hle hok
 have hhit : hitR n E gs room ms minute now = inF (winR E (dR n gs room now) (setOf ms (2 ^ ms.length - 1))).f0 (winR E (dR n gs room now) (setOf ms (2 ^ ms.length - 1))).f1 minute := by rw [setOf_all]; rfl
 clear hq hall
 with_reducible ((repeat apply xc_seq); apply xcR)
 refine xoM ?_
 with_reducible (apply xo_nil; (repeat first | apply xqT | apply xqB | apply xqS); (repeat apply xc_seq))
 refine xc_condT rfl ?_
 with_reducible (apply xc_skip; (repeat first | apply xqT | apply xqB | apply xqS); (repeat apply xc_seq); apply xc_block)
 show XC _ _ _ _ _ _ _ _ _ (hpR 3 1 rd gs.length (now.map (.int .i64)) ++ [(b3, true, cel (scnV n A gs.length c E B ms.length c2) 25)]) _
 have hints : ∀ w1, BlIn (hpR 3 1 rd gs.length (now.map (.int .i64)) ++ [(b3, true, cel (scnV n A gs.length c E B ms.length c2) 25)]) w1 → IntsAt w1 (valA rd) now := fun w1 h => intsAt_hp h hnl hrd
 have hb3 : (b3, true, cel (scnV n A gs.length c E B ms.length c2) 25) ∈ hpR 3 1 rd gs.length (now.map (.int .i64)) ++ [(b3, true, cel (scnV n A gs.length c E B ms.length c2) 25)] := List.mem_append_right _ (List.Mem.head _)
 generalize hη : hpR 3 1 rd gs.length (now.map (.int .i64)) ++ [(b3, true, cel (scnV n A gs.length c E B ms.length c2) 25)] = η1 at hints hb3 ⊢
 refine xc_slots [(1, .int .i64 (room : Int)), (2, .int .i64 minute), (3, .pointer (some ⟨b3, 0, none⟩)), (8, .slice (valA rd) gs.length (valC rd))] ⟨rfl, rfl, rfl, rfl, trivial⟩ ?_
 with_reducible (repeat apply xc_seq)
 refine xc_drawG (fun g : FG => [.agg (scnV n A gs.length c E B ms.length c2).toArray, .agg (scnV n A gs.length c E B ms.length c2).toArray, .int .i64 ((2 ^ ms.length - 1 : Nat) : Int), .agg (scnV n A gs.length c E B ms.length c2).toArray, .slice (valA rd) gs.length (valC rd), .int .i64 (room : Int), .slice (some ⟨g.r, 0, none⟩) n n, .agg (spaV (winR E (dR n gs room now) (setOf ms (2 ^ ms.length - 1)))).toArray, .pointer (some ⟨g.c, 0, none⟩), undef]) (hF (spaV (winR E (dR n gs room now) (setOf ms (2 ^ ms.length - 1)))) (rowD n (dR n gs room now)) η1) (okF 6 8 9) .f0 ?_ rfl (fun g => rfl) T_.mixed rfl rfl rfl rfl ?_ ?_
 ·simp [okF]
 ·apply DrawG.pure (fun L g h => by cases g <;> simpa [okF] using h)
  ·intro L g hg hi hd τ
   cases g
   all_goals first
    | exact absurd (hg 0 (by decide)) hi
    | (refine ⟨_, rfl, ?_⟩; refine xo_loadN T_ (cs := scnV n A gs.length c E B ms.length c2) rfl rfl rfl (by first | exact hb3 | exact List.mem_cons_of_mem _ hb3 | exact List.mem_cons_of_mem _ (List.mem_cons_of_mem _ hb3)) rfl rfl ?_; exact xo_fin rfl)
  apply DrawG.pure (fun L g h => by cases g <;> simpa [okF] using h)
  ·intro L g hg hi hd τ
   cases g
   all_goals first
    | exact absurd (hg 1 (by decide)) hi
    | (refine ⟨_, rfl, ?_⟩; refine xo_loadN T_ (cs := scnV n A gs.length c E B ms.length c2) rfl rfl rfl (by first | exact hb3 | exact List.mem_cons_of_mem _ hb3 | exact List.mem_cons_of_mem _ (List.mem_cons_of_mem _ hb3)) rfl rfl ?_; exact xo_fin rfl)
  apply DrawG.pure (fun L g h => by cases g <;> simpa [okF] using h)
  ·intro L g hg hi hd τ
   cases g
   all_goals first
    | exact absurd (hg 2 (by decide)) hi
    | (refine ⟨_, rfl, ?_⟩; refine xo_callB (fs := []) (cs := []) rfl rfl rfl every_enters rfl (fun w1 hw1 => every_calls n E A B gs.length c c2 ms w1 hm8) ?_; exact xo_fin rfl)
  apply DrawG.pure (fun L g h => by cases g <;> simpa [okF] using h)
  ·intro L g hg hi hd τ
   cases g
   all_goals first
    | exact absurd (hg 3 (by decide)) hi
    | (refine ⟨_, rfl, ?_⟩; refine xo_loadN T_ (cs := scnV n A gs.length c E B ms.length c2) rfl rfl rfl (by first | exact hb3 | exact List.mem_cons_of_mem _ hb3 | exact List.mem_cons_of_mem _ (List.mem_cons_of_mem _ hb3)) rfl rfl ?_; exact xo_fin rfl)
  apply DrawG.pure (fun L g h => by cases g <;> simpa [okF] using h)
  ·intro L g hg hi hd τ
   cases g
   all_goals first
    | exact absurd (hg 4 (by decide)) hi
    | (refine ⟨_, rfl, ?_⟩; refine xoM ?_; exact xo_fin rfl)
  apply DrawG.pure (fun L g h => by cases g <;> simpa [okF] using h)
  ·intro L g hg hi hd τ
   cases g
   all_goals first
    | exact absurd (hg 5 (by decide)) hi
    | (refine ⟨_, rfl, ?_⟩; refine xoM ?_; exact xo_fin rfl)
  apply DrawG.cons
  ·intro L g hg hi hd τ
   have hdn : True := trivial
   rcases g with _ | r9 | c9 | ⟨r9, c9⟩ | ⟨r9, c9⟩
   ·refine xo_call (fs := []) (cs := []) rfl rfl rfl far_enters rfl (fun w1 hw1 => (far_callsG n E A B (valA rd) c ms.length c2 (valC rd) gs now room w1 hn hG hok (hA.below hw1.kx.below) (hints w1 (hw1.bl_of fun e he => he)) hr).mono ?_)
    rintro e w2 ⟨b9, rfl, hz⟩
    refine ⟨_, _, rfl, hw1.join hz (fun e he => by rw [List.mem_singleton.1 he]), ?_⟩
    clear hz hw1
    exact xo_nil fun a w1 ha hw1 => ⟨.fr b9, ⟨List.mem_cons_self, by simpa using hg.2.1, by simpa using hg.2.2⟩, (fun k hk => by rcases k with _ | _ | _ | _ | _ | _ | _ | _ | _ | _ | k <;> first | rfl | exact absurd hk hg.1), ⟨_, rfl, ha⟩, hw1⟩
   ·exact absurd hg.1 hi
   ·refine xo_call (fs := []) (cs := []) rfl rfl rfl far_enters rfl (fun w1 hw1 => (far_callsG n E A B (valA rd) c ms.length c2 (valC rd) gs now room w1 hn hG hok (hA.below hw1.kx.below) (hints w1 (hw1.bl_of fun e he => List.mem_cons_of_mem _ he)) hr).mono ?_)
    rintro e w2 ⟨b9, rfl, hz⟩
    refine ⟨_, _, rfl, hw1.join hz (fun e he => by rw [List.mem_singleton.1 he]), ?_⟩
    clear hz hw1
    exact xo_nil fun a w1 ha hw1 => ⟨.fb b9 c9, ⟨List.mem_cons_self, List.mem_cons_of_mem _ hg.2.1, by simpa using hg.2.2⟩, (fun k hk => by rcases k with _ | _ | _ | _ | _ | _ | _ | _ | _ | _ | k <;> first | rfl | exact absurd hk hg.1), ⟨_, rfl, ha⟩, hw1.perm (List.Perm.swap _ _ _)⟩
   ·exact absurd hg.1 hi
   ·exact absurd hg.1 hi
  apply DrawG.cons
  ·intro L g hg hi hd τ
   rcases g with _ | r9 | c9 | ⟨r9, c9⟩ | ⟨r9, c9⟩
   ·exact absurd (hd 6 (by decide)) hg.1
   ·refine xo_callB (fs := []) (cs := []) rfl rfl rfl both_enters rfl (fun w1 hw1 => both_calls n E A B (some ⟨r9, 0, none⟩) gs.length c c2 n (dR n gs room now) ms (2 ^ ms.length - 1) w1 hn hE hm8 hmk (hM.below hw1.kx.below) hs8 hdd (intsD_cel (hw1.bl_of (fun e he => by rw [List.mem_singleton.1 he]; exact List.Mem.head _)))) ?_
    exact xo_nil fun a w1 ha hw1 => ⟨.fr r9, by simpa [okF] using hg, fun _ _ => rfl, ⟨_, rfl, ha⟩, hw1⟩
   ·exact absurd (hd 6 (by decide)) hg.1
   ·refine xo_callB (fs := []) (cs := []) rfl rfl rfl both_enters rfl (fun w1 hw1 => both_calls n E A B (some ⟨r9, 0, none⟩) gs.length c c2 n (dR n gs room now) ms (2 ^ ms.length - 1) w1 hn hE hm8 hmk (hM.below hw1.kx.below) hs8 hdd (intsD_cel (hw1.bl_of (fun e he => by rw [List.mem_singleton.1 he]; exact List.Mem.tail _ (List.Mem.head _))))) ?_
    exact xo_nil fun a w1 ha hw1 => ⟨.fb r9 c9, by simpa [okF] using hg, fun _ _ => rfl, ⟨_, rfl, ha⟩, hw1⟩
   ·refine xo_callB (fs := []) (cs := []) rfl rfl rfl both_enters rfl (fun w1 hw1 => both_calls n E A B (some ⟨r9, 0, none⟩) gs.length c c2 n (dR n gs room now) ms (2 ^ ms.length - 1) w1 hn hE hm8 hmk (hM.below hw1.kx.below) hs8 hdd (intsD_cel (hw1.bl_of (fun e he => by rw [List.mem_singleton.1 he]; exact List.Mem.tail _ (List.Mem.head _))))) ?_
    exact xo_nil fun a w1 ha hw1 => ⟨.fs r9 c9, by simpa [okF] using hg, fun _ _ => rfl, ⟨_, rfl, ha⟩, hw1⟩
  apply DrawG.cons
  ·intro L g hg hi hd τ
   rcases g with _ | r9 | c9 | ⟨r9, c9⟩ | ⟨r9, c9⟩
   ·refine xo_alloc T_ rfl rfl rfl rfl (fun b9 => ?_)
    exact xo_nil fun a w1 ha hw1 => ⟨.fc b9, ⟨by simpa using hg.1, List.mem_cons_self, by simpa using hg.2.2⟩, (fun k hk => by rcases k with _ | _ | _ | _ | _ | _ | _ | _ | _ | _ | k <;> first | rfl | exact absurd hk hg.2.1), ⟨_, rfl, ha⟩, hw1⟩
   ·refine xo_alloc T_ rfl rfl rfl rfl (fun b9 => ?_)
    exact xo_nil fun a w1 ha hw1 => ⟨.fb r9 b9, ⟨List.mem_cons_of_mem _ hg.1, List.mem_cons_self, by simpa using hg.2.2⟩, (fun k hk => by rcases k with _ | _ | _ | _ | _ | _ | _ | _ | _ | _ | k <;> first | rfl | exact absurd hk hg.2.1), ⟨_, rfl, ha⟩, hw1⟩
   ·exact absurd hg.2.1 hi
   ·exact absurd hg.2.1 hi
   ·exact absurd hg.2.1 hi
  apply DrawG.cons
  ·intro L g hg hi hd τ
   rcases g with _ | r9 | c9 | ⟨r9, c9⟩ | ⟨r9, c9⟩
   ·exact absurd (hd 6 (by decide)) hg.1
   ·exact absurd (hd 8 (by decide)) hg.2.1
   ·exact absurd (hd 6 (by decide)) hg.1
   ·refine xo_store T_ (cs := [.int .i64 0, .int .i64 0]) (cs' := spaV (winR E (dR n gs room now) (setOf ms (2 ^ ms.length - 1)))) (vs := spaV (winR E (dR n gs room now) (setOf ms (2 ^ ms.length - 1)))) rfl rfl rfl rfl (List.Mem.head _) rfl rfl rfl rfl Upd.head rfl ?_
    exact xo_nil fun a w1 ha hw1 => ⟨.fs r9 c9, ⟨List.mem_cons_of_mem _ hg.1, List.mem_cons_of_mem _ hg.2.1, List.mem_cons_self⟩, fun _ _ => rfl, ⟨_, rfl, ha⟩, hw1⟩
   ·exact absurd hg.2.2 hi
  exact DrawG.nil
 intro L g hg hall
 obtain ⟨r9, c9, rfl⟩ : ∃ r c, g = .fs r c := by
  have h9 := hall 9 (by decide)
  rcases g with _ | r9 | c9 | ⟨r9, c9⟩ | ⟨r9, c9⟩
  ·exact absurd h9 hg.2.2
  ·exact absurd h9 hg.2.2
  ·exact absurd h9 hg.2.2
  ·exact absurd h9 hg.2.2
  ·exact ⟨r9, c9, rfl⟩
 with_reducible (repeat first | apply xqT | apply xqB | apply xqS)
 refine xc_slots [(1, .int .i64 (room : Int)), (2, .int .i64 minute), (3, .pointer (some ⟨b3, 0, none⟩)), (8, .slice (valA rd) gs.length (valC rd)), (10, .pointer (some ⟨c9, 0, none⟩))] ⟨rfl, rfl, rfl, rfl, rfl, trivial⟩ ?_
 rw [hhit] at hstep
 cases hh : inF (winR E (dR n gs room now) (setOf ms (2 ^ ms.length - 1))).f0 (winR E (dR n gs room now) (setOf ms (2 ^ ms.length - 1))).f1 minute
 ·rw [hh, if_neg Bool.false_ne_true] at hstep
  with_reducible ((repeat apply xc_seq); apply xcR)
  refine xoM ?_
  refine xo_fa T_ rfl rfl rfl rfl rfl ?_
  refine xo_load0 T_ (cs := spaV (winR E (dR n gs room now) (setOf ms (2 ^ ms.length - 1)))) rfl rfl rfl (List.Mem.head _) rfl rfl ?_
  refine xo_fa T_ rfl rfl rfl rfl rfl ?_
  refine xo_load0 T_ (cs := spaV (winR E (dR n gs room now) (setOf ms (2 ^ ms.length - 1)))) rfl rfl rfl (List.Mem.head _) rfl rfl ?_
  refine xo_callB (fs := []) (cs := []) rfl rfl rfl within_enters rfl (fun w1 hw1 => within_calls minute (winR E (dR n gs room now) (setOf ms (2 ^ ms.length - 1))).f0 (winR E (dR n gs room now) (setOf ms (2 ^ ms.length - 1))).f1 w1) ?_
  refine xo_as (i := 43) rfl (congrArg Value.bool hh) ?_
  with_reducible (apply xo_nil; (repeat first | apply xqT | apply xqB | apply xqS); (repeat apply xc_seq))
  refine xc_condF rfl ?_
  with_reducible (apply xc_skip; (repeat first | apply xqT | apply xqB | apply xqS))
  subst hη
  with_reducible ((repeat apply xc_seq); apply xcR)
  refine xo_loadN T_ (cs := scnV n A gs.length c E B ms.length c2) rfl rfl rfl (List.mem_cons_of_mem _ (List.mem_cons_of_mem _ hb3)) rfl rfl ?_
  refine xoM ?_
  refine xo_call (fs := []) (cs := []) rfl rfl rfl next_enters rfl (fun w1 hw1 => (next_row n E A B c ms.length c2 gs rd now (w0 := w) hG (hA.below hw1.kx.below) hAlt hok hrd (hw1.sub (List.Sublist.cons _ (List.sublist_cons_self _ _)))).mono ?_)
  rintro e w2 ⟨rfl, hz⟩
  refine ⟨_, _, rfl, hz, ?_⟩
  clear hz hw1
  refine xoA ?_
  with_reducible (apply xo_nil; (repeat first | apply xqT | apply xqB | apply xqS))
  exact xq_again _ _ _ _ _ (nextD gs now) ⟨hnok, hstep⟩ hlen ⟨rfl, rfl, rfl, rfl, rfl, trivial⟩ (List.Sublist.refl _)
 ·rw [hh, if_pos rfl] at hstep
  with_reducible ((repeat apply xc_seq); apply xcR)
  refine xoM ?_
  refine xo_fa T_ rfl rfl rfl rfl rfl ?_
  refine xo_load0 T_ (cs := spaV (winR E (dR n gs room now) (setOf ms (2 ^ ms.length - 1)))) rfl rfl rfl (List.Mem.head _) rfl rfl ?_
  refine xo_fa T_ rfl rfl rfl rfl rfl ?_
  refine xo_load0 T_ (cs := spaV (winR E (dR n gs room now) (setOf ms (2 ^ ms.length - 1)))) rfl rfl rfl (List.Mem.head _) rfl rfl ?_
  refine xo_callB (fs := []) (cs := []) rfl rfl rfl within_enters rfl (fun w1 hw1 => within_calls minute (winR E (dR n gs room now) (setOf ms (2 ^ ms.length - 1))).f0 (winR E (dR n gs room now) (setOf ms (2 ^ ms.length - 1))).f1 w1) ?_
  refine xo_as (i := 43) rfl (congrArg Value.bool hh) ?_
  with_reducible (apply xo_nil; (repeat first | apply xqT | apply xqB | apply xqS); (repeat apply xc_seq))
  refine xc_condT rfl ?_
  with_reducible ((repeat apply xc_seq); apply xcR)
  refine xoM ?_
  refine xoA ?_
  refine xoA ?_
  with_reducible (apply xo_nil; (repeat first | apply xqT | apply xqB | apply xqS); (repeat apply xc_seq); apply xc_ret; (repeat (first | apply xq_thenR | apply xq_blockR | apply xq_scopeR)))
  subst hη
  rw [hstep]
  refine xq_sub (η' := hpR 3 1 rd gs.length (now.map (.int .i64)) ++ [(b3, true, cel (scnV n A gs.length c E B ms.length c2) 25)]) ((List.sublist_cons_self _ _).trans (List.sublist_cons_self _ _)) (xq_ret2 rfl rfl rfl fun w' hw => ⟨rd, ?_, RowAt.of (by rw [show (some now).getD [] = now from rfl, hnl]; exact hw) (fun q => List.eq_nil_of_length_eq_zero (by rw [show (some now).getD [] = now from rfl, hnl]; exact hrd q)), hw.kx.below⟩)
  rw [show (some now).getD [] = now from rfl, hnl, valR_eq hrd]
  rfl
theorem rTruth_enters : ∀ args w, (callFunc 14 args).run Tryd.prog w = .ok (.enter 14 args) w := enters_of Tryd.func14 (by kernel_rfl) rfl
theorem u8_of {n : Int} (h : (Lit.int .u8 n).wf = true) : 0 ≤ n ∧ n ≤ 255 := by
 simp only [Lit.wf, Bool.and_eq_true, decide_eq_true_eq] at h
 exact h
theorem gates_C {w : World} {b cap : Nat} {gs : List GatT} (hl : gs.length ≤ 1000000) (h : BlIn [(b, true, orow 57 4 gs.length cap (gatL gs))] w) : Kd.C gatK w (some ⟨b, 0, none⟩) gs.length gs := by
 obtain ⟨o, h1, h2⟩ := h _ List.mem_cons_self
 refine C_row (d := gatK) (cells := gs.map gatV) (cap := cap) h1 (e := 57) (by rw [List.length_map]; exact h2) (by simp) (by intro c hc; obtain ⟨x, _, rfl⟩ := List.mem_map.1 hc; rfl) (fun j x c hx hcx => ?_) (by omega)
 rw [List.getElem?_map, hx] at hcx
 obtain rfl := Option.some.inj hcx
 exact k57_mk w x
theorem marks_C {w : World} {b cap : Nat} {ms : List MarT} (hl : ms.length ≤ 1000000) (h : BlIn [(b, true, orow 60 7 ms.length cap (marL ms))] w) : Kd.C marK w (some ⟨b, 0, none⟩) ms.length ms := by
 obtain ⟨o, h1, h2⟩ := h _ List.mem_cons_self
 refine C_row (d := marK) (cells := ms.map marV) (cap := cap) h1 (e := 60) (by rw [List.length_map]; exact h2) (by simp) (by intro c hc; obtain ⟨x, _, rfl⟩ := List.mem_map.1 hc; rfl) (fun j x c hx hcx => ?_) (by omega)
 rw [List.getElem?_map, hx] at hcx
 obtain rfl := Option.some.inj hcx
 exact k60_mk w x
theorem C_none {α : Type} {d : Kd α} {w : World} {A : Option Addr} {xs : List α} (h : Kd.C d w A xs.length xs) (e : A = none) : xs.length = 0 := by
 subst e
 by_cases h0 : xs.length = 0
 ·exact h0
 ·obtain ⟨ad, e, _⟩ := h.2.2 (by omega)
  cases e
theorem add_two (p : Addr) (a b : Nat) : (p.add a).add b = p.add (a + b) := by
 cases p; by_cases h1 : a = 0 <;> by_cases h2 : b = 0 <;> simp [Addr.add, h1, h2, Nat.add_assoc]
section
variable {P : Program} {ro : Option Nat} {n N : Nat} {ds : List Deferred} {w0 : World} {X : Nat → Prop} {Q : Exit → Act → World → Prop} {σ : Slots} {η : Hp} {ops rest : List Oper} {d : Option Tmp} {ty : TypeId} {pos : String} {aft : Array Edge} {g : Option (Nat × Bool)} {x y : Operand} {t t' : TypeId}
theorem WOK.asRow {b : Nat} {wr : Bool} {cs : List Value} {t : TypeId} {η0 : Hp} {w : World} (sz n : Nat) (hn : cs.length = n * sz) (hm : n ≤ maxLen) (h : WOK w0 X ((b, wr, cel cs t) :: η0) w) : WOK w0 X ((b, wr, orow t sz n n cs) :: η0) w := by
 refine ⟨h.kx, fun e he => ?_, h.nd, fun e he hw => ?_⟩
 ·rcases List.mem_cons.1 he with rfl | he
  ·obtain ⟨o, h1, h2⟩ := h.bl _ List.mem_cons_self
   exact ⟨o, h1, cel_row hn hm h2⟩
  ·exact h.bl _ (List.mem_cons_of_mem _ he)
 ·rcases List.mem_cons.1 he with rfl | he
  ·exact h.ow (b, wr, cel cs t) List.mem_cons_self hw
  ·exact h.ow _ (List.mem_cons_of_mem _ he) hw
end
theorem own_scene {w0 : World} {X : Nat → Prop} {η : Hp} {w1 : World} (hw1 : WOK w0 X η w1) {bg kg bm km : Nat} {gs : List GatT} {ms : List MarT} (hg : gs.length ≤ 1000000) (hm : ms.length ≤ 1000000) (hk : BytesK ms) (hglob : GlobO w1)
  (m1 : (bg, true, orow 57 4 gs.length kg (gatL gs)) ∈ η) (m2 : (bm, true, orow 60 7 ms.length km (marL ms)) ∈ η) : SceneAt w1 (some ⟨bg, 0, none⟩) (some ⟨bm, 0, none⟩) gs ms :=
 ⟨gates_C hg (hw1.bl_of fun e he => by rw [List.mem_singleton.1 he]; exact m1), marks_C hm (hw1.bl_of fun e he => by rw [List.mem_singleton.1 he]; exact m2), hk, hglob⟩
theorem spansAt_row {w : World} {r : RowR} {xs : List SpaT} (h : BlIn (hpR 55 2 r xs.length (spaL xs)) w) (h0 : r = none → xs.length = 0) : SpansAt w (valA r) xs := by
 intro k hk
 cases r with
 | none => have := h0 rfl; omega
 | some p =>
  obtain ⟨o, h1, cur, rfl, h2, h3, h4, h5⟩ := h (p.1, true, orow 55 2 xs.length p.2 (spaL xs)) (List.Mem.head _)
  refine ⟨⟨p.1, 0, none⟩, rfl, ro_of fun j v hj => ?_⟩
  have hj2 : j < 2 := (List.getElem?_eq_some_iff.1 hj).1
  rw [add_two, Addr.add_lit]
  rw [show szN 2 = 2 from rfl, show (0 + (((k : Nat) : Int).toNat * 2 + j)) = k * 2 + j by omega]
  rw [cell_of_row w _ _ _ _ _ h1]
  rw [← spaL_at xs k hk j hj2, ← h5, List.getElem?_take_of_lt (by omega), Array.getElem?_toList] at hj
  exact hj
theorem spans_few9 (l : List Int) : (spansOf l).length ≤ l.length := by
 have key : ∀ (l : List Int) (acc : List SpaT), (l.foldl grpS acc).length ≤ acc.length + l.length := by
  intro l
  induction l with
  | nil => intro acc; simp
  | cons x l ih =>
   intro acc
   have h1 := ih (grpS acc x)
   have h2 := grpS_len acc x
   simp only [List.foldl_cons, List.length_cons]
   omega
 simpa [spansOf] using key l []
theorem minutes_few9 {R E : Int} {gs : List GatT} {ms : List MarT} {room : Int} : (minutesL R E gs ms room).length ≤ 1000000 := by
 rw [minutesL]
 split
 ·rename_i h
  have hsc : sceneF R E gs ms = true := by
   by_cases q : sceneF R E gs ms = true
   ·exact q
   ·rw [minutesC, if_neg q] at h; cases h
  have hE := (sceneF_ok hsc).2.1
  have h1 := spans_few9 (intsN (toldL E (beganL E R.toNat gs room.toNat ms)))
  have h2 := toldL_len E (beganL E R.toNat gs room.toNat ms)
  have h3 : (intsN (toldL E (beganL E R.toNat gs room.toNat ms))).length = (toldL E (beganL E R.toNat gs room.toNat ms)).length := by simp [intsN]
  omega
 ·simp
theorem rooms_few9 {R E : Int} {gs : List GatT} {ms : List MarT} : (intsN (roomsR R E gs ms)).length ≤ 1000000 := by
 rw [show (intsN (roomsR R E gs ms)).length = (roomsR R E gs ms).length by simp [intsN], roomsR]
 split
 ·rename_i h
  have hR := (sceneF_ok h).1
  have := roomsN_len E R.toNat gs ms
  omega
 ·simp
theorem truth_few9 {R E : Int} {gs : List GatT} {ms : List MarT} {room z : Int} (hg : gs.length ≤ 10) : (truthL R E gs ms room z).length ≤ 1000000 := by
 by_cases h : sceneF R E gs ms = true ∧ roomOK R room = true
 ·rcases truth_is (z := z) h.1 h.2 with ⟨_, q, _⟩ | ⟨_, q, _⟩
  ·rw [okD_len (allD_ok _ q)]; omega
  ·rw [q]; simp
 ·rw [truthL, if_neg h]; simp
set_option maxHeartbeats 40000000 in
theorem originTells_law (R E : Int) (A B : Option Addr) (c c2 : Nat) (gs : List GatT) (ms : List MarT) (room minute : Int) (w : World) (hA : Kd.C gatK w A gs.length gs) (hB : Kd.C marK w B ms.length ms) (hk : BytesK ms) (hglob : GlobO w) :
  Calls Tryd.prog 3 #[.agg (scnV R A gs.length c E B ms.length c2).toArray, .int .i64 room, .int .i64 minute] w fun e w' => e = .returned (.bool true) ∧ Below w.heap.size w w' := by
 refine x_calls (X := XNone) Tryd.func3 rfl rfl rfl ?_
 with_reducible ((repeat apply xc_seq); apply xcR)
 refine xo_box rfl rfl rfl rfl (fun b3 => ?_)
 refine xoA ?_
 with_reducible (apply xo_nil; (repeat first | apply xqT | apply xqB | apply xqS))
 cases hgr : greatF gs ms
 rotate_left
 ·with_reducible repeat apply xc_seq
  with_reducible apply xcR
  refine xo_loadN T_ rfl rfl rfl (by repeat first | exact mH | apply mT | apply mA) rfl rfl ?_
  refine xo_callB (fs := []) (cs := []) rfl rfl rfl great_enters rfl (fun w1 hw1 => great_calls R E A B c c2 gs ms w1) ?_
  refine xo_as (i := 25) rfl (congrArg Value.bool hgr) ?_
  with_reducible (apply xo_nil; (repeat first | apply xqT | apply xqB | apply xqS); (repeat apply xc_seq))
  refine xc_condT rfl ?_
  with_reducible ((repeat apply xc_seq); apply xcR)
  refine xoA ?_
  with_reducible (apply xo_nil; (repeat first | apply xqT | apply xqB | apply xqS); (repeat apply xc_seq); apply xc_ret; (repeat (first | apply xq_thenR | apply xq_blockR | apply xq_scopeR)))
  exact xq_ret1 rfl rfl fun w' hw => ⟨rfl, hw.kx.below⟩
 have hlen : gs.length ≤ 10 ∧ ms.length ≤ 12 := by
  unfold greatF at hgr
  rw [Bool.or_eq_false_iff, decide_eq_false_iff_not, decide_eq_false_iff_not] at hgr
  omega
 with_reducible ((repeat apply xc_seq); apply xcR)
 refine xo_loadN T_ rfl rfl rfl (by repeat first | exact mH | apply mT | apply mA) rfl rfl ?_
 refine xo_callB (fs := []) (cs := []) rfl rfl rfl great_enters rfl (fun w1 hw1 => great_calls R E A B c c2 gs ms w1) ?_
 refine xo_as (i := 25) rfl (congrArg Value.bool hgr) ?_
 with_reducible (apply xo_nil; (repeat first | apply xqT | apply xqB | apply xqS); (repeat apply xc_seq))
 refine xc_condF rfl ?_
 with_reducible (apply xc_skip; (repeat first | apply xqT | apply xqB | apply xqS))
 have hgr4 := gat_row hA
 have hmr7 := mar_row hB
 with_reducible ((repeat apply xc_seq); apply xcR)
 refine xo_loadN T_ rfl rfl rfl (by repeat first | exact mH | apply mT | apply mA) rfl rfl ?_
 refine xo_call (fs := []) (cs := []) rfl rfl rfl twin_enters rfl (fun w1 hw1 => (twin_calls R E A B c c2 gs ms w1 (hgr4.below hw1.kx.below) (hmr7.below hw1.kx.below) (C_none hA) (C_none hB) (by omega) (by omega)).mono ?_)
 rintro e w2 ⟨bg, kg, bm, km, rfl, hz⟩
 refine ⟨_, _, rfl, hw1.join hz (fun e he => by simp only [List.mem_cons, List.not_mem_nil, or_false] at he; rcases he with rfl | rfl <;> rfl), ?_⟩
 clear hz hw1
 refine xo_alloc T_ rfl rfl rfl rfl (fun b7 => ?_)
 refine xo_store T_ rfl rfl rfl rfl (by repeat first | exact mH | apply mT | apply mA) rfl rfl rfl rfl (by repeat first | exact Upd.head | apply Upd.tail | apply Upd.app) rfl ?_
 with_reducible (apply xo_nil; (repeat first | apply xqT | apply xqB | apply xqS))
 refine xc_sub (η' := [(b7, true, cel (scnV R (some ⟨bg, 0, none⟩) gs.length kg E (some ⟨bm, 0, none⟩) ms.length km) 25), (bm, true, orow 60 7 ms.length km (marL ms)), (bg, true, orow 57 4 gs.length kg (gatL gs)), (b3, true, cel (scnV R A gs.length c E B ms.length c2) 25)]) (List.Sublist.refl _) ?_
 refine xc_slots [(1, .int .i64 room), (2, .int .i64 minute), (3, .pointer (some ⟨b3, 0, none⟩)), (7, .pointer (some ⟨b7, 0, none⟩))] ⟨rfl, rfl, rfl, rfl, trivial⟩ ?_
 refine xc_anew fun w3 hw3 => ?_
 have hs7 : SceneAt w3 (some ⟨bg, 0, none⟩) (some ⟨bm, 0, none⟩) gs ms := own_scene hw3 (by omega) (by omega) hk (hglob.below hw3.kx.below) (by repeat first | exact mH | apply mT | apply mA) (by repeat first | exact mH | apply mT | apply mA)
 have h3 : RO w3 XNone ⟨b3, 0, none⟩ (scnV R A gs.length c E B ms.length c2) := hw3.ro (wr := true) (t := 25) (by repeat first | exact mH | apply mT | apply mA)
 have h7 : RO w3 XNone ⟨b7, 0, none⟩ (scnV R (some ⟨bg, 0, none⟩) gs.length kg E (some ⟨bm, 0, none⟩) ms.length km) := hw3.ro (wr := true) (t := 25) (by repeat first | exact mH | apply mT | apply mA)
 have hbl := hw3.kx.below
 have hgr4 := hgr4.below hbl
 have hmr7 := hmr7.below hbl
 with_reducible ((repeat apply xc_seq); apply xcR)
 refine xo_loadRN T_ rfl rfl rfl h7 rfl rfl ?_
 refine xoM ?_
 refine xo_call (fs := []) (cs := []) rfl rfl rfl Minutes_enters rfl (fun w1 hw1 => (Minutes_calls R E _ _ kg km gs ms room w1 (hs7.below hw1.kx.below)).mono ?_)
 rintro e w2 ⟨r8, rfl, hrw, hb⟩
 have hh8 := hrw.1
 refine ⟨_, _, rfl, hw1.rowZ hb hrw, ?_⟩
 clear hrw hb hw1
 refine xoM ?_
 refine xo_ext rfl rfl rfl rfl ?_
 refine xo_ext rfl rfl rfl rfl ?_
 refine xoA ?_
 refine xoA ?_
 with_reducible (apply xo_nil; (repeat first | apply xqT | apply xqB | apply xqS); (repeat apply xc_seq); apply xcR)
 refine xo_loadRN T_ rfl rfl rfl h3 rfl rfl ?_
 refine xoM ?_
 refine xo_call (fs := []) (cs := []) rfl rfl rfl rminutes_enters rfl (fun w1 hw1 => (rminutes_calls R E A B c c2 gs ms room w1 (hgr4.below hw1.kx.below) (hmr7.below hw1.kx.below)).mono ?_)
 rintro e w2 ⟨r10, rfl, hrw, hb⟩
 have hh10 := hrw.1
 refine ⟨_, _, rfl, hw1.rowZ hb hrw, ?_⟩
 clear hrw hb hw1
 refine xoM ?_
 refine xo_ext rfl rfl rfl rfl ?_
 refine xo_ext rfl rfl rfl rfl ?_
 refine xoA ?_
 refine xoA ?_
 with_reducible (apply xo_nil; (repeat first | apply xqT | apply xqB | apply xqS); (repeat apply xc_seq); apply xcR)
 refine xo_loadRN T_ rfl rfl rfl h7 rfl rfl ?_
 refine xo_call (fs := []) (cs := []) rfl rfl rfl Rooms_enters rfl (fun w1 hw1 => (Rooms_calls R E _ _ kg km gs ms w1 (hs7.below hw1.kx.below)).mono ?_)
 rintro e w2 ⟨r12, rfl, hrw, hb⟩
 have hh12 := hrw.1
 refine ⟨_, _, rfl, hw1.row hb hrw, ?_⟩
 clear hrw hb hw1
 refine xoM ?_
 refine xo_ext rfl rfl rfl rfl ?_
 refine xo_ext rfl rfl rfl rfl ?_
 refine xoA ?_
 refine xoA ?_
 with_reducible (apply xo_nil; (repeat first | apply xqT | apply xqB | apply xqS); (repeat apply xc_seq); apply xcR)
 refine xo_loadRN T_ rfl rfl rfl h3 rfl rfl ?_
 refine xo_call (fs := []) (cs := []) rfl rfl rfl rRooms_enters rfl (fun w1 hw1 => (rRooms_calls R E A B c c2 gs ms w1 (hgr4.below hw1.kx.below) (hmr7.below hw1.kx.below)).mono ?_)
 rintro e w2 ⟨r14, rfl, hrw, hb⟩
 have hh14 := hrw.1
 refine ⟨_, _, rfl, hw1.row hb hrw, ?_⟩
 clear hrw hb hw1
 refine xoM ?_
 refine xo_ext rfl rfl rfl rfl ?_
 refine xo_ext rfl rfl rfl rfl ?_
 refine xoA ?_
 refine xoA ?_
 with_reducible (apply xo_nil; (repeat first | apply xqT | apply xqB | apply xqS); (repeat apply xc_seq); apply xcR)
 refine xo_loadRN T_ rfl rfl rfl h7 rfl rfl ?_
 refine xo_callB (fs := []) (cs := []) rfl rfl rfl Named_enters rfl (fun w1 hw1 => Named_calls R E _ _ kg km gs ms w1 (hs7.below hw1.kx.below)) ?_
 refine xoM ?_
 refine xo_ext rfl rfl rfl rfl ?_
 refine xo_ext rfl rfl rfl rfl ?_
 refine xoA ?_
 refine xoA ?_
 with_reducible (apply xo_nil; (repeat first | apply xqT | apply xqB | apply xqS); (repeat apply xc_seq); apply xcR)
 refine xo_loadRN T_ rfl rfl rfl h3 rfl rfl ?_
 refine xo_callB (fs := []) (cs := []) rfl rfl rfl rNamed_enters rfl (fun w1 hw1 => rNamed_calls R E A B c c2 gs ms w1 (hgr4.below hw1.kx.below) (hmr7.below hw1.kx.below)) ?_
 refine xoM ?_
 refine xo_ext rfl rfl rfl rfl ?_
 refine xo_ext rfl rfl rfl rfl ?_
 refine xoA ?_
 refine xoA ?_
 with_reducible (apply xo_nil; (repeat first | apply xqT | apply xqB | apply xqS); (repeat apply xc_seq); apply xcR)
 refine xo_loadRN T_ rfl rfl rfl h7 rfl rfl ?_
 refine xoM ?_
 refine xoM ?_
 refine xo_call (fs := []) (cs := []) rfl rfl rfl Truth_enters rfl (fun w1 hw1 => (Truth_calls R E _ _ kg km gs ms room minute w1 (hs7.below hw1.kx.below)).mono ?_)
 rintro e w2 ⟨r20, rfl, hrw, hb⟩
 have hh20 := hrw.1
 refine ⟨_, _, rfl, hw1.row hb hrw, ?_⟩
 clear hrw hb hw1
 refine xoM ?_
 refine xo_ext rfl rfl rfl rfl ?_
 refine xo_ext rfl rfl rfl rfl ?_
 refine xoA ?_
 refine xoA ?_
 with_reducible (apply xo_nil; (repeat first | apply xqT | apply xqB | apply xqS); (repeat apply xc_seq); apply xcR)
 refine xo_loadRN T_ rfl rfl rfl h3 rfl rfl ?_
 refine xoM ?_
 refine xoM ?_
 refine xo_call (fs := []) (cs := []) rfl rfl rfl rTruth_enters rfl (fun w1 hw1 => (rTruth_calls R E A B c c2 gs ms room minute w1 (hgr4.below hw1.kx.below) (hmr7.below hw1.kx.below)).mono ?_)
 rintro e w2 ⟨r22, rfl, hrw, hb⟩
 have hh22 := hrw.1
 refine ⟨_, _, rfl, hw1.row hb hrw, ?_⟩
 clear hrw hb hw1
 refine xoM ?_
 refine xo_ext rfl rfl rfl rfl ?_
 refine xo_ext rfl rfl rfl rfl ?_
 refine xoA ?_
 refine xoA ?_
 with_reducible (apply xo_nil; (repeat first | apply xqT | apply xqB | apply xqS))
 have hlr : (roomsR R E gs ms).length = (intsN (roomsR R E gs ms)).length := by simp [intsN]
 rw [hlr]
 have hh8 : r8 = none → (minutesL R E gs ms room).length = 0 := hh8
 have hh10 : r10 = none → (minutesL R E gs ms room).length = 0 := hh10
 have hh12 : r12 = none → (intsN (roomsR R E gs ms)).length = 0 := fun q => by rw [hh12 q]; rfl
 have hh14 : r14 = none → (intsN (roomsR R E gs ms)).length = 0 := fun q => by rw [hh14 q]; rfl
 have hh20 : r20 = none → (truthL R E gs ms room minute).length = 0 := fun q => by rw [hh20 q]; rfl
 have hh22 : r22 = none → (truthL R E gs ms room minute).length = 0 := fun q => by rw [hh22 q]; rfl
 refine xc_slots [(3, .pointer (some ⟨b3, 0, none⟩)), (7, .pointer (some ⟨b7, 0, none⟩)), (8, .slice (valA r8) (minutesL R E gs ms room).length (valC r8)), (9, .int .i64 (minutesC R E gs ms room)), (10, .slice (valA r10) (minutesL R E gs ms room).length (valC r10)), (11, .int .i64 (minutesC R E gs ms room)), (12, .slice (valA r12) (intsN (roomsR R E gs ms)).length (valC r12)), (13, .int .i64 (checkF R E gs ms)), (14, .slice (valA r14) (intsN (roomsR R E gs ms)).length (valC r14)), (15, .int .i64 (checkF R E gs ms)), (16, .int .i64 (namedV R E gs ms)), (17, .int .i64 (namedC R E gs ms)), (18, .int .i64 (namedV R E gs ms)), (19, .int .i64 (namedC R E gs ms)), (20, .slice (valA r20) (truthL R E gs ms room minute).length (valC r20)), (21, .int .i64 (truthC R E gs ms room minute)), (22, .slice (valA r22) (truthL R E gs ms room minute).length (valC r22)), (23, .int .i64 (truthC R E gs ms room minute))] ⟨rfl, rfl, congrArg some (valR_eq hh8), rfl, congrArg some (valR_eq hh10), rfl, congrArg some (valR_eq hh12), rfl, congrArg some (valR_eq hh14), rfl, rfl, rfl, rfl, rfl, congrArg some (valR_eq hh20), rfl, congrArg some (valR_eq hh22), rfl, trivial⟩ ?_
 refine xc_anew fun w4 hw4 => ?_
 have i8 : SpansAt w4 (valA r8) (minutesL R E gs ms room) := spansAt_row (hw4.bl_of (fun e he => by repeat (first | exact he | exact List.mem_append_left _ he | apply List.mem_append_right | apply List.Mem.tail))) hh8
 have i10 : SpansAt w4 (valA r10) (minutesL R E gs ms room) := spansAt_row (hw4.bl_of (fun e he => by repeat (first | exact he | exact List.mem_append_left _ he | apply List.mem_append_right | apply List.Mem.tail))) hh10
 have i12 : IntsAt w4 (valA r12) (intsN (roomsR R E gs ms)) := intsAt_row (hw4.bl_of (fun e he => by repeat (first | exact he | exact List.mem_append_left _ he | apply List.mem_append_right | apply List.Mem.tail))) hh12
 have i14 : IntsAt w4 (valA r14) (intsN (roomsR R E gs ms)) := intsAt_row (hw4.bl_of (fun e he => by repeat (first | exact he | exact List.mem_append_left _ he | apply List.mem_append_right | apply List.Mem.tail))) hh14
 have i20 : IntsAt w4 (valA r20) (truthL R E gs ms room minute) := intsAt_row (hw4.bl_of (fun e he => by repeat (first | exact he | exact List.mem_append_left _ he | apply List.mem_append_right | apply List.Mem.tail))) hh20
 have i22 : IntsAt w4 (valA r22) (truthL R E gs ms room minute) := intsAt_row (hw4.bl_of (fun e he => by repeat (first | exact he | exact List.mem_append_left _ he | apply List.mem_append_right | apply List.Mem.tail))) hh22
 have hb4 := hw4.kx.below
 have hgr4 := hgr4.below hb4
 have hmr7 := hmr7.below hb4
 have hs7 := hs7.below hb4
 have h3 : RO w4 XNone ⟨b3, 0, none⟩ (scnV R A gs.length c E B ms.length c2) := fun j v hj => ⟨hw4.kx.cell (h3 j v hj).1 (fun x => x), fun x => x⟩
 have h7 : RO w4 XNone ⟨b7, 0, none⟩ (scnV R (some ⟨bg, 0, none⟩) gs.length kg E (some ⟨bm, 0, none⟩) ms.length km) := fun j v hj => ⟨hw4.kx.cell (h7 j v hj).1 (fun x => x), fun x => x⟩
 have lM : (minutesL R E gs ms room).length ≤ 1000000 := minutes_few9
 have lR : (intsN (roomsR R E gs ms)).length ≤ 1000000 := rooms_few9
 have lT : (truthL R E gs ms room minute).length ≤ 1000000 := truth_few9 hlen.1
 have e78 : decide (checkF R E gs ms = checkF R E gs ms) = true := decide_eq_true rfl
 have e82 : eqL (minutesL R E gs ms room) (minutesL R E gs ms room) = true := eqL_true rfl
 have e87 : decide (minutesC R E gs ms room = minutesC R E gs ms room) = true := decide_eq_true rfl
 have e92 : decide (intsN (roomsR R E gs ms) = intsN (roomsR R E gs ms)) = true := decide_eq_true rfl
 have e102 : decide (namedV R E gs ms = namedV R E gs ms) = true := decide_eq_true rfl
 have e107 : decide (namedC R E gs ms = namedC R E gs ms) = true := decide_eq_true rfl
 have e112 : decide (truthL R E gs ms room minute = truthL R E gs ms room minute) = true := decide_eq_true rfl
 have e117 : decide (truthC R E gs ms room minute = truthC R E gs ms room minute) = true := decide_eq_true rfl
 have e122 : sceneE R E R E gs gs ms ms = true := eqL_true rfl
 generalize minutesL R E gs ms room = L at i8 i10 lM e82 ⊢
 generalize intsN (roomsR R E gs ms) = Q at i12 i14 lR e92 ⊢
 generalize truthL R E gs ms room minute = D at i20 i22 lT e112 ⊢
 generalize minutesC R E gs ms room = mc at e87 ⊢
 generalize truthC R E gs ms room minute = tc at e117 ⊢
 generalize namedV R E gs ms = nv at e102 ⊢
 generalize namedC R E gs ms = nc at e107 ⊢
 with_reducible (repeat apply xc_seq)
 apply xc_drawN
 ·exact T_.mixed
 ·rfl
 ·rfl
 ·rfl
 ·rfl
 ·apply DrawOps.cons
  ·intro τ
   refine xo_loadRN T_ rfl rfl rfl h7 rfl rfl ?_
   exact xo_fin rfl
  apply DrawOps.cons
  ·intro τ
   refine xo_callB (fs := []) (cs := []) rfl rfl rfl enter_check rfl (fun w1 hw1 => check_calls R E _ _ kg km gs ms w1 (hs7.below hw1.kx.below).gates (hs7.below hw1.kx.below).marks hk) ?_
   exact xo_fin rfl
  apply DrawOps.cons
  ·intro τ
   refine xo_loadRN T_ rfl rfl rfl h3 rfl rfl ?_
   exact xo_fin rfl
  apply DrawOps.cons
  ·intro τ
   refine xo_callB (fs := []) (cs := []) rfl rfl rfl rcheck_enters rfl (fun w1 hw1 => rcheck_calls R E A B c c2 gs ms w1 (hgr4.below hw1.kx.below) (hmr7.below hw1.kx.below)) ?_
   exact xo_fin rfl
  apply DrawOps.cons
  ·intro τ
   refine xo_eql rfl rfl rfl rfl ?_
   first
    | exact xo_fin (congrArg Value.bool e78)
    | exact xo_fin rfl
  apply DrawOps.cons
  ·intro τ
   refine xoM ?_
   exact xo_fin rfl
  apply DrawOps.cons
  ·intro τ
   (first | refine xoN ?_ | refine xoM ?_)
   exact xo_fin rfl
  apply DrawOps.cons
  ·intro τ
   (first | refine xoN ?_ | refine xoM ?_)
   exact xo_fin rfl
  apply DrawOps.cons
  ·intro τ
   (first | refine xoN ?_ | refine xo_callB (fs := []) (cs := []) rfl rfl rfl sameSpans_enters rfl (fun w1 hw1 => sameSpans_calls (valA r8) (valA r10) (valC r8) (valC r10) L L w1 (RowOf.below i8 hw1.kx.below) (RowOf.below i10 hw1.kx.below) lM) ?_)
   first
    | exact xo_fin (congrArg Value.bool e82)
    | exact xo_fin rfl
  apply DrawOps.cons
  ·intro τ
   first | refine xo_pickT rfl rfl rfl rfl ?_ | refine xo_pickF rfl rfl rfl rfl ?_
   exact xo_fin rfl
  apply DrawOps.cons
  ·intro τ
   refine xoM ?_
   exact xo_fin rfl
  apply DrawOps.cons
  ·intro τ
   (first | refine xoN ?_ | refine xoM ?_)
   exact xo_fin rfl
  apply DrawOps.cons
  ·intro τ
   (first | refine xoN ?_ | refine xoM ?_)
   exact xo_fin rfl
  apply DrawOps.cons
  ·intro τ
   (first | refine xoN ?_ | refine xo_eql rfl rfl rfl rfl ?_)
   first
    | exact xo_fin (congrArg Value.bool e87)
    | exact xo_fin rfl
  apply DrawOps.cons
  ·intro τ
   first | refine xo_pickT rfl rfl rfl rfl ?_ | refine xo_pickF rfl rfl rfl rfl ?_
   exact xo_fin rfl
  apply DrawOps.cons
  ·intro τ
   refine xoM ?_
   exact xo_fin rfl
  apply DrawOps.cons
  ·intro τ
   (first | refine xoN ?_ | refine xoM ?_)
   exact xo_fin rfl
  apply DrawOps.cons
  ·intro τ
   (first | refine xoN ?_ | refine xoM ?_)
   exact xo_fin rfl
  apply DrawOps.cons
  ·intro τ
   (first | refine xoN ?_ | refine xo_callB (fs := []) (cs := []) rfl rfl rfl sameInts_enters rfl (fun w1 hw1 => sameInts_calls (valA r12) (valA r14) (valC r12) (valC r14) Q Q w1 (RowOf.below i12 hw1.kx.below) (RowOf.below i14 hw1.kx.below) lR) ?_)
   first
    | exact xo_fin (congrArg Value.bool e92)
    | exact xo_fin rfl
  apply DrawOps.cons
  ·intro τ
   first | refine xo_pickT rfl rfl rfl rfl ?_ | refine xo_pickF rfl rfl rfl rfl ?_
   exact xo_fin rfl
  apply DrawOps.cons
  ·intro τ
   refine xoM ?_
   exact xo_fin rfl
  apply DrawOps.cons
  ·intro τ
   (first | refine xoN ?_ | refine xoM ?_)
   exact xo_fin rfl
  apply DrawOps.cons
  ·intro τ
   (first | refine xoN ?_ | refine xoM ?_)
   exact xo_fin rfl
  apply DrawOps.cons
  ·intro τ
   (first | refine xoN ?_ | refine xo_eql rfl rfl rfl rfl ?_)
   first
    | exact xo_fin (congrArg Value.bool e78)
    | exact xo_fin rfl
  apply DrawOps.cons
  ·intro τ
   first | refine xo_pickT rfl rfl rfl rfl ?_ | refine xo_pickF rfl rfl rfl rfl ?_
   exact xo_fin rfl
  apply DrawOps.cons
  ·intro τ
   refine xoM ?_
   exact xo_fin rfl
  apply DrawOps.cons
  ·intro τ
   (first | refine xoN ?_ | refine xoM ?_)
   exact xo_fin rfl
  apply DrawOps.cons
  ·intro τ
   (first | refine xoN ?_ | refine xoM ?_)
   exact xo_fin rfl
  apply DrawOps.cons
  ·intro τ
   (first | refine xoN ?_ | refine xo_eql rfl rfl rfl rfl ?_)
   first
    | exact xo_fin (congrArg Value.bool e102)
    | exact xo_fin rfl
  apply DrawOps.cons
  ·intro τ
   first | refine xo_pickT rfl rfl rfl rfl ?_ | refine xo_pickF rfl rfl rfl rfl ?_
   exact xo_fin rfl
  apply DrawOps.cons
  ·intro τ
   refine xoM ?_
   exact xo_fin rfl
  apply DrawOps.cons
  ·intro τ
   (first | refine xoN ?_ | refine xoM ?_)
   exact xo_fin rfl
  apply DrawOps.cons
  ·intro τ
   (first | refine xoN ?_ | refine xoM ?_)
   exact xo_fin rfl
  apply DrawOps.cons
  ·intro τ
   (first | refine xoN ?_ | refine xo_eql rfl rfl rfl rfl ?_)
   first
    | exact xo_fin (congrArg Value.bool e107)
    | exact xo_fin rfl
  apply DrawOps.cons
  ·intro τ
   first | refine xo_pickT rfl rfl rfl rfl ?_ | refine xo_pickF rfl rfl rfl rfl ?_
   exact xo_fin rfl
  apply DrawOps.cons
  ·intro τ
   refine xoM ?_
   exact xo_fin rfl
  apply DrawOps.cons
  ·intro τ
   (first | refine xoN ?_ | refine xoM ?_)
   exact xo_fin rfl
  apply DrawOps.cons
  ·intro τ
   (first | refine xoN ?_ | refine xoM ?_)
   exact xo_fin rfl
  apply DrawOps.cons
  ·intro τ
   (first | refine xoN ?_ | refine xo_callB (fs := []) (cs := []) rfl rfl rfl sameInts_enters rfl (fun w1 hw1 => sameInts_calls (valA r20) (valA r22) (valC r20) (valC r22) D D w1 (RowOf.below i20 hw1.kx.below) (RowOf.below i22 hw1.kx.below) lT) ?_)
   first
    | exact xo_fin (congrArg Value.bool e112)
    | exact xo_fin rfl
  apply DrawOps.cons
  ·intro τ
   first | refine xo_pickT rfl rfl rfl rfl ?_ | refine xo_pickF rfl rfl rfl rfl ?_
   exact xo_fin rfl
  apply DrawOps.cons
  ·intro τ
   refine xoM ?_
   exact xo_fin rfl
  apply DrawOps.cons
  ·intro τ
   (first | refine xoN ?_ | refine xoM ?_)
   exact xo_fin rfl
  apply DrawOps.cons
  ·intro τ
   (first | refine xoN ?_ | refine xoM ?_)
   exact xo_fin rfl
  apply DrawOps.cons
  ·intro τ
   (first | refine xoN ?_ | refine xo_eql rfl rfl rfl rfl ?_)
   first
    | exact xo_fin (congrArg Value.bool e117)
    | exact xo_fin rfl
  apply DrawOps.cons
  ·intro τ
   first | refine xo_pickT rfl rfl rfl rfl ?_ | refine xo_pickF rfl rfl rfl rfl ?_
   exact xo_fin rfl
  apply DrawOps.cons
  ·intro τ
   refine xoM ?_
   exact xo_fin rfl
  apply DrawOps.cons
  ·intro τ
   (first | refine xoN ?_ | refine xo_loadRN T_ rfl rfl rfl h7 rfl rfl ?_)
   exact xo_fin rfl
  apply DrawOps.cons
  ·intro τ
   (first | refine xoN ?_ | refine xo_loadRN T_ rfl rfl rfl h3 rfl rfl ?_)
   exact xo_fin rfl
  apply DrawOps.cons
  ·intro τ
   (first | refine xoN ?_ | refine xo_callB (fs := []) (cs := []) rfl rfl rfl same_enters rfl (fun w1 hw1 => same_calls R E R E _ _ A B kg km c c2 gs gs ms ms w1 (gat_row (hs7.below hw1.kx.below).gates) (mar_row (hs7.below hw1.kx.below).marks) (hgr4.below hw1.kx.below) (hmr7.below hw1.kx.below) (by omega) (by omega)) ?_)
   first
    | exact xo_fin (congrArg Value.bool e122)
    | exact xo_fin rfl
  apply DrawOps.cons
  ·intro τ
   first | refine xo_pickT rfl rfl rfl rfl ?_ | refine xo_pickF rfl rfl rfl rfl ?_
   exact xo_fin rfl
  apply DrawOps.cons
  ·intro τ
   refine xoA ?_
   exact xo_fin rfl
  exact DrawOps.nil
 ·rfl
 with_reducible ((repeat first | apply xqT | apply xqB | apply xqS); (repeat apply xc_seq); apply xc_ret; (repeat (first | apply xq_thenR | apply xq_blockR | apply xq_scopeR)))
 exact xq_ret1 rfl rfl fun w' hw => ⟨rfl, below_step hbl (below_step hb4 hw.kx.below)⟩
end Go.Proofs.YtommeljlfkmpjaaDoor
namespace Go.Proofs.YtommeljlfkmpjaaDoor
open Go.ChangeShapes Go.WideShapes Go.RowKit
def laidL : List (String × DataW Unit) := [("cottonpad/origin.nowhere", Rows.laid_cottonpad_origin_nowhere)]
theorem gNow : Tryd.prog.globalNamed "cottonpad/origin.nowhere" = some 0 := by kernel_rfl
theorem tNow : (Tryd.prog.globals[0]?).map (·.type) = some 55 := by kernel_rfl
theorem door_met (os : Os) (args : Array Value) : laidMetH Tryd.prog laidL ((World.doorLaid Tryd.prog 400 os).forCall (fun _ _ => 0) ⟨#[], args, []⟩).memory :=
 laidMetH_of_parts3 (fuel := 8) (laidMet_of_run' 8 (by kernel_rfl) (by kernel_rfl)) (by kernel_rfl) (by kernel_rfl)
theorem trod_pair {P : Program} {H : Type} {enc : TypeId × Value → H} {w : World} {fuel : Nat} {bb : Bool} {t ta tb : TypeId} {f g : Field} {a b : Value} {d : DataW H} {ps : List MemPlace}
  (ht : P.underlying t = some (.struct #[f, g])) (h1 : f.type = ta) (h2 : f.offset = 0) (h3 : g.type = tb) (h4 : g.offset = 1) (hA : P.cellsOf ta = 1) (hB : P.cellsOf tb = 1)
  (h : DataW.trod enc P w 0 (fun _ => true) bb (fuel + 1) t [a, b] = some (d, ps)) :
  ∃ x y, DataW.trod enc P w 0 (fun _ => true) bb fuel ta [a] = some x ∧ DataW.trod enc P w 0 (fun _ => true) bb fuel tb [b] = some y ∧ d = .agg [x.1, y.1] := by
 unfold DataW.trod at h
 rw [ht] at h
 simp only [List.length_cons, List.length_nil] at h
 split at h
 ·simp only [List.mapM_cons, List.mapM_nil, h1, h2, h3, h4, hA, hB, List.drop_zero, List.take_succ_cons, List.take_zero, List.drop_succ_cons, Option.map_eq_some_iff] at h
  obtain ⟨xs, h, e⟩ := h
  cases hx : DataW.trod enc P w 0 (fun _ => true) bb fuel ta [a] with
  | none => simp [hx] at h
  | some x =>
   cases hy : DataW.trod enc P w 0 (fun _ => true) bb fuel tb [b] with
   | none => simp [hx, hy] at h
   | some y =>
    simp [hx, hy] at h
    subst h
    simp at e
    exact ⟨x, y, rfl, rfl, e.1.symm⟩
 ·simp at h
theorem trod_lenS {P : Program} {H : Type} {enc : TypeId × Value → H} {w : World} {fuel : Nat} {bb : Bool} {t : TypeId} {fs : Array Field} {l : List Value} {x : DataW H × List MemPlace}
  (ht : P.underlying t = some (.struct fs)) (h : DataW.trod enc P w 0 (fun _ => true) bb fuel t l = some x) : l.length = P.cellsOf t := by
 cases fuel with
 | zero => simp [DataW.trod] at h
 | succ m =>
  by_cases hl : l.length = P.cellsOf t
  ·exact hl
  ·exfalso
   unfold DataW.trod at h
   rw [ht] at h
   simp [hl] at h
theorem trod_int {P : Program} {H : Type} {enc : TypeId × Value → H} {w : World} {fuel : Nat} {bb : Bool} {t : TypeId} {k : IntKind} {a : Value} {n : Int} {ps : List MemPlace} (hu : P.underlying t = some (.int k))
  (h : DataW.trod enc P w 0 (fun _ => true) bb fuel t [a] = some (.lit (.int .i64 n), ps)) : a = .int .i64 n := by
 cases fuel with
 | zero => simp [DataW.trod] at h
 | succ fuel =>
  unfold DataW.trod at h
  rw [hu] at h
  split at h <;> simp_all
set_option maxRecDepth 100000 in
theorem glob_of_laid {W : World} (h : laidMetH Tryd.prog laidL W) : GlobO W := by
 have h' : laidMet Tryd.prog laidL W := h
 obtain ⟨ps, ⟨g, t, cs, fuel, p, q, hg, ht, hv, hd, _, _⟩, _, _⟩ := h'
 obtain rfl := Option.some.inj (gNow.symm.trans hg)
 obtain rfl := Option.some.inj (tNow.symm.trans ht)
 have hd' : DataW.trod (fun _ => ()) Tryd.prog W 0 (fun _ => true) false fuel 55 cs.toList = some (.agg [.lit (.int .i64 1073741824), .lit (.int .i64 (-1073741824))], p) := hd
 have hlen : cs.toList.length = 2 := (trod_lenS Tryd.underlying55 hd').trans (by kernel_rfl)
 obtain ⟨l⟩ := cs
 match l, hlen with
 | [a, b], _ =>
  cases fuel with
  | zero => simp [DataW.trod] at hd'
  | succ n =>
   obtain ⟨x, y, hx, hy, e⟩ := trod_pair (ta := 3) (tb := 3) Tryd.underlying55 rfl rfl rfl rfl (by kernel_rfl) (by kernel_rfl) hd'
   simp only [DataW.agg.injEq, List.cons.injEq, and_true] at e
   obtain ⟨x1, x2⟩ := x
   obtain ⟨y1, y2⟩ := y
   simp only at e
   obtain ⟨rfl, rfl⟩ := e
   obtain rfl := trod_int Tryd.underlying3 hx
   obtain rfl := trod_int Tryd.underlying3 hy
   unfold World.var? at hv
   rw [gNow] at hv
   simp only [Option.bind_some] at hv
   cases hh : W.heap[0]? with
   | none => simp [hh] at hv
   | some o =>
    cases o <;> simp [hh] at hv
    subst hv
    refine ro_of fun j v hj => ?_
    rw [Addr.add_lit, Nat.zero_add]
    unfold World.cell?
    rw [hh]
    have hj' : ([.int .i64 1073741824, .int .i64 (-1073741824)] : List Value)[j]? = some v := hj
    simpa using hj'
end Go.Proofs.YtommeljlfkmpjaaDoor
