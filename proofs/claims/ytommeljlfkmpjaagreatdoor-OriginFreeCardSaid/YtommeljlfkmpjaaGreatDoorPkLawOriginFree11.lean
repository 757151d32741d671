/- origin: without marks, and a clock. Plain. / a chain of makers beside a cell: where they stand. / law09: a row without one. / law09.OriginFree: the walk. / The variable origin.nowhere, as the rows' condition lays it, and the door's own heap, which meets that condition. -/
import Derived.Test.YtommeljlfkmpjaaGreatDoorPkLawOriginFree10
import Derived.Test.YtommeljlfkmpjaaGreatDoorPkLawOriginFree3
import Derived.Test.YtommeljlfkmpjaaGreatDoorRows
import Derived.Test.YtommeljlfkmpjaaGreatDoorPkLawOriginFree4
import Derived.LaidLaws
import Derived.LaidHandle
import Derived.LaidMore
import Derived.ChangeVars
import Derived.ChangeShapes
namespace Go.Proofs.YtommeljlfkmpjaaGreatDoor
open Go.RowKit Go.Proofs.YtommeljlfkmpjaaGreatDoorW.PrintWords
set_option linter.unusedVariables false
set_option linter.unusedSimpArgs false
/-! ### spans of what rises -/
theorem spans_run (lo : Int) : ∀ n : Nat, spansOf ((List.range (n + 1)).map fun k : Nat => lo + k) = [⟨lo, lo + n⟩]
 | 0 => by simp [spansOf, grpS]
 | n + 1 => by
   rw [List.range_succ, List.map_append, spansOf, List.foldl_append]
   have := spans_run lo n
   rw [spansOf] at this
   rw [this]
   simp only [List.map_cons, List.map_nil, List.foldl_cons, List.foldl_nil, grpS]
   rw [if_pos ⟨by simp, by simp [List.getD]; omega⟩]
   simp [List.getD]
theorem spans_some (l : List Int) (a : Int) (hn : l.Nodup) (h : ∀ x ∈ l, x = a) : spansOf l = [] ∨ spansOf l = [⟨a, a⟩] := by
 match l, hn, h with
 | [], _, _ => exact .inl rfl
 | [x], _, h => exact .inr (by rw [h x List.mem_cons_self]; simp [spansOf, grpS])
 | x :: y :: l, hn, h =>
   have h1 := h x List.mem_cons_self
   have h2 := h y (List.mem_cons_of_mem _ List.mem_cons_self)
   rw [h1, h2] at hn
   simp at hn
/-! ### without marks -/
theorem free_minutes {R E : Int} {gs : List GatT} {ms : List MarT} {room : Int} (hsc : sceneF R E gs ms = true) (hr : roomOK R room = true) : minutesL R E gs [] room = [⟨0, E⟩] ∧ minutesC R E gs [] room = 0 := by
 have h0 := scene_sub hsc (List.nil_sublist ms)
 have hC : minutesC R E gs [] room = 0 := by simp [minutesC, h0, hr]
 obtain ⟨hR6, hE6, hG, _, _⟩ := sceneF_ok hsc
 refine ⟨?_, hC⟩
 rw [minutesL, if_pos hC]
 obtain ⟨l, hl⟩ : ∃ x, x ∈ beganL E R.toNat gs room.toNat [] := by
   have := can_empty hsc room.toNat
   unfold canF at this
   rw [Bool.not_eq_true', List.isEmpty_eq_false_iff_exists_mem] at this
   exact this
 obtain ⟨_, h2, _⟩ := beganL_mem.1 hl
 have h2 : l.2 = ⟨0, E⟩ := h2
 have ht : toldL E (beganL E R.toNat gs room.toNat []) = List.range (E + 1).toNat := by
   refine List.filter_eq_self.2 fun m hm => toldF_iff.2 ⟨l, hl, ?_, ?_⟩
   · rw [h2]; simp
   · rw [h2]; have := List.mem_range.1 hm; simp only; omega
 rw [ht]
 have hn : (E + 1).toNat = E.toNat + 1 := by omega
 rw [hn]
 have := spans_run 0 E.toNat
 unfold intsN
 rw [show (fun n : Nat => (n : Int)) = fun k : Nat => (0 : Int) + k by funext k; omega, this]
 congr 2
 omega
theorem free_rooms {R E : Int} {gs : List GatT} {ms : List MarT} (hsc : sceneF R E gs ms = true) : ((roomsR R E gs []).length : Int) = R ∧ checkF R E gs [] = 0 := by
 have h0 := scene_sub hsc (List.nil_sublist ms)
 obtain ⟨hR6, _⟩ := sceneF_ok hsc
 refine ⟨?_, by rw [checkF, if_pos h0]⟩
 rw [roomsR, if_pos h0, roomsN, List.filter_eq_self.2 fun r _ => can_empty hsc r, List.length_range]
 omega
/-! ### a clock -/
theorem far_self {R : Nat} {gs : List GatT} {l : List Int} (hG : GatesR R gs) (hl : okD gs l) (a : Nat) : farM R gs l a a = 0 := by
 have := (gates_sound hG hl).fw R R
 exact this.zero a
theorem winF_snoc (E : Int) (r : Nat → Int) (ms : List MarT) (m : MarT) : winF E r (ms ++ [m]) = comF (winF E r ms) (saysF E r m) := by
 unfold winF
 rw [List.foldl_append]
 rfl
theorem clock_says {E : Int} {r : Nat → Int} {room : Int} {id at_ : Int} (h : r room.toNat = 0) : saysF E r ⟨id, 1, room, 0, ⟨at_, at_⟩, 0⟩ = comF ⟨at_, 1073741824⟩ ⟨-1073741824, at_⟩ := by
 simp only [saysF, h, afterF, untilF]
 rw [if_pos (by decide), if_neg (by decide), if_neg (by decide)]
 congr 2
 · omega
 · omega
theorem clock_minutes {R E : Int} {gs : List GatT} {ms : List MarT} {room id at_ : Int} (hsc : sceneF R E gs (ms ++ [⟨id, 1, room, 0, ⟨at_, at_⟩, 0⟩]) = true) (hr : roomOK R room = true) : (minutesL R E gs (ms ++ [⟨id, 1, room, 0, ⟨at_, at_⟩, 0⟩]) room = [] ∨ minutesL R E gs (ms ++ [⟨id, 1, room, 0, ⟨at_, at_⟩, 0⟩]) room = [⟨at_, at_⟩]) ∧ minutesC R E gs (ms ++ [⟨id, 1, room, 0, ⟨at_, at_⟩, 0⟩]) room = 0 := by
 have hC : minutesC R E gs (ms ++ [⟨id, 1, room, 0, ⟨at_, at_⟩, 0⟩]) room = 0 := by simp [minutesC, hsc, hr]
 obtain ⟨hR6, hE6, hG, _, _⟩ := sceneF_ok hsc
 refine ⟨?_, hC⟩
 rw [minutesL, if_pos hC]
 refine spans_some _ at_ (intsN_nodup ((toldL_rising E _).imp fun h => by omega)) fun x hx => ?_
 obtain ⟨n, hn, rfl⟩ := List.mem_map.1 hx
 obtain ⟨y, hy, h1, h2⟩ := toldF_iff.1 (List.mem_filter.1 hn).2
 obtain ⟨h3, h4, h5⟩ := beganL_mem.1 hy
 have hG' : GatesR ((R.toNat : Nat) : Int) gs := by rw [Int.toNat_of_nonneg (by omega)]; exact hG
 have hok : okD gs ((allD gs).getD y.1 []) := allD_ok _ (getD_mem _ _ _ h3)
 rw [winF_snoc, clock_says (far_self hG' hok _)] at h4
 have e0 : at_ ≤ y.2.f0 ∧ y.2.f1 ≤ at_ := by
   rw [h4]
   unfold comF
   simp only
   repeat' split
   all_goals omega
 omega
/-! ### a row without one, and what is asked of it, in whatever order they are made -/
inductive CH where
 | c0
 | c1 (b1 : Nat)
 | c2 (b1 b5 k5 : Nat)
 | c3 (b1 b5 k5 b10 k10 : Nat)
 | c4 (b1 b5 k5 b10 k10 : Nat) (r : RowR)
inductive AL where
 | a0
 | a1 (b : Nat)
 | a2 (b : Nat) (r : RowR)
def CH.b1 : CH → Nat
 | .c0 => 0
 | .c1 b => b
 | .c2 b _ _ => b
 | .c3 b _ _ _ _ => b
 | .c4 b _ _ _ _ _ => b
def CH.b5 : CH → Nat
 | .c2 _ b _ => b
 | .c3 _ b _ _ _ => b
 | .c4 _ b _ _ _ _ => b
 | _ => 0
def CH.k5 : CH → Nat
 | .c2 _ _ b => b
 | .c3 _ _ b _ _ => b
 | .c4 _ _ b _ _ _ => b
 | _ => 0
def CH.b10 : CH → Nat
 | .c3 _ _ _ b _ => b
 | .c4 _ _ _ b _ _ => b
 | _ => 0
def CH.k10 : CH → Nat
 | .c3 _ _ _ _ b => b
 | .c4 _ _ _ _ b _ => b
 | _ => 0
def CH.r : CH → RowR
 | .c4 _ _ _ _ _ r => r
 | _ => none
def AL.b : AL → Nat
 | .a0 => 0
 | .a1 b => b
 | .a2 b _ => b
end Go.Proofs.YtommeljlfkmpjaaGreatDoor
namespace Go.Proofs.YtommeljlfkmpjaaGreatDoor
open Go.RowKit Go.Proofs.YtommeljlfkmpjaaGreatDoorW.PrintWords
set_option linter.unusedVariables false
set_option linter.unusedSimpArgs false
section
variable {P : Program} {ro : Option Nat} {n N : Nat} {ds : List Deferred} {w0 : World} {X : Nat → Prop} {Q : Exit → Act → World → Prop} {σ : Slots} {η η' : Hp} {ops rest : List Oper} {d : Option Tmp} {ty : TypeId} {pos : String} {aft : Array Edge} {g : Option (Nat × Bool)}
theorem xq_blocks {e : Exit} (hw : ∀ w, WOK w0 X η w → WOK w0 X η' w) (h : XQ N ds w0 X Q e σ η') : XQ N ds w0 X Q e σ η := fun a w ha hw1 => h a w ha (hw w hw1)
theorem WOK.fewer {b : Nat} {wr : Bool} {t : TypeId} {sz m k cap : Nat} {xs : List Value} {η0 : Hp} {w : World} (hm : m ≤ k) (h : WOK w0 X ((b, wr, orow t sz k cap xs) :: η0) w) : WOK w0 X ((b, wr, orow t sz m cap (xs.take (m * sz))) :: η0) w := by
 refine ⟨h.kx, fun e he => ?_, h.nd, fun e he hw => ?_⟩
 · rcases List.mem_cons.1 he with rfl | he
   · obtain ⟨o, h1, cur, h2, h3, h4, h5, h6⟩ := h.bl _ List.mem_cons_self
     refine ⟨o, h1, cur, h2, by omega, h4, h5, ?_⟩
     rw [← h6, List.take_take, Nat.min_eq_left (Nat.mul_le_mul_right _ hm)]
   · exact h.bl _ (List.mem_cons_of_mem _ he)
 · rcases List.mem_cons.1 he with rfl | he
   · exact h.ow (b, wr, orow t sz k cap xs) List.mem_cons_self hw
   · exact h.ow _ (List.mem_cons_of_mem _ he) hw
theorem xo_sliceHiM (T : Tys P) {t e : TypeId} {x hi_ : Operand} {p : Addr} {k0 m cap i : Nat} (hg : gS ops σ g = some true) (ht : look t T.el = some e) (hk : look e T.tk = some k0) (hx : ev σ x = some (.slice (some p) m cap)) (hl : ev σ hi_ = some (.int .i64 (i : Int))) (hc : i ≤ cap) (hN : dstOK N d = true)
   (h : XO P ro n N ds w0 X Q ops (putS d (.slice (some p) i cap) σ) η rest) : XO P ro n N ds w0 X Q ops σ η (⟨d, .slice t x none (some hi_) none, ty, pos, aft, g⟩ :: rest) :=
 xo_val _ rfl hg hN (fun a w ha hw => by
   have h1 := T.hel _ (look_mem ht)
   simp only at h1
   have h2 := (T.htk _ (look_mem hk)).2 w
   have hel : P.elem t = e := by simp [Program.elem, h1]
   have hu : P.underlying t = some (.slice (P.elem t)) := by rw [hel]; exact h1
   have h3 := run_slice_h (P := P) w t (some p) m cap hu .i64 (i : Int) (by omega) (by omega)
   rw [hel, h2] at h3
   simp only [execOp, Option.map_some, Option.map_none, ha.ev hx, ha.ev hl, Sem.run_bind, run_sliceAt_slice (P := P) w t _ _ _ _ hu, h3, Result.andThen_ok, sliced]
   simp [Addr.add_zero']) h
end
theorem u16_of {n : Int} (h : (Lit.int .u16 n).wf = true) : 0 ≤ n ∧ n ≤ 65535 := by
 simp only [Lit.wf, Bool.and_eq_true, decide_eq_true_eq] at h
 exact h
theorem spa_eql (p q : Operand) (x : SpaT) (w : World) : (eqGuard .eql 45 p q (.agg (spaV x).toArray) (.agg (spaV x).toArray)).run Tryz.prog w = .ok () w ∧ (binOp .eql 45 (.agg (spaV x).toArray) (.agg (spaV x).toArray)).run Tryz.prog w = .ok (.bool true) w := by
 refine ⟨by simp only [spaV]; go_simp, ?_⟩
 simp only [spaV]
 go_simp
theorem marL_take (l : List MarT) (k : Nat) : marL (l.take k) = (marL l).take (k * 7) := by
 by_cases hk : k ≤ l.length
 · have h : marL l = marL (l.take k) ++ marL (l.drop k) := by
     unfold marL
     rw [← List.flatten_append, ← List.map_append, List.take_append_drop]
   rw [h, List.take_left' (by rw [marL_len, List.length_take, Nat.min_eq_left hk])]
 · rw [List.take_of_length_le (by omega), List.take_of_length_le (by rw [marL_len]; exact Nat.mul_le_mul_right _ (by omega))]
theorem f0_in {R last : Int} : ∀ {ms : List MarT}, marksF R last ms = true → ∀ m ∈ ms, last < m.f0 ∧ m.f0 ≤ 9999 := by
 intro ms
 induction ms generalizing last with
 | nil => intro _ m h; cases h
 | cons x ms ih =>
   intro h m hm
   rw [marksF, Bool.and_eq_true] at h
   have h1 := h.1
   simp only [Bool.and_eq_true] at h1
   have hi := inF_iff.1 h1.1.1.1
   rcases List.mem_cons.1 hm with rfl | hm
   · omega
   · have := ih h.2 m hm; omega
set_option maxHeartbeats 16000000 in
theorem originFree_law (R E : Int) (A B : Option Addr) (c c2 : Nat) (gs : List GatT) (ms : List MarT) (which clock : Int) (w : World) (hA : Kd.C gatK w A gs.length gs) (hB : Kd.C marK w B ms.length ms) (hk : BytesK ms) (hwh : 0 ≤ which ∧ which ≤ 255) (hcl : 0 ≤ clock ∧ clock ≤ 65535) (hglob : GlobO w) :
   Calls Tryz.prog 11 #[.agg (scnV R A gs.length c E B ms.length c2).toArray, .int .u8 which, .int .u16 clock] w fun e w' => e = .returned (.bool true) ∧ Below w.heap.size w w' := by
 have hgr4 := gat_row hA
 have hmr7 := mar_row hB
 have hs : SceneAt w A B gs ms := ⟨hA, hB, hk, hglob⟩
 refine x_calls (X := XNone) Tryz.func11 rfl rfl rfl ?_
 with_reducible ((repeat refine xc_seq ?_); refine xcR ?_)
 refine xo_box rfl rfl rfl rfl (fun b3 => ?_)
 refine xo_asg rfl rfl rfl ?_
 with_reducible (refine xo_nil ?_; (repeat (first | refine xqT ?_ | refine xqB ?_ | refine xqS ?_)); (repeat refine xc_seq ?_); refine xcR ?_)
 refine xo_callB (fs := []) (cs := []) rfl rfl rfl alive_enters rfl (fun w1 hw1 => alive_calls w1 (hglob.below hw1.kx.below)) ?_
 refine xo_asg rfl rfl rfl ?_
 with_reducible (refine xo_nil ?_; (repeat (first | refine xqT ?_ | refine xqB ?_ | refine xqS ?_)); (repeat refine xc_seq ?_); refine xcR ?_)
 refine xo_mv rfl rfl rfl ?_
 refine xo_notOp rfl rfl rfl ?_
 with_reducible (refine xo_nil ?_; (repeat (first | refine xqT ?_ | refine xqB ?_ | refine xqS ?_)); (repeat refine xc_seq ?_))
 refine xc_condF rfl ?_
 with_reducible (refine xc_skip ?_; (repeat (first | refine xqT ?_ | refine xqB ?_ | refine xqS ?_)))
 cases hsc : sceneF R E gs ms
 · with_reducible repeat refine xc_seq ?_
   with_reducible refine xcR ?_
   refine xo_loadN T_ rfl rfl rfl (by repeat first | exact memH | apply memT | apply memA) rfl rfl ?_
   refine xo_callB (fs := []) (cs := []) rfl rfl rfl ready_enters rfl (fun w1 hw1 => ready_calls R E A B c c2 gs ms w1 (hgr4.below hw1.kx.below) (hmr7.below hw1.kx.below)) ?_
   refine xo_as (i := 24) rfl (congrArg Value.bool hsc) ?_
   refine xo_notOp rfl rfl rfl ?_
   with_reducible (refine xo_nil ?_; (repeat (first | refine xqT ?_ | refine xqB ?_ | refine xqS ?_)); (repeat refine xc_seq ?_))
   refine xc_condT rfl ?_
   with_reducible ((repeat refine xc_seq ?_); refine xcR ?_)
   refine xo_mv rfl rfl rfl ?_
   refine xo_asg rfl rfl rfl ?_
   with_reducible (refine xo_nil ?_; (repeat (first | refine xqT ?_ | refine xqB ?_ | refine xqS ?_)); (repeat refine xc_seq ?_); refine xc_ret ?_; (repeat (first | refine xq_thenR ?_ | refine xq_blockR ?_ | refine xq_scopeR ?_)))
   exact xq_ret1 rfl rfl fun w' hw => ⟨rfl, hw.kx.below⟩
 obtain ⟨hR6, hE6, hG, hm8, hmk⟩ := sceneF_ok hsc
 have hg6 := hG.len
 with_reducible ((repeat refine xc_seq ?_); refine xcR ?_)
 refine xo_loadN T_ rfl rfl rfl (by repeat first | exact memH | apply memT | apply memA) rfl rfl ?_
 refine xo_callB (fs := []) (cs := []) rfl rfl rfl ready_enters rfl (fun w1 hw1 => ready_calls R E A B c c2 gs ms w1 (hgr4.below hw1.kx.below) (hmr7.below hw1.kx.below)) ?_
 refine xo_as (i := 24) rfl (congrArg Value.bool hsc) ?_
 refine xo_notOp rfl rfl rfl ?_
 with_reducible (refine xo_nil ?_; (repeat (first | refine xqT ?_ | refine xqB ?_ | refine xqS ?_)); (repeat refine xc_seq ?_))
 refine xc_condF rfl ?_
 with_reducible (refine xc_skip ?_; (repeat (first | refine xqT ?_ | refine xqB ?_ | refine xqS ?_)))
 have hrm : 0 ≤ which % R ∧ which % R < R := ⟨Int.emod_nonneg _ (by omega), Int.emod_lt_of_pos _ (by omega)⟩
 have hrOK : roomOK R (which % R) = true := inF_iff.2 ⟨hrm.1, by omega⟩
 have hat : 0 ≤ clock % 601 ∧ clock % 601 < 601 := ⟨Int.emod_nonneg _ (by omega), Int.emod_lt_of_pos _ (by omega)⟩
 with_reducible ((repeat refine xc_seq ?_); refine xcR ?_)
 refine xo_mv rfl rfl rfl ?_
 refine xo_conv T_ rfl rfl rfl rfl (IntWalk.i64_in _ ⟨by omega, by omega⟩) rfl ?_
 refine xo_fa T_ rfl rfl rfl rfl rfl ?_
 refine xo_load0 T_ rfl rfl rfl (by repeat first | exact memH | apply memT | apply memA) rfl rfl ?_
 refine xo_rem rfl rfl rfl (by omega) (by omega) rfl ?_
 refine xo_mv rfl rfl rfl ?_
 refine xo_conv T_ rfl rfl rfl rfl (IntWalk.i64_in _ ⟨by omega, by omega⟩) rfl ?_
 refine xo_rem rfl rfl rfl (by omega) (by omega) rfl ?_
 refine xo_asg rfl rfl rfl ?_
 refine xo_asg rfl rfl rfl ?_
 with_reducible (refine xo_nil ?_; (repeat (first | refine xqT ?_ | refine xqB ?_ | refine xqS ?_)))
 generalize which % R = room at hrm hrOK
 generalize clock % 601 = at_ at hat
 with_reducible ((repeat refine xc_seq ?_); refine xcR ?_)
 refine xo_loadN T_ rfl rfl rfl (by repeat first | exact memH | apply memT | apply memA) rfl rfl ?_
 refine xo_call (fs := []) (cs := []) rfl rfl rfl twin_enters rfl (fun w1 hw1 => (twin_calls R E A B c c2 gs ms w1 (hgr4.below hw1.kx.below) (hmr7.below hw1.kx.below) (C_none hA) (C_none hB) (by omega) (by omega)).mono ?_)
 rintro e w2 ⟨bg, kg, bm, km, rfl, hz⟩
 refine ⟨_, _, rfl, hw1.join hz (fun e he => by simp only [List.mem_cons, List.not_mem_nil, or_false] at he; rcases he with rfl | rfl <;> rfl), ?_⟩
 clear hz hw1
 refine xo_alloc T_ rfl rfl rfl rfl (fun b10 => ?_)
 refine xo_store T_ rfl rfl rfl rfl (by repeat first | exact memH | apply memT | apply memA) rfl rfl rfl rfl (by repeat (first | exact Upd.head | apply Upd.tail | apply Upd.app)) rfl ?_
 with_reducible (refine xo_nil ?_; (repeat (first | refine xqT ?_ | refine xqB ?_ | refine xqS ?_)); (repeat refine xc_seq ?_); refine xcR ?_)
 refine xo_fa T_ rfl rfl rfl rfl rfl ?_
 refine xo_store T_ rfl rfl rfl rfl (by repeat first | exact memH | apply memT | apply memA) rfl rfl rfl rfl (by repeat (first | exact Upd.head | apply Upd.tail | apply Upd.app)) rfl ?_
 with_reducible (refine xo_nil ?_; (repeat (first | refine xqT ?_ | refine xqB ?_ | refine xqS ?_)))
 refine xc_sub (η' := [(b10, true, cel [.int .i64 R, .slice (some ⟨bg, 0, none⟩) gs.length kg, .int .i64 E, .slice none 0 0] 25), (bg, true, orow 52 4 gs.length kg (gatL gs)), (b3, true, cel (scnV R A gs.length c E B ms.length c2) 25)]) (by repeat (first | exact List.Sublist.refl _ | apply List.Sublist.cons_cons | apply List.Sublist.cons | exact List.nil_sublist _)) ?_
 have hfm := free_minutes (room := room) hsc hrOK
 have hfr := free_rooms hsc
 have hfree : ∀ {η : Hp} {w1 : World}, WOK w XNone η w1 → (bg, true, orow 52 4 gs.length kg (gatL gs)) ∈ η → SceneAt w1 (some ⟨bg, 0, none⟩) none gs [] := fun {η w1} hw1 m1 =>
   ⟨gates_C (by omega) (hw1.bl_of fun e he => by rw [List.mem_singleton.1 he]; exact m1), Kd.C_nil _ _, fun m hm => (by cases hm), hglob.below hw1.kx.below⟩
 with_reducible ((repeat refine xc_seq ?_); refine xcR ?_)
 refine xo_loadN T_ rfl rfl rfl (by repeat first | exact memH | apply memT | apply memA) rfl rfl ?_
 refine xo_mv rfl rfl rfl ?_
 refine xo_call (fs := []) (cs := []) rfl rfl rfl Minutes_enters rfl (fun w1 hw1 => (Minutes_calls R E (some ⟨bg, 0, none⟩) none kg 0 gs [] room w1 (hfree hw1 (by repeat first | exact memH | apply memT | apply memA))).mono ?_)
 rw [hfm.1, hfm.2]
 rintro e w2 ⟨r11, rfl, hrw, hb⟩
 have hh11 := hrw.1
 refine ⟨_, _, rfl, hw1.rowZ hb hrw, ?_⟩
 clear hrw hb hw1
 refine xo_mv rfl rfl rfl ?_
 refine xo_ext rfl rfl rfl rfl ?_
 refine xo_ext rfl rfl rfl rfl ?_
 refine xo_asg rfl rfl rfl ?_
 refine xo_asg rfl rfl rfl ?_
 with_reducible (refine xo_nil ?_; (repeat (first | refine xqT ?_ | refine xqB ?_ | refine xqS ?_)); (repeat refine xc_seq ?_); refine xcR ?_)
 refine xo_loadN T_ rfl rfl rfl (by repeat first | exact memH | apply memT | apply memA) rfl rfl ?_
 refine xo_call (fs := []) (cs := []) rfl rfl rfl Rooms_enters rfl (fun w1 hw1 => (Rooms_calls R E (some ⟨bg, 0, none⟩) none kg 0 gs [] w1 (hfree hw1 (by repeat first | exact memH | apply memT | apply memA))).mono ?_)
 rw [hfr.2]
 rintro e w2 ⟨r13, rfl, hrw, hb⟩
 have hh13 := hrw.1
 refine ⟨_, _, rfl, hw1.row hb hrw, ?_⟩
 clear hrw hb hw1
 refine xo_mv rfl rfl rfl ?_
 refine xo_ext rfl rfl rfl rfl ?_
 refine xo_ext rfl rfl rfl rfl ?_
 refine xo_asg rfl rfl rfl ?_
 refine xo_asg rfl rfl rfl ?_
 with_reducible (refine xo_nil ?_; (repeat (first | refine xqT ?_ | refine xqB ?_ | refine xqS ?_)))
 have hh13 : r13 = none → (roomsR R E gs []).length = 0 := fun q => by simpa [intsN] using hh13 q
 refine xc_slots [(3, .pointer (some ⟨b3, 0, none⟩)), (7, .bool true), (8, .int .i64 room), (9, .int .i64 at_), (11, .slice (valA r11) [(⟨0, E⟩ : SpaT)].length (valC r11)), (12, .int .i64 0), (13, .slice (valA r13) (roomsR R E gs []).length (valC r13)), (14, .int .i64 0)] ⟨rfl, rfl, rfl, rfl, congrArg some (valR_eq hh11), rfl, congrArg some (valR_eq hh13), rfl, trivial⟩ ?_
 have e61 : eqL [(⟨0, E⟩ : SpaT)] [⟨0, E⟩] = true := eqL_true rfl
 have e69 : (!decide (((roomsR R E gs []).length : Int) = R)) = false := by rw [decide_eq_true hfr.1]; rfl
 with_reducible ((repeat refine xc_seq ?_); refine xcR ?_)
 refine xo_mv rfl rfl rfl ?_
 refine xo_neq rfl rfl rfl rfl ?_
 refine xo_mv rfl rfl rfl ?_
 (first | refine xo_not rfl rfl ?_ | (refine xo_mv rfl rfl rfl ?_))
 (first | refine xo_not rfl rfl ?_ | (refine xo_neq rfl rfl rfl rfl ?_))
 first | refine xo_pickT rfl rfl rfl rfl ?_ | refine xo_pickF rfl rfl rfl rfl ?_
 refine xo_mv rfl rfl rfl ?_
 (first | refine xo_not rfl rfl ?_ | (refine xo_mv rfl rfl rfl ?_))
 (first | refine xo_not rfl rfl ?_ | (refine xo_fa T_ rfl rfl rfl rfl rfl ?_))
 (first | refine xo_not rfl rfl ?_ | (refine xo_load0 T_ rfl rfl rfl (by repeat first | exact memH | apply memT | apply memA) rfl rfl ?_))
 (first | refine xo_not rfl rfl ?_ | (refine xo_callB (fs := []) (cs := []) rfl rfl rfl span_enters rfl (fun w1 hw1 => span_calls 0 E w1) ?_))
 (first | refine xo_not rfl rfl ?_ | (refine xo_bsG T_ 2 rfl rfl rfl rfl rfl rfl rfl rfl rfl rfl (fun b60 => ?_)))
 (first | refine xo_not rfl rfl ?_ | (refine xo_callB (fs := []) (cs := []) rfl rfl rfl sameSpans_enters rfl (fun w1 hw1 => sameSpans_calls (valA r11) (some ⟨b60, 0, none⟩) (valC r11) 1 [⟨0, E⟩] [⟨0, E⟩] w1 (spansAt_row (hw1.bl_of (fun e he => by repeat (first | exact he | exact List.mem_append_left _ he | apply List.mem_append_right | apply List.Mem.tail))) hh11) (spans1 (hw1.bl_of (fun e he => by repeat (first | exact he | exact List.mem_append_left _ he | apply List.mem_append_right | apply List.Mem.tail)))) (by simp)) ?_))
 refine xo_as (i := 61) rfl (congrArg Value.bool e61) ?_
 (first | refine xo_not rfl rfl ?_ | (refine xo_notOp rfl rfl rfl ?_))
 first | refine xo_pickT rfl rfl rfl rfl ?_ | refine xo_pickF rfl rfl rfl rfl ?_
 refine xo_mv rfl rfl rfl ?_
 (first | refine xo_not rfl rfl ?_ | (refine xo_mv rfl rfl rfl ?_))
 (first | refine xo_not rfl rfl ?_ | (refine xo_len T_ rfl rfl rfl rfl ?_))
 (first | refine xo_not rfl rfl ?_ | (refine xo_fa T_ rfl rfl rfl rfl rfl ?_))
 (first | refine xo_not rfl rfl ?_ | (refine xo_load0 T_ rfl rfl rfl (by repeat first | exact memH | apply memT | apply memA) rfl rfl ?_))
 (first | refine xo_not rfl rfl ?_ | (refine xo_neq rfl rfl rfl rfl ?_))
 refine xo_as (i := 69) rfl (congrArg Value.bool e69) ?_
 first | refine xo_pickT rfl rfl rfl rfl ?_ | refine xo_pickF rfl rfl rfl rfl ?_
 with_reducible (refine xo_nil ?_; (repeat (first | refine xqT ?_ | refine xqB ?_ | refine xqS ?_)); (repeat refine xc_seq ?_))
 refine xc_condF rfl ?_
 with_reducible (refine xc_skip ?_; (repeat (first | refine xqT ?_ | refine xqB ?_ | refine xqS ?_)); (repeat refine xc_seq ?_); refine xcR ?_)
 refine xo_loadN T_ rfl rfl rfl (by repeat first | exact memH | apply memT | apply memA) rfl rfl ?_
 refine xo_call (fs := []) (cs := []) rfl rfl rfl twin_enters rfl (fun w1 hw1 => (twin_calls R E A B c c2 gs ms w1 (hgr4.below hw1.kx.below) (hmr7.below hw1.kx.below) (C_none hA) (C_none hB) (by omega) (by omega)).mono ?_)
 rintro e w2 ⟨dg, lg, dm, lm, rfl, hz⟩
 refine ⟨_, _, rfl, hw1.join hz (fun e he => by simp only [List.mem_cons, List.not_mem_nil, or_false] at he; rcases he with rfl | rfl <;> rfl), ?_⟩
 clear hz hw1
 refine xo_alloc T_ rfl rfl rfl rfl (fun b15 => ?_)
 refine xo_store T_ rfl rfl rfl rfl (by repeat first | exact memH | apply memT | apply memA) rfl rfl rfl rfl (by repeat (first | exact Upd.head | apply Upd.tail | apply Upd.app)) rfl ?_
 with_reducible (refine xo_nil ?_; (repeat (first | refine xqT ?_ | refine xqB ?_ | refine xqS ?_)))
 refine xc_slots [(7, .bool true), (8, .int .i64 room), (9, .int .i64 at_), (15, .pointer (some ⟨b15, 0, none⟩))] ⟨rfl, rfl, rfl, rfl, trivial⟩ ?_
 refine xc_sub (η' := [(b15, true, cel (scnV R (some ⟨dg, 0, none⟩) gs.length lg E (some ⟨dm, 0, none⟩) ms.length lm) 25), (dm, true, orow 56 7 ms.length lm (marL ms)), (dg, true, orow 52 4 gs.length lg (gatL gs))]) (by repeat (first | exact List.Sublist.refl _ | apply List.Sublist.cons_cons | apply List.Sublist.cons | exact List.nil_sublist _)) ?_
 refine xc_perm (η' := [(dm, true, orow 56 7 ms.length lm (marL ms)), (b15, true, cel (scnV R (some ⟨dg, 0, none⟩) gs.length lg E (some ⟨dm, 0, none⟩) ms.length lm) 25), (dg, true, orow 52 4 gs.length lg (gatL gs))]) (List.Perm.swap _ _ _) ?_
 refine xc_know (φ := ms.length ≤ lm) (fun w1 hw1 => by obtain ⟨o, _, cur, _, h5, _⟩ := hw1.bl _ List.mem_cons_self; exact h5) fun hcap => ?_
 with_reducible ((repeat refine xc_seq ?_); refine xcR ?_)
 refine xo_fa T_ rfl rfl rfl rfl rfl ?_
 refine xo_load0 T_ rfl rfl rfl (by repeat first | exact memH | apply memT | apply memA) rfl rfl ?_
 refine xo_len T_ rfl rfl rfl rfl ?_
 refine xo_eql rfl rfl rfl rfl ?_
 with_reducible (refine xo_nil ?_; (repeat (first | refine xqT ?_ | refine xqB ?_ | refine xqS ?_)); (repeat refine xc_seq ?_))
 refine xc_meet2 (γ := List MarT) (fun ls => List.Sublist ls ms ∧ ls.length ≤ 7) (fun ls => [(7, .bool true), (8, .int .i64 room), (9, .int .i64 at_), (15, .pointer (some ⟨b15, 0, none⟩))]) (fun ls => [(dm, true, orow 56 7 ls.length lm (marL ls)), (b15, true, cel (scnV R (some ⟨dg, 0, none⟩) gs.length lg E (some ⟨dm, 0, none⟩) ls.length lm) 25), (dg, true, orow 52 4 gs.length lg (gatL gs))]) ?_ (fun ls hls => ?_)
 · with_reducible repeat refine xc_seq ?_
   refine xc_cond rfl (fun h => ?_) (fun h => ?_)
   · have h8 : ms.length = 8 := by have := of_decide_eq_true h; omega
     with_reducible ((repeat refine xc_seq ?_); refine xcR ?_)
     refine xo_fa T_ rfl rfl rfl rfl rfl ?_
     refine xo_load0 T_ rfl rfl rfl (by repeat first | exact memH | apply memT | apply memA) rfl rfl ?_
     refine xo_sliceHiM T_ (i := 7) rfl rfl rfl rfl rfl (by omega) rfl ?_
     refine xo_fa T_ rfl rfl rfl rfl rfl ?_
     refine xo_store T_ rfl rfl rfl rfl (by repeat first | exact memH | apply memT | apply memA) rfl rfl rfl rfl (by repeat (first | exact Upd.head | apply Upd.tail | apply Upd.app)) rfl ?_
     with_reducible (refine xo_nil ?_; (repeat (first | refine xqT ?_ | refine xqB ?_ | refine xqS ?_)))
     refine xq_blocks (η' := [(dm, true, orow 56 7 (ms.take 7).length lm (marL (ms.take 7))), (b15, true, cel (scnV R (some ⟨dg, 0, none⟩) gs.length lg E (some ⟨dm, 0, none⟩) (ms.take 7).length lm) 25), (dg, true, orow 52 4 gs.length lg (gatL gs))]) (fun w1 hw1 => ?_) (xq_meet _ _ _ (ms.take 7) ⟨List.take_sublist _ _, by rw [List.length_take]; omega⟩ ⟨rfl, rfl, rfl, rfl, trivial⟩ (List.Sublist.refl _))
     have hl7 : (ms.take 7).length = 7 := by rw [List.length_take]; omega
     rw [hl7, marL_take]
     exact WOK.fewer (by omega) hw1
   · have h8 : ¬ ms.length = 8 := by have := of_decide_eq_false h; omega
     with_reducible (refine xc_skip ?_; (repeat (first | refine xqT ?_ | refine xqB ?_ | refine xqS ?_)))
     exact xq_meet _ _ _ ms ⟨List.Sublist.refl _, by omega⟩ ⟨rfl, rfl, rfl, rfl, trivial⟩ (List.Sublist.refl _)
 obtain ⟨hls, hl7⟩ := hls
 have hidb := fun m hm => f0_in hmk m (hls.subset hm)
 with_reducible ((repeat refine xc_seq ?_); refine xcR ?_)
 refine xo_asg rfl rfl rfl ?_
 with_reducible (refine xo_nil ?_; (repeat (first | refine xqT ?_ | refine xqB ?_ | refine xqS ?_)); (repeat refine xc_seq ?_); refine xcR ?_)
 refine xo_fa T_ rfl rfl rfl rfl rfl ?_
 refine xo_load0 T_ rfl rfl rfl (by repeat first | exact memH | apply memT | apply memA) rfl rfl ?_
 refine xo_len T_ rfl rfl rfl rfl ?_
 refine xo_asg rfl rfl rfl ?_
 with_reducible (refine xo_nil ?_; (repeat (first | refine xqT ?_ | refine xqB ?_ | refine xqS ?_)); (repeat refine xc_seq ?_); refine xcR ?_)
 refine xo_mv rfl rfl rfl ?_
 refine xo_gtr rfl rfl rfl rfl ?_
 with_reducible (refine xo_nil ?_; (repeat (first | refine xqT ?_ | refine xqB ?_ | refine xqS ?_)); (repeat refine xc_seq ?_))
 refine xc_meet2 (γ := Int) (fun id => 0 ≤ id ∧ id ≤ 10000) (fun id => [(7, .bool true), (8, .int .i64 room), (9, .int .i64 at_), (15, .pointer (some ⟨b15, 0, none⟩)), (16, .int .i64 id)]) (fun _ => [(dm, true, orow 56 7 ls.length lm (marL ls)), (b15, true, cel (scnV R (some ⟨dg, 0, none⟩) gs.length lg E (some ⟨dm, 0, none⟩) ls.length lm) 25), (dg, true, orow 52 4 gs.length lg (gatL gs))]) ?_ (fun id hid => ?_)
 · with_reducible repeat refine xc_seq ?_
   refine xc_cond rfl (fun h => ?_) (fun h => ?_)
   · have h0 : 0 < ls.length := by have := of_decide_eq_true h; omega
     have hm := hidb _ (getD_mem ls zMar (ls.length - 1) (by omega))
     with_reducible ((repeat refine xc_seq ?_); refine xcR ?_)
     refine xo_fa T_ rfl rfl rfl rfl rfl ?_
     refine xo_load0 T_ rfl rfl rfl (by repeat first | exact memH | apply memT | apply memA) rfl rfl ?_
     refine xo_mv rfl rfl rfl ?_
     refine xo_sub rfl rfl rfl (by omega) rfl ?_
     refine xo_ia T_ rfl rfl rfl rfl rfl ⟨by omega, by omega⟩ rfl ?_
     refine xo_faR T_ rfl rfl rfl rfl rfl ?_
     refine xo_loadZ T_ (b := dm) (k := (ls.length - 1) * 7) (v := .int .i64 (ls.getD (ls.length - 1) zMar).f0) rfl rfl rfl ?_ (by repeat first | exact memH | apply memT | apply memA) (by have := marL_at ls (ls.length - 1) 0 (by omega) (by omega); rw [Nat.add_zero] at this; rw [this]; rfl) rfl ?_
     · rw [add_two, Addr.add_lit]; congr 1; rw [show szN 7 = 7 from rfl]; omega
     refine xo_add rfl rfl rfl (by omega) rfl ?_
     refine xo_asg rfl rfl rfl ?_
     with_reducible (refine xo_nil ?_; (repeat (first | refine xqT ?_ | refine xqB ?_ | refine xqS ?_)))
     exact xq_meet _ _ _ _ ⟨by omega, by omega⟩ ⟨rfl, rfl, rfl, rfl, rfl, trivial⟩ (List.Sublist.refl _)
   · with_reducible refine xc_skip ?_
     with_reducible (repeat (first | refine xqT ?_ | refine xqB ?_ | refine xqS ?_))
     exact xq_meet _ _ _ 0 ⟨by omega, by omega⟩ ⟨rfl, rfl, rfl, rfl, rfl, trivial⟩ (List.Sublist.refl _)
 have hl1 : ls.length + 1 = (ls ++ [(⟨id, 1, room, 0, ⟨at_, at_⟩, 0⟩ : MarT)]).length := by rw [List.length_append]; rfl
 with_reducible (repeat refine xc_seq ?_)
 apply xc_drawE (fun g => [(8, .slice (some ⟨(g.getD 0 gv0).b, 0, none⟩) 1 1), (9, .slice (some ⟨(g.getD 1 gv0).b, 0, none⟩) (ls.length + 1) (g.getD 1 gv0).c)]) (fun (η0 : Hp) g => match g with | [] => (η0) | a0 :: [] => ((a0.b, true, cel (marV (⟨id, 1, room, 0, ⟨at_, at_⟩, 0⟩ : MarT)) 56) :: [(dm, true, orow 56 7 ls.length lm (marL ls)), (b15, true, cel (scnV R (some ⟨dg, 0, none⟩) gs.length lg E (some ⟨dm, 0, none⟩) ls.length lm) 25), (dg, true, orow 52 4 gs.length lg (gatL gs))]) | a0 :: a1 :: [] => ([(a1.b, true, orow 56 7 (ls.length + 1) a1.c (marL ls ++ marV (⟨id, 1, room, 0, ⟨at_, at_⟩, 0⟩ : MarT))), (b15, true, cel (scnV R (some ⟨dg, 0, none⟩) gs.length lg E (some ⟨dm, 0, none⟩) ls.length lm) 25), (dg, true, orow 52 4 gs.length lg (gatL gs))]) | a0 :: a1 :: a2 :: _ => ([(a1.b, true, orow 56 7 (ls.length + 1) a1.c (marL ls ++ marV (⟨id, 1, room, 0, ⟨at_, at_⟩, 0⟩ : MarT))), (b15, true, cel [.int .i64 R, .slice (some ⟨dg, 0, none⟩) gs.length lg, .int .i64 E, .slice (some ⟨a1.b, 0, none⟩) (ls.length + 1) a1.c] 25), (dg, true, orow 52 4 gs.length lg (gatL gs))])) (fun _ => True) [0, 0, 0, 0, 0, 0, 0, 0, 1, 2, 2, 3] [8, 9, 11] [[7], [1, 8, 6], [10, 9, 9, 0, 1, 2, 3, 4, 5, 6, 7, 8, 9]] (by trivial)
 apply SameLen.cons
 apply SameLen.cons
 apply SameLen.cons
 apply SameLen.cons
 apply SameLen.cons
 apply SameLen.cons
 apply SameLen.cons
 apply SameLen.cons
 apply SameLen.cons (c := undef)
 apply SameLen.cons (c := undef)
 apply SameLen.cons
 apply SameLen.cons
 exact SameLen.nil
 rotate_left 10
 case hH0 => rfl
 case hmix => exact T_.mixed
 case hbind => rfl
 case hdeps => rfl
 case hdist => rfl
 case hfresh => rfl
 case hE => rfl
 case hEn => decide
 · refine DrawE.pure 0 2 rfl (.inr (by decide)) (fun L g hg hd => Nat.zero_le _) (fun g hlo hhi hF τ => ?_) ?_
   · rcases g with _ | ⟨a0, _ | ⟨a1, _ | ⟨a2, _ | ⟨a3, g⟩⟩⟩⟩ <;> first | (simp only [lenC, lenN] at hlo hhi; omega) | (refine ⟨_, rfl, ?_⟩; refine xo_fa T_ rfl rfl rfl rfl rfl ?_; exact xo_fin rfl)
   refine DrawE.pure 0 1 rfl (.inr (by decide)) (fun L g hg hd => Nat.zero_le _) (fun g hlo hhi hF τ => ?_) ?_
   · rcases g with _ | ⟨a0, _ | ⟨a1, _ | ⟨a2, _ | ⟨a3, g⟩⟩⟩⟩ <;> first | (simp only [lenC, lenN] at hlo hhi; omega) | (refine ⟨_, rfl, ?_⟩; refine xo_load0 T_ rfl rfl rfl (by repeat first | exact memH | apply memT | apply memA) rfl rfl ?_; exact xo_fin rfl)
   refine DrawE.pure 0 2 rfl (.inr (by decide)) (fun L g hg hd => Nat.zero_le _) (fun g hlo hhi hF τ => ?_) ?_
   · rcases g with _ | ⟨a0, _ | ⟨a1, _ | ⟨a2, _ | ⟨a3, g⟩⟩⟩⟩ <;> first | (simp only [lenC, lenN] at hlo hhi; omega) | (refine ⟨_, rfl, ?_⟩; refine xo_mv rfl rfl rfl ?_; exact xo_fin rfl)
   refine DrawE.pure 0 2 rfl (.inr (by decide)) (fun L g hg hd => Nat.zero_le _) (fun g hlo hhi hF τ => ?_) ?_
   · rcases g with _ | ⟨a0, _ | ⟨a1, _ | ⟨a2, _ | ⟨a3, g⟩⟩⟩⟩ <;> first | (simp only [lenC, lenN] at hlo hhi; omega) | (refine ⟨_, rfl, ?_⟩; refine xo_mv rfl rfl rfl ?_; exact xo_fin rfl)
   refine DrawE.pure 0 2 rfl (.inr (by decide)) (fun L g hg hd => Nat.zero_le _) (fun g hlo hhi hF τ => ?_) ?_
   · rcases g with _ | ⟨a0, _ | ⟨a1, _ | ⟨a2, _ | ⟨a3, g⟩⟩⟩⟩ <;> first | (simp only [lenC, lenN] at hlo hhi; omega) | (refine ⟨_, rfl, ?_⟩; refine xo_mv rfl rfl rfl ?_; exact xo_fin rfl)
   refine DrawE.pure 0 2 rfl (.inr (by decide)) (fun L g hg hd => Nat.zero_le _) (fun g hlo hhi hF τ => ?_) ?_
   · rcases g with _ | ⟨a0, _ | ⟨a1, _ | ⟨a2, _ | ⟨a3, g⟩⟩⟩⟩ <;> first | (simp only [lenC, lenN] at hlo hhi; omega) | (refine ⟨_, rfl, ?_⟩; refine xo_mv rfl rfl rfl ?_; exact xo_fin rfl)
   refine DrawE.pure 0 1 rfl (.inr (by decide)) (fun L g hg hd => Nat.zero_le _) (fun g hlo hhi hF τ => ?_) ?_
   · rcases g with _ | ⟨a0, _ | ⟨a1, _ | ⟨a2, _ | ⟨a3, g⟩⟩⟩⟩ <;> first | (simp only [lenC, lenN] at hlo hhi; omega) | (refine ⟨_, rfl, ?_⟩; refine xo_callB (fs := []) (cs := []) rfl rfl rfl span_enters rfl (fun w1 hw1 => span_calls at_ at_ w1) ?_; exact xo_fin rfl)
   refine DrawE.pure 0 0 rfl (.inr (by decide)) (fun L g hg hd => Nat.zero_le _) (fun g hlo hhi hF τ => ?_) ?_
   · rcases g with _ | ⟨a0, _ | ⟨a1, _ | ⟨a2, _ | ⟨a3, g⟩⟩⟩⟩ <;> first | (simp only [lenC, lenN] at hlo hhi; omega) | (refine ⟨_, rfl, ?_⟩; refine xo_build TB_ rfl rfl rfl rfl rfl ?_; exact xo_fin rfl)
   refine DrawE.eff 0 rfl (by decide) rfl (fun j hj => hj) (fun j g a hj => ?_) (fun L g hg hd => Nat.zero_le _) (fun g hgl hF τ => ?_) ?_
   · rcases j with _ | _ | _ | _ | _ | _ | _ | _ | _ | _ | _ | _ | j
     all_goals first | rfl | (rcases g with _ | ⟨a0, _ | ⟨a1, _ | ⟨a2, _ | ⟨a3, g⟩⟩⟩⟩ <;> first | rfl | exact absurd hj (by decide) | exact absurd hj (by simp [List.getD]))
   · obtain rfl : g = [] := by
       rcases g with _ | ⟨a0, g⟩ <;> first | rfl | (exfalso; simp only [List.length_cons, List.length_nil] at hgl; omega)
     refine xo_bsG T_ 7 rfl rfl rfl rfl rfl rfl rfl rfl rfl rfl (fun b99 => ?_)
     exact xo_finE ⟨b99, 0, none⟩ rfl trivial
   refine DrawE.eff 1 rfl (by decide) rfl (fun j hj => hj) (fun j g a hj => ?_) (fun L g hg hd => hg.2.1 8 (hd 8 (by decide))) (fun g hgl hF τ => ?_) ?_
   · rcases j with _ | _ | _ | _ | _ | _ | _ | _ | _ | _ | _ | _ | j
     all_goals first | rfl | (rcases g with _ | ⟨a0, _ | ⟨a1, _ | ⟨a2, _ | ⟨a3, g⟩⟩⟩⟩ <;> first | rfl | exact absurd hj (by decide) | exact absurd hj (by simp [List.getD]))
   · obtain ⟨a0, rfl⟩ : ∃ a0, g = [a0] := by
       rcases g with _ | ⟨a0, _ | ⟨a1, _ | ⟨a2, _ | ⟨a3, g⟩⟩⟩⟩ <;> first | exact ⟨_, rfl⟩ | rfl | (exfalso; simp only [List.length_cons, List.length_nil] at hgl; omega)
     refine xo_app TR_ (r := some (dm, lm)) (m := ls.length) (xs := marL ls) (η0 := [(b15, true, cel (scnV R (some ⟨dg, 0, none⟩) gs.length lg E (some ⟨dm, 0, none⟩) ls.length lm) 25), (dg, true, orow 52 4 gs.length lg (gatL gs))]) rfl rfl rfl rfl rfl rfl rfl rfl (marL_len ls) rfl rfl (fun h => by cases h) (by omega) rfl rfl (fun r99 hr99 => ?_)
     rcases r99 with _ | ⟨b99, k99⟩
     · exact absurd rfl hr99
     exact xo_finE ⟨b99, k99, none⟩ rfl trivial
   refine DrawE.pure 2 2 rfl (.inr (by decide)) (fun L g hg hd => hg.2.1 9 (hd 9 (by decide))) (fun g hlo hhi hF τ => ?_) ?_
   · rcases g with _ | ⟨a0, _ | ⟨a1, _ | ⟨a2, _ | ⟨a3, g⟩⟩⟩⟩ <;> first | (simp only [lenC, lenN] at hlo hhi; omega) | (refine ⟨_, rfl, ?_⟩; refine xo_fa T_ rfl rfl rfl rfl rfl ?_; exact xo_fin rfl)
   refine DrawE.eff 2 rfl (by decide) rfl (fun j hj => hj) (fun j g a hj => ?_) (fun L g hg hd => hg.2.1 10 (hd 10 (by decide))) (fun g hgl hF τ => ?_) ?_
   · rcases j with _ | _ | _ | _ | _ | _ | _ | _ | _ | _ | _ | _ | j
     all_goals first | rfl | (rcases g with _ | ⟨a0, _ | ⟨a1, _ | ⟨a2, _ | ⟨a3, g⟩⟩⟩⟩ <;> first | rfl | exact absurd hj (by decide) | exact absurd hj (by simp [List.getD]))
   · obtain ⟨a0, a1, rfl⟩ : ∃ a0 a1, g = [a0, a1] := by
       rcases g with _ | ⟨a0, _ | ⟨a1, _ | ⟨a2, _ | ⟨a3, g⟩⟩⟩⟩ <;> first | exact ⟨_, _, rfl⟩ | rfl | (exfalso; simp only [List.length_cons, List.length_nil] at hgl; omega)
     refine xo_store T_ rfl rfl rfl rfl (by repeat first | exact memH | apply memT | apply memA) rfl rfl rfl rfl (by repeat (first | exact Upd.head | apply Upd.tail | apply Upd.app)) rfl ?_
     exact xo_finE ⟨0, 0, none⟩ rfl trivial
   exact DrawE.nil
 intro g hgl hF
 obtain ⟨a0, a1, a2, rfl⟩ : ∃ a0 a1 a2, g = [a0, a1, a2] := by
   rcases g with _ | ⟨a0, _ | ⟨a1, _ | ⟨a2, _ | ⟨a3, g⟩⟩⟩⟩ <;> first | exact ⟨_, _, _, rfl⟩ | (exfalso; simp only [List.length_cons, List.length_nil] at hgl; omega)
 with_reducible (repeat (first | refine xqT ?_ | refine xqB ?_ | refine xqS ?_))
 refine xc_slots [(7, .bool true), (8, .int .i64 room), (9, .int .i64 at_), (15, .pointer (some ⟨b15, 0, none⟩))] ⟨rfl, rfl, rfl, rfl, trivial⟩ ?_
 refine xc_sub (η' := [(a1.b, true, orow 56 7 (ls.length + 1) a1.c (marL ls ++ marV (⟨id, 1, room, 0, ⟨at_, at_⟩, 0⟩ : MarT))), (b15, true, cel [.int .i64 R, .slice (some ⟨dg, 0, none⟩) gs.length lg, .int .i64 E, .slice (some ⟨a1.b, 0, none⟩) (ls.length + 1) a1.c] 25), (dg, true, orow 52 4 gs.length lg (gatL gs))]) (List.Sublist.refl _) ?_
 rw [← marL_app, hl1]
 have hbt : BytesK (ls ++ [(⟨id, 1, room, 0, ⟨at_, at_⟩, 0⟩ : MarT)]) := fun m hm => by
   rcases List.mem_append.1 hm with hm | hm
   · exact hk m (hls.subset hm)
   · rw [List.mem_singleton.1 hm]; simp only; omega
 have hll : (ls ++ [(⟨id, 1, room, 0, ⟨at_, at_⟩, 0⟩ : MarT)]).length ≤ 1000000 := by rw [← hl1]; omega
 have hcm := fun (h : sceneF R E gs (ls ++ [(⟨id, 1, room, 0, ⟨at_, at_⟩, 0⟩ : MarT)]) = true) => clock_minutes h hrOK
 generalize hM : ls ++ [(⟨id, 1, room, 0, ⟨at_, at_⟩, 0⟩ : MarT)] = M at hbt hll hcm ⊢
 have hown : ∀ {η : Hp} {w1 : World}, WOK w XNone η w1 → (dg, true, orow 52 4 gs.length lg (gatL gs)) ∈ η → (a1.b, true, orow 56 7 M.length a1.c (marL M)) ∈ η → SceneAt w1 (some ⟨dg, 0, none⟩) (some ⟨a1.b, 0, none⟩) gs M := fun {η w1} hw1 m1 m2 => own_scene hw1 (by omega) hll hbt (hglob.below hw1.kx.below) m1 m2
 cases hrd : sceneF R E gs M
 · with_reducible repeat refine xc_seq ?_
   with_reducible refine xcR ?_
   refine xo_loadN T_ rfl rfl rfl (by repeat first | exact memH | apply memT | apply memA) rfl rfl ?_
   refine xo_callB (fs := []) (cs := []) rfl rfl rfl ready_enters rfl (fun w1 hw1 => ready_calls R E _ _ lg a1.c gs M w1 (gat_row (hown hw1 (by repeat first | exact memH | apply memT | apply memA) (by repeat first | exact memH | apply memT | apply memA)).gates) (mar_row (hown hw1 (by repeat first | exact memH | apply memT | apply memA) (by repeat first | exact memH | apply memT | apply memA)).marks)) ?_
   refine xo_as (i := 106) rfl (congrArg Value.bool hrd) ?_
   refine xo_notOp rfl rfl rfl ?_
   with_reducible (refine xo_nil ?_; (repeat (first | refine xqT ?_ | refine xqB ?_ | refine xqS ?_)); (repeat refine xc_seq ?_))
   refine xc_condT rfl ?_
   with_reducible ((repeat refine xc_seq ?_); refine xcR ?_)
   refine xo_mv rfl rfl rfl ?_
   refine xo_asg rfl rfl rfl ?_
   with_reducible (refine xo_nil ?_; (repeat (first | refine xqT ?_ | refine xqB ?_ | refine xqS ?_)); (repeat refine xc_seq ?_); refine xc_ret ?_; (repeat (first | refine xq_thenR ?_ | refine xq_blockR ?_ | refine xq_scopeR ?_)))
   exact xq_ret1 rfl rfl fun w' hw => ⟨rfl, hw.kx.below⟩
 with_reducible ((repeat refine xc_seq ?_); refine xcR ?_)
 refine xo_loadN T_ rfl rfl rfl (by repeat first | exact memH | apply memT | apply memA) rfl rfl ?_
 refine xo_callB (fs := []) (cs := []) rfl rfl rfl ready_enters rfl (fun w1 hw1 => ready_calls R E _ _ lg a1.c gs M w1 (gat_row (hown hw1 (by repeat first | exact memH | apply memT | apply memA) (by repeat first | exact memH | apply memT | apply memA)).gates) (mar_row (hown hw1 (by repeat first | exact memH | apply memT | apply memA) (by repeat first | exact memH | apply memT | apply memA)).marks)) ?_
 refine xo_as (i := 106) rfl (congrArg Value.bool hrd) ?_
 refine xo_notOp rfl rfl rfl ?_
 with_reducible (refine xo_nil ?_; (repeat (first | refine xqT ?_ | refine xqB ?_ | refine xqS ?_)); (repeat refine xc_seq ?_))
 refine xc_condF rfl ?_
 with_reducible (refine xc_skip ?_; (repeat (first | refine xqT ?_ | refine xqB ?_ | refine xqS ?_)))
 obtain ⟨hcm, hcC⟩ := hcm hrd
 with_reducible ((repeat refine xc_seq ?_); refine xcR ?_)
 refine xo_loadN T_ rfl rfl rfl (by repeat first | exact memH | apply memT | apply memA) rfl rfl ?_
 refine xo_mv rfl rfl rfl ?_
 refine xo_call (fs := []) (cs := []) rfl rfl rfl Minutes_enters rfl (fun w1 hw1 => (Minutes_calls R E _ _ lg a1.c gs M room w1 (hown hw1 (by repeat first | exact memH | apply memT | apply memA) (by repeat first | exact memH | apply memT | apply memA))).mono ?_)
 rw [hcC]
 rintro e w2 ⟨r18, rfl, hrw, hb⟩
 have hh18 := hrw.1
 refine ⟨_, _, rfl, hw1.rowZ hb hrw, ?_⟩
 clear hrw hb hw1
 refine xo_mv rfl rfl rfl ?_
 refine xo_ext rfl rfl rfl rfl ?_
 refine xo_ext rfl rfl rfl rfl ?_
 refine xo_asg rfl rfl rfl ?_
 refine xo_asg rfl rfl rfl ?_
 with_reducible (refine xo_nil ?_; (repeat (first | refine xqT ?_ | refine xqB ?_ | refine xqS ?_)))
 rcases hcm with hcm | hcm
 · rw [hcm] at hh18 ⊢
   refine xc_slots [(7, .bool true), (9, .int .i64 at_), (18, .slice (valA r18) ([] : List SpaT).length (valC r18)), (19, .int .i64 0)] ⟨rfl, rfl, congrArg some (valR_eq hh18), rfl, trivial⟩ ?_
   with_reducible (repeat refine xc_seq ?_)
   apply xc_drawN
   · exact T_.mixed
   · rfl
   · rfl
   · rfl
   · rfl
   · apply DrawOps.cons
     · intro τ
       refine xo_mv rfl rfl rfl ?_
       exact xo_fin rfl
     apply DrawOps.cons
     · intro τ
       refine xo_mv rfl rfl rfl ?_
       exact xo_fin rfl
     apply DrawOps.cons
     · intro τ
       (first | refine xo_not rfl rfl ?_ | (refine xo_mv rfl rfl rfl ?_))
       exact xo_fin rfl
     apply DrawOps.cons
     · intro τ
       (first | refine xo_not rfl rfl ?_ | (refine xo_eql rfl rfl rfl rfl ?_))
       exact xo_fin rfl
     apply DrawOps.cons
     · intro τ
       first | refine xo_pickT rfl rfl rfl rfl ?_ | refine xo_pickF rfl rfl rfl rfl ?_
       exact xo_fin rfl
     apply DrawOps.cons
     · intro τ
       refine xo_mv rfl rfl rfl ?_
       exact xo_fin rfl
     apply DrawOps.cons
     · intro τ
       (first | refine xo_not rfl rfl ?_ | (refine xo_mv rfl rfl rfl ?_))
       exact xo_fin rfl
     apply DrawOps.cons
     · intro τ
       (first | refine xo_not rfl rfl ?_ | (refine xo_len T_ rfl rfl rfl rfl ?_))
       exact xo_fin rfl
     apply DrawOps.cons
     · intro τ
       (first | refine xo_not rfl rfl ?_ | (refine xo_eql rfl rfl rfl rfl ?_))
       exact xo_fin rfl
     apply DrawOps.cons
     · intro τ
       (first | refine xo_not rfl rfl ?_ | (refine xo_mv rfl rfl rfl ?_))
       exact xo_fin rfl
     apply DrawOps.cons
     · intro τ
       (first | refine xo_not rfl rfl ?_ | (refine xo_mv rfl rfl rfl ?_))
       exact xo_fin rfl
     apply DrawOps.cons
     · intro τ
       (first | refine xo_not rfl rfl ?_ | (refine xo_len T_ rfl rfl rfl rfl ?_))
       exact xo_fin rfl
     apply DrawOps.cons
     · intro τ
       (first | refine xo_not rfl rfl ?_ | (refine xo_eql rfl rfl rfl rfl ?_))
       exact xo_fin rfl
     apply DrawOps.cons
     · intro τ
       (first | refine xo_not rfl rfl ?_ | (refine xo_mv rfl rfl rfl ?_))
       exact xo_fin rfl
     apply DrawOps.cons
     · intro τ
       (first | refine xo_not rfl rfl ?_ | (refine xo_mv rfl rfl rfl ?_))
       exact xo_fin rfl
     apply DrawOps.cons
     · intro τ
       (first | refine xo_not rfl rfl ?_ | (refine xo_ia T_ rfl rfl rfl rfl rfl ⟨by omega, by omega⟩ rfl ?_))
       exact xo_fin rfl
     apply DrawOps.cons
     · intro τ
       (first | refine xo_not rfl rfl ?_ | (refine xo_loadRN T_ rfl rfl rfl (by assumption) rfl rfl ?_))
       exact xo_fin rfl
     apply DrawOps.cons
     · intro τ
       (first | refine xo_not rfl rfl ?_ | (refine xo_mv rfl rfl rfl ?_))
       exact xo_fin rfl
     apply DrawOps.cons
     · intro τ
       (first | refine xo_not rfl rfl ?_ | (refine xo_mv rfl rfl rfl ?_))
       exact xo_fin rfl
     apply DrawOps.cons
     · intro τ
       (first | refine xo_not rfl rfl ?_ | (fail "NO RULE: Op.call -19"))
       exact xo_fin rfl
     apply DrawOps.cons
     · intro τ
       (first | refine xo_not rfl rfl ?_ | (refine xo_eql rfl rfl rfl rfl ?_))
       exact xo_fin rfl
     apply DrawOps.cons
     · intro τ
       (first | refine xo_not rfl rfl ?_ | (first | refine xo_pickT rfl rfl rfl rfl ?_ | refine xo_pickF rfl rfl rfl rfl ?_))
       exact xo_fin rfl
     apply DrawOps.cons
     · intro τ
       (first | refine xo_not rfl rfl ?_ | (first | refine xo_pickT rfl rfl rfl rfl ?_ | refine xo_pickF rfl rfl rfl rfl ?_))
       exact xo_fin rfl
     apply DrawOps.cons
     · intro τ
       first | refine xo_pickT rfl rfl rfl rfl ?_ | refine xo_pickF rfl rfl rfl rfl ?_
       exact xo_fin rfl
     apply DrawOps.cons
     · intro τ
       refine xo_asg rfl rfl rfl ?_
       exact xo_fin rfl
     exact DrawOps.nil
   · rfl
   with_reducible ((repeat (first | refine xqT ?_ | refine xqB ?_ | refine xqS ?_)); (repeat refine xc_seq ?_); refine xc_ret ?_; (repeat (first | refine xq_thenR ?_ | refine xq_blockR ?_ | refine xq_scopeR ?_)))
   exact xq_ret1 rfl rfl fun w' hw => ⟨rfl, hw.kx.below⟩
 · rw [hcm] at hh18 ⊢
   rcases r18 with _ | ⟨sb, sc⟩
   · exact absurd (hh18 rfl) (by simp)
   refine xc_slots [(7, .bool true), (9, .int .i64 at_), (18, .slice (some ⟨sb, 0, none⟩) ([⟨at_, at_⟩] : List SpaT).length sc), (19, .int .i64 0)] ⟨rfl, rfl, rfl, rfl, trivial⟩ ?_
   refine xc_sub (η' := hpR 45 2 (some (sb, sc)) ([⟨at_, at_⟩] : List SpaT).length (spaL [⟨at_, at_⟩])) (List.sublist_append_left _ _) ?_
   refine xc_anew fun w3 hw3 => ?_
   obtain ⟨ad, e1, hRO⟩ := spansAt_row (r := some (sb, sc)) (xs := [⟨at_, at_⟩]) (hw3.bl_of fun e he => he) (fun q => by cases q) 0 (by simp)
   obtain rfl := Option.some.inj e1
   with_reducible (repeat refine xc_seq ?_)
   apply xc_drawN
   · exact T_.mixed
   · rfl
   · rfl
   · rfl
   · rfl
   · apply DrawOps.cons
     · intro τ
       refine xo_mv rfl rfl rfl ?_
       exact xo_fin rfl
     apply DrawOps.cons
     · intro τ
       refine xo_mv rfl rfl rfl ?_
       exact xo_fin rfl
     apply DrawOps.cons
     · intro τ
       (first | refine xo_not rfl rfl ?_ | (refine xo_mv rfl rfl rfl ?_))
       exact xo_fin rfl
     apply DrawOps.cons
     · intro τ
       (first | refine xo_not rfl rfl ?_ | (refine xo_eql rfl rfl rfl rfl ?_))
       exact xo_fin rfl
     apply DrawOps.cons
     · intro τ
       first | refine xo_pickT rfl rfl rfl rfl ?_ | refine xo_pickF rfl rfl rfl rfl ?_
       exact xo_fin rfl
     apply DrawOps.cons
     · intro τ
       refine xo_mv rfl rfl rfl ?_
       exact xo_fin rfl
     apply DrawOps.cons
     · intro τ
       (first | refine xo_not rfl rfl ?_ | (refine xo_mv rfl rfl rfl ?_))
       exact xo_fin rfl
     apply DrawOps.cons
     · intro τ
       (first | refine xo_not rfl rfl ?_ | (refine xo_len T_ rfl rfl rfl rfl ?_))
       exact xo_fin rfl
     apply DrawOps.cons
     · intro τ
       (first | refine xo_not rfl rfl ?_ | (refine xo_eql rfl rfl rfl rfl ?_))
       exact xo_fin rfl
     apply DrawOps.cons
     · intro τ
       (first | refine xo_not rfl rfl ?_ | (refine xo_mv rfl rfl rfl ?_))
       exact xo_fin rfl
     apply DrawOps.cons
     · intro τ
       (first | refine xo_not rfl rfl ?_ | (refine xo_mv rfl rfl rfl ?_))
       exact xo_fin rfl
     apply DrawOps.cons
     · intro τ
       (first | refine xo_not rfl rfl ?_ | (refine xo_len T_ rfl rfl rfl rfl ?_))
       exact xo_fin rfl
     apply DrawOps.cons
     · intro τ
       (first | refine xo_not rfl rfl ?_ | (refine xo_eql rfl rfl rfl rfl ?_))
       exact xo_fin rfl
     apply DrawOps.cons
     · intro τ
       (first | refine xo_not rfl rfl ?_ | (refine xo_mv rfl rfl rfl ?_))
       exact xo_fin rfl
     apply DrawOps.cons
     · intro τ
       (first | refine xo_not rfl rfl ?_ | (refine xo_mv rfl rfl rfl ?_))
       exact xo_fin rfl
     apply DrawOps.cons
     · intro τ
       (first | refine xo_not rfl rfl ?_ | (refine xo_ia T_ (i := 0) rfl rfl rfl rfl rfl ⟨by omega, by simp⟩ rfl ?_))
       exact xo_fin rfl
     apply DrawOps.cons
     · intro τ
       (first | refine xo_not rfl rfl ?_ | (refine xo_loadRN T_ rfl rfl rfl hRO rfl rfl ?_))
       exact xo_fin rfl
     apply DrawOps.cons
     · intro τ
       (first | refine xo_not rfl rfl ?_ | (refine xo_mv rfl rfl rfl ?_))
       exact xo_fin rfl
     apply DrawOps.cons
     · intro τ
       (first | refine xo_not rfl rfl ?_ | (refine xo_mv rfl rfl rfl ?_))
       exact xo_fin rfl
     apply DrawOps.cons
     · intro τ
       (first | refine xo_not rfl rfl ?_ | (refine xo_callB (fs := []) (cs := []) rfl rfl rfl span_enters rfl (fun w1 hw1 => span_calls at_ at_ w1) ?_))
       exact xo_fin rfl
     apply DrawOps.cons
     · intro τ
       (first | refine xo_not rfl rfl ?_ | (refine xo_eqlV rfl rfl rfl (fun w1 => spa_eql _ _ ⟨at_, at_⟩ w1) rfl ?_))
       exact xo_fin rfl
     apply DrawOps.cons
     · intro τ
       (first | refine xo_not rfl rfl ?_ | (first | refine xo_pickT rfl rfl rfl rfl ?_ | refine xo_pickF rfl rfl rfl rfl ?_))
       exact xo_fin rfl
     apply DrawOps.cons
     · intro τ
       (first | refine xo_not rfl rfl ?_ | (first | refine xo_pickT rfl rfl rfl rfl ?_ | refine xo_pickF rfl rfl rfl rfl ?_))
       exact xo_fin rfl
     apply DrawOps.cons
     · intro τ
       first | refine xo_pickT rfl rfl rfl rfl ?_ | refine xo_pickF rfl rfl rfl rfl ?_
       exact xo_fin rfl
     apply DrawOps.cons
     · intro τ
       refine xo_asg rfl rfl rfl ?_
       exact xo_fin rfl
     exact DrawOps.nil
   · rfl
   with_reducible ((repeat (first | refine xqT ?_ | refine xqB ?_ | refine xqS ?_)); (repeat refine xc_seq ?_); refine xc_ret ?_; (repeat (first | refine xq_thenR ?_ | refine xq_blockR ?_ | refine xq_scopeR ?_)))
   exact xq_ret1 rfl rfl fun w' hw => ⟨rfl, below_step hw3.kx.below hw.kx.below⟩
end Go.Proofs.YtommeljlfkmpjaaGreatDoor
namespace Go.Proofs.YtommeljlfkmpjaaGreatDoor
open Go.ChangeShapes Go.WideShapes Go.RowKit
set_option linter.unusedVariables false
set_option linter.unusedSimpArgs false
def laidL : List (String × DataW Unit) := [("cottonpad/origin.nowhere", Rows.laid_cottonpad_origin_nowhere)]
theorem gNow : Tryz.prog.globalNamed "cottonpad/origin.nowhere" = some 0 := by kernel_rfl
theorem tNow : (Tryz.prog.globals[0]?).map (·.type) = some 45 := by kernel_rfl
theorem door_met (os : Os) (args : Array Value) : laidMetH Tryz.prog laidL ((World.doorLaid Tryz.prog 400 os).forCall (fun _ _ => 0) ⟨#[], args, []⟩).memory :=
 laidMetH_of_parts3 (fuel := 8) (laidMet_of_run' 8 (by kernel_rfl) (by kernel_rfl)) (by kernel_rfl) (by kernel_rfl)
theorem trod_pair {P : Program} {H : Type} {enc : TypeId × Value → H} {w : World} {fuel : Nat} {bb : Bool} {t ta tb : TypeId} {f g : Field} {a b : Value} {d : DataW H} {ps : List MemPlace}
   (ht : P.underlying t = some (.struct #[f, g])) (h1 : f.type = ta) (h2 : f.offset = 0) (h3 : g.type = tb) (h4 : g.offset = 1) (hA : P.cellsOf ta = 1) (hB : P.cellsOf tb = 1)
   (h : DataW.trod enc P w 0 (fun _ => true) bb (fuel + 1) t [a, b] = some (d, ps)) :
   ∃ x y, DataW.trod enc P w 0 (fun _ => true) bb fuel ta [a] = some x ∧ DataW.trod enc P w 0 (fun _ => true) bb fuel tb [b] = some y ∧ d = .agg [x.1, y.1] := by
 unfold DataW.trod at h
 rw [ht] at h
 simp only [List.length_cons, List.length_nil] at h
 split at h
 · simp only [List.mapM_cons, List.mapM_nil, h1, h2, h3, h4, hA, hB, List.drop_zero, List.take_succ_cons, List.take_zero, List.drop_succ_cons, Option.map_eq_some_iff] at h
   obtain ⟨xs, h, e⟩ := h
   cases hx : DataW.trod enc P w 0 (fun _ => true) bb fuel ta [a] with
   | none => simp [hx] at h
   | some x =>
     cases hy : DataW.trod enc P w 0 (fun _ => true) bb fuel tb [b] with
     | none => simp [hx, hy] at h
     | some y =>
       simp [hx, hy] at h
       subst h
       simp at e
       exact ⟨x, y, rfl, rfl, e.1.symm⟩
 · simp at h
theorem trod_lenS {P : Program} {H : Type} {enc : TypeId × Value → H} {w : World} {fuel : Nat} {bb : Bool} {t : TypeId} {fs : Array Field} {l : List Value} {x : DataW H × List MemPlace}
   (ht : P.underlying t = some (.struct fs)) (h : DataW.trod enc P w 0 (fun _ => true) bb fuel t l = some x) : l.length = P.cellsOf t := by
 cases fuel with
 | zero => simp [DataW.trod] at h
 | succ m =>
   by_cases hl : l.length = P.cellsOf t
   · exact hl
   · exfalso
     unfold DataW.trod at h
     rw [ht] at h
     simp [hl] at h
theorem trod_int {P : Program} {H : Type} {enc : TypeId × Value → H} {w : World} {fuel : Nat} {bb : Bool} {t : TypeId} {k : IntKind} {a : Value} {n : Int} {ps : List MemPlace} (hu : P.underlying t = some (.int k))
   (h : DataW.trod enc P w 0 (fun _ => true) bb fuel t [a] = some (.lit (.int .i64 n), ps)) : a = .int .i64 n := by
 cases fuel with
 | zero => simp [DataW.trod] at h
 | succ fuel =>
   unfold DataW.trod at h
   rw [hu] at h
   split at h <;> simp_all
set_option maxRecDepth 100000 in
theorem glob_of_laid {W : World} (h : laidMetH Tryz.prog laidL W) : GlobO W := by
 have h' : laidMet Tryz.prog laidL W := h
 obtain ⟨ps, ⟨g, t, cs, fuel, p, q, hg, ht, hv, hd, _, _⟩, _, _⟩ := h'
 obtain rfl := Option.some.inj (gNow.symm.trans hg)
 obtain rfl := Option.some.inj (tNow.symm.trans ht)
 have hd' : DataW.trod (fun _ => ()) Tryz.prog W 0 (fun _ => true) false fuel 45 cs.toList = some (.agg [.lit (.int .i64 1073741824), .lit (.int .i64 (-1073741824))], p) := hd
 have hlen : cs.toList.length = 2 := (trod_lenS Tryz.underlying45 hd').trans (by kernel_rfl)
 obtain ⟨l⟩ := cs
 match l, hlen with
 | [a, b], _ =>
   cases fuel with
   | zero => simp [DataW.trod] at hd'
   | succ n =>
     obtain ⟨x, y, hx, hy, e⟩ := trod_pair (ta := 3) (tb := 3) Tryz.underlying45 rfl rfl rfl rfl (by kernel_rfl) (by kernel_rfl) hd'
     simp only [DataW.agg.injEq, List.cons.injEq, and_true] at e
     obtain ⟨x1, x2⟩ := x
     obtain ⟨y1, y2⟩ := y
     simp only at e
     obtain ⟨rfl, rfl⟩ := e
     obtain rfl := trod_int Tryz.underlying3 hx
     obtain rfl := trod_int Tryz.underlying3 hy
     unfold World.var? at hv
     rw [gNow] at hv
     simp only [Option.bind_some] at hv
     cases hh : W.heap[0]? with
     | none => simp [hh] at hv
     | some o =>
       cases o <;> simp [hh] at hv
       subst hv
       refine ro_of fun j v hj => ?_
       rw [Addr.add_lit, Nat.zero_add]
       unfold World.cell?
       rw [hh]
       have hj' : ([.int .i64 1073741824, .int .i64 (-1073741824)] : List Value)[j]? = some v := hj
       simpa using hj'
end Go.Proofs.YtommeljlfkmpjaaGreatDoor
