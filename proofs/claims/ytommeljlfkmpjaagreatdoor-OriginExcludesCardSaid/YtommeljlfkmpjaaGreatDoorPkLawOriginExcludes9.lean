/- ref09: within, Great, comparisons. / ref09: mark, Scene, Check, every, members, shorter. / ref09: Scene, Check, Same, Twin, every. / ref09: Check, Same, Twin, members, shorter, least, next. -/
import Derived.Test.YtommeljlfkmpjaaGreatDoorPkLawOriginExcludes8
namespace Go.Proofs.YtommeljlfkmpjaaGreatDoor
open Go.RowKit Go.Proofs.YtommeljlfkmpjaaGreatDoorW.PrintWords
set_option linter.unusedVariables false
set_option linter.unusedSimpArgs false
theorem within_calls (n lo hi : Int) (w : World) : Calls Tryz.prog 40 #[.int .i64 n, .int .i64 lo, .int .i64 hi] w fun e w' => e = .returned (.bool (inF lo hi n)) ∧ Below w.heap.size w w' := by
 refine x_calls (X := XNone) Tryz.func40 rfl rfl rfl ?_
 with_reducible ((repeat refine xc_seq ?_); refine xcR ?_)
 refine xo_asg rfl rfl rfl ?_
 with_reducible (refine xo_nil ?_; (repeat (first | refine xqT ?_ | refine xqB ?_ | refine xqS ?_)); (repeat refine xc_seq ?_))
 refine xc_meet2 (γ := Unit) (fun _ => True) (fun _ => [(6, .bool (inF lo hi n))]) (fun _ => []) ?_ (fun _ _ => ?_)
 · with_reducible refine xcR ?_
   refine xo_mv rfl rfl rfl ?_
   refine xo_mv rfl rfl rfl ?_
   refine xo_geq rfl rfl rfl rfl ?_
   refine xo_mv rfl rfl rfl ?_
   first
     | refine xo_lit (i := 10) (b := true) rfl ?_
     | refine xo_lit (i := 10) (b := false) rfl ?_
     | refine xo_split (i := 10) rfl rfl (fun h10 => ?_) (fun h10 => ?_)
   all_goals
     try simp only [decide_eq_true_eq, decide_eq_false_iff_not] at h10
     (first | refine xo_not rfl rfl ?_ | (refine xo_mv rfl rfl rfl ?_))
     (first | refine xo_not rfl rfl ?_ | (refine xo_mv rfl rfl rfl ?_))
     (first | refine xo_not rfl rfl ?_ | (refine xo_leq rfl rfl rfl rfl ?_))
     first | refine xo_pickT rfl rfl rfl rfl ?_ | refine xo_pickF rfl rfl rfl rfl ?_
     refine xo_asg rfl rfl rfl ?_
     with_reducible refine xo_nil ?_
     exact xq_meet (fun _ => True) _ _ () trivial ⟨(by first | rfl | exact congrArg (fun b => some (Value.bool b)) (by first | simp [h10, inF] | simp [inF])), trivial⟩ (by repeat (first | exact List.Sublist.refl _ | apply List.Sublist.cons_cons | apply List.Sublist.cons | exact List.nil_sublist _))
 with_reducible ((repeat (first | refine xqT ?_ | refine xqB ?_ | refine xqS ?_)); (repeat refine xc_seq ?_); refine xc_ret ?_; (repeat (first | refine xq_thenR ?_ | refine xq_blockR ?_ | refine xq_scopeR ?_)))
 exact xq_ret1 rfl rfl fun w' hw => ⟨rfl, hw.kx.below⟩
theorem within_enters : ∀ args w, (callFunc 40 args).run Tryz.prog w = .ok (.enter 40 args) w := enters_of Tryz.func40 (by kernel_rfl) rfl
def greatF (gs : List GatT) (ms : List MarT) : Bool := decide ((10 : Int) < gs.length) || decide ((12 : Int) < ms.length)
theorem great_calls (R E : Int) (A B : Option Addr) (c c2 : Nat) (gs : List GatT) (ms : List MarT) (w : World) : Calls Tryz.prog 12 #[.agg (scnV R A gs.length c E B ms.length c2).toArray] w fun e w' => e = .returned (.bool (greatF gs ms)) ∧ Below w.heap.size w w' := by
 refine x_calls (X := XNone) Tryz.func12 rfl rfl rfl ?_
 with_reducible ((repeat refine xc_seq ?_); refine xcR ?_)
 refine xo_box rfl rfl rfl rfl (fun b1 => ?_)
 refine xo_asg rfl rfl rfl ?_
 with_reducible (refine xo_nil ?_; (repeat (first | refine xqT ?_ | refine xqB ?_ | refine xqS ?_)); (repeat refine xc_seq ?_))
 refine xc_meet2 (γ := Unit) (fun _ => True) (fun _ => [(2, .bool (greatF gs ms))]) (fun _ => []) ?_ (fun _ _ => ?_)
 · with_reducible refine xcR ?_
   refine xo_fa T_ rfl rfl rfl rfl rfl ?_
   refine xo_load0 T_ (cs := scnV R A gs.length c E B ms.length c2) rfl rfl rfl (List.Mem.head _) rfl rfl ?_
   refine xo_len T_ rfl rfl rfl rfl ?_
   refine xo_gtr rfl rfl rfl rfl ?_
   refine xo_mv rfl rfl rfl ?_
   first
     | refine xo_lit (i := 7) (b := true) rfl ?_
     | refine xo_lit (i := 7) (b := false) rfl ?_
     | refine xo_split (i := 7) rfl rfl (fun h7 => ?_) (fun h7 => ?_)
   all_goals
     try simp only [decide_eq_true_eq, decide_eq_false_iff_not] at h7
     (first | refine xo_not rfl rfl ?_ | (refine xo_fa T_ rfl rfl rfl rfl rfl ?_))
     (first | refine xo_not rfl rfl ?_ | (refine xo_load0 T_ (cs := scnV R A gs.length c E B ms.length c2) rfl rfl rfl (List.Mem.head _) rfl rfl ?_))
     (first | refine xo_not rfl rfl ?_ | (refine xo_len T_ rfl rfl rfl rfl ?_))
     (first | refine xo_not rfl rfl ?_ | (refine xo_gtr rfl rfl rfl rfl ?_))
     first | refine xo_pickT rfl rfl rfl rfl ?_ | refine xo_pickF rfl rfl rfl rfl ?_
     refine xo_asg rfl rfl rfl ?_
     with_reducible refine xo_nil ?_
     exact xq_meet (fun _ => True) _ _ () trivial ⟨(by first | rfl | exact congrArg (fun b => some (Value.bool b)) (by first | simp [h7, greatF] | simp [greatF])), trivial⟩ (by repeat (first | exact List.Sublist.refl _ | apply List.Sublist.cons_cons | apply List.Sublist.cons | exact List.nil_sublist _))
 with_reducible ((repeat (first | refine xqT ?_ | refine xqB ?_ | refine xqS ?_)); (repeat refine xc_seq ?_); refine xc_ret ?_; (repeat (first | refine xq_thenR ?_ | refine xq_blockR ?_ | refine xq_scopeR ?_)))
 exact xq_ret1 rfl rfl fun w' hw => ⟨rfl, hw.kx.below⟩
theorem great_enters : ∀ args w, (callFunc 12 args).run Tryz.prog w = .ok (.enter 12 args) w := enters_of Tryz.func12 (by kernel_rfl) rfl
/-! ### comparisons -/
def spaE (x y : SpaT) : Bool := decide (x.f0 = y.f0) && decide (x.f1 = y.f1)
def gatE (x y : GatT) : Bool := decide (x.f0 = y.f0) && decide (x.f1 = y.f1) && spaE x.f2 y.f2
def marE (x y : MarT) : Bool := decide (x.f0 = y.f0) && decide (x.f1 = y.f1) && decide (x.f2 = y.f2) && decide (x.f3 = y.f3) && spaE x.f4 y.f4 && decide (x.f5 = y.f5)
theorem spaE_iff {x y : SpaT} : spaE x y = true ↔ x = y := by
 obtain ⟨a, b⟩ := x
 obtain ⟨c, d⟩ := y
 simp [spaE]
theorem gatE_iff {x y : GatT} : gatE x y = true ↔ x = y := by
 obtain ⟨a, b, s⟩ := x
 obtain ⟨c, d, t⟩ := y
 simp [gatE, spaE_iff, and_assoc]
theorem marE_iff {x y : MarT} : marE x y = true ↔ x = y := by
 obtain ⟨a, b, c, d, s, e⟩ := x
 obtain ⟨a', b', c', d', s', e'⟩ := y
 simp [marE, spaE_iff, and_assoc]
theorem gat_ne (p q : Operand) (x y : GatT) (w : World) : (eqGuard .neq 52 p q (.agg (gatV x).toArray) (.agg (gatV y).toArray)).run Tryz.prog w = .ok () w ∧ (binOp .neq 52 (.agg (gatV x).toArray) (.agg (gatV y).toArray)).run Tryz.prog w = .ok (.bool (!gatE x y)) w := by
 obtain ⟨a, b, c, d⟩ := x
 obtain ⟨a', b', c', d'⟩ := y
 refine ⟨by simp only [gatV]; go_simp, ?_⟩
 simp only [gatE, spaE, gatV]
 go_simp
 repeat' split
 all_goals simp_all
theorem mar_ne (p q : Operand) (x y : MarT) (w : World) : (eqGuard .neq 56 p q (.agg (marV x).toArray) (.agg (marV y).toArray)).run Tryz.prog w = .ok () w ∧ (binOp .neq 56 (.agg (marV x).toArray) (.agg (marV y).toArray)).run Tryz.prog w = .ok (.bool (!marE x y)) w := by
 obtain ⟨a, b, c, d, e, f⟩ := x
 obtain ⟨a', b', c', d', e', f'⟩ := y
 refine ⟨by simp only [marV]; go_simp, ?_⟩
 simp only [marE, spaE, marV]
 go_simp
 repeat' split
 all_goals simp_all
section
variable {P : Program} {ro : Option Nat} {n N : Nat} {ds : List Deferred} {w0 : World} {X : Nat → Prop} {Q : Exit → Act → World → Prop} {σ : Slots} {η : Hp} {ops rest : List Oper} {d : Option Tmp} {ty : TypeId} {pos : String} {aft : Array Edge} {g : Option (Nat × Bool)}
theorem xo_neqV {t t' : TypeId} {x y : Operand} {u v : Value} {r : Bool} (hg : gS ops σ g = some true) (hx : ev σ x = some u) (hy : ev σ y = some v) (he : ∀ w, (eqGuard .neq t x y u v).run P w = .ok () w ∧ (binOp .neq t u v).run P w = .ok (.bool r) w) (hN : dstOK N d = true)
   (h : XO P ro n N ds w0 X Q ops (putS d (.bool r) σ) η rest) : XO P ro n N ds w0 X Q ops σ η (⟨d, .binOp .neq t x y t', ty, pos, aft, g⟩ :: rest) :=
 xo_val _ rfl hg hN (fun _ w ha hw => by
   obtain ⟨h1, h2⟩ := he w
   simp [execOp, ha.ev hx, ha.ev hy, h1, h2]) h
end
theorem take_eq_succ {α : Type} {xs ys : List α} (z : α) {k : Nat} (h1 : k < xs.length) (h2 : k < ys.length) (h : xs.take k = ys.take k) (e : xs.getD k z = ys.getD k z) : xs.take (k + 1) = ys.take (k + 1) := by
 have a1 : xs.getD k z = xs[k] := by simp [List.getD_eq_getElem?_getD, List.getElem?_eq_getElem h1]
 have a2 : ys.getD k z = ys[k] := by simp [List.getD_eq_getElem?_getD, List.getElem?_eq_getElem h2]
 rw [List.take_add_one, List.take_add_one, List.getElem?_eq_getElem h1, List.getElem?_eq_getElem h2, h, ← a1, ← a2, e]
abbrev IntsAt (w : World) (A : Option Addr) (xs : List Int) : Prop := RowOf (fun x : Int => [Value.int .i64 x]) 0 0 w A xs
theorem sameInts_calls (A1 A2 : Option Addr) (c1 c2 : Nat) (xs ys : List Int) (w : World) (r1 : IntsAt w A1 xs) (r2 : IntsAt w A2 ys) (l1 : xs.length ≤ 1000000) :
   Calls Tryz.prog 18 #[.slice A1 xs.length c1, .slice A2 ys.length c2] w fun e w' => e = .returned (.bool (decide (xs = ys))) ∧ Below w.heap.size w w' := by
 refine x_calls (X := XNone) Tryz.func18 rfl rfl rfl ?_
 with_reducible ((repeat refine xc_seq ?_); refine xcR ?_)
 refine xo_asg rfl rfl rfl ?_
 with_reducible (refine xo_nil ?_; (repeat (first | refine xqT ?_ | refine xqB ?_ | refine xqS ?_)))
 cases hl : decide ((xs.length : Int) = ys.length)
 · have hne : ¬ xs = ys := fun e => (of_decide_eq_false hl) (by rw [e])
   with_reducible ((repeat refine xc_seq ?_); refine xcR ?_)
   refine xo_mv rfl rfl rfl ?_
   refine xo_len T_ rfl rfl rfl rfl ?_
   refine xo_mv rfl rfl rfl ?_
   refine xo_len T_ rfl rfl rfl rfl ?_
   refine xo_neq rfl rfl rfl rfl ?_
   refine xo_as (i := 10) rfl (congrArg (fun b => Value.bool !b) hl) ?_
   with_reducible (refine xo_nil ?_; (repeat (first | refine xqT ?_ | refine xqB ?_ | refine xqS ?_)); (repeat refine xc_seq ?_))
   refine xc_condT rfl ?_
   with_reducible ((repeat refine xc_seq ?_); refine xcR ?_)
   refine xo_asg rfl rfl rfl ?_
   with_reducible (refine xo_nil ?_; (repeat (first | refine xqT ?_ | refine xqB ?_ | refine xqS ?_)); (repeat refine xc_seq ?_); refine xc_ret ?_; (repeat (first | refine xq_thenR ?_ | refine xq_blockR ?_ | refine xq_scopeR ?_)))
   exact xq_ret1 rfl rfl fun w' hw => ⟨by rw [decide_eq_false hne], hw.kx.below⟩
 have hlen : xs.length = ys.length := by have := of_decide_eq_true hl; omega
 with_reducible ((repeat refine xc_seq ?_); refine xcR ?_)
 refine xo_mv rfl rfl rfl ?_
 refine xo_len T_ rfl rfl rfl rfl ?_
 refine xo_mv rfl rfl rfl ?_
 refine xo_len T_ rfl rfl rfl rfl ?_
 refine xo_neq rfl rfl rfl rfl ?_
 refine xo_as (i := 10) rfl (congrArg (fun b => Value.bool !b) hl) ?_
 with_reducible (refine xo_nil ?_; (repeat (first | refine xqT ?_ | refine xqB ?_ | refine xqS ?_)); (repeat refine xc_seq ?_))
 refine xc_condF rfl ?_
 with_reducible (refine xc_skip ?_; (repeat (first | refine xqT ?_ | refine xqB ?_ | refine xqS ?_)); (repeat refine xc_seq ?_); refine xcR ?_)
 refine xo_asg rfl rfl rfl ?_
 with_reducible (refine xo_nil ?_; (repeat (first | refine xqT ?_ | refine xqB ?_ | refine xqS ?_)); (repeat refine xc_seq ?_); refine xc_block ?_)
 refine xc_loop (γ := Nat) (fun k => k ≤ xs.length ∧ xs.take k = ys.take k) (fun k => [(0, .slice A1 xs.length c1), (1, .slice A2 ys.length c2), (5, .int .i64 (k : Int))]) (fun _ => []) (fun k => xs.length - k) 0 ⟨Nat.zero_le _, rfl⟩ ⟨rfl, rfl, rfl, trivial⟩ (List.nil_sublist _) ?_
 rintro k ⟨hk, heq⟩
 with_reducible ((repeat refine xc_seq ?_); refine xcR ?_)
 refine xo_mv rfl rfl rfl ?_
 refine xo_mv rfl rfl rfl ?_
 refine xo_len T_ rfl rfl rfl rfl ?_
 refine xo_lss rfl rfl rfl rfl ?_
 with_reducible (refine xo_nil ?_; (repeat (first | refine xqT ?_ | refine xqB ?_ | refine xqS ?_)); (repeat refine xc_seq ?_))
 refine xc_cond rfl (fun h => ?_) (fun h => ?_)
 · have hlt : k < xs.length := by have := of_decide_eq_true h; omega
   obtain ⟨ad1, rfl, q1⟩ := r1 k hlt
   obtain ⟨ad2, rfl, q2⟩ := r2 k (by omega)
   with_reducible (refine xc_skip ?_; (repeat (first | refine xqT ?_ | refine xqB ?_ | refine xqS ?_)); (repeat refine xc_seq ?_); refine xc_block ?_)
   refine xc_slots [(0, .slice (some ad1) xs.length c1), (1, .slice (some ad2) ys.length c2), (5, .int .i64 (k : Int))] ⟨rfl, rfl, rfl, trivial⟩ ?_
   with_reducible (repeat refine xc_seq ?_)
   apply xc_drawN
   · exact T_.mixed
   · rfl
   · rfl
   · rfl
   · rfl
   · apply DrawOps.cons
     · intro τ
       refine xo_mv rfl rfl rfl ?_
       exact xo_fin rfl
     apply DrawOps.cons
     · intro τ
       refine xo_mv rfl rfl rfl ?_
       exact xo_fin rfl
     apply DrawOps.cons
     · intro τ
       refine xo_ia T_ rfl rfl rfl rfl rfl ⟨by omega, by omega⟩ rfl ?_
       exact xo_fin rfl
     apply DrawOps.cons
     · intro τ
       refine xo_loadR0 T_ rfl rfl rfl q1 rfl ?_
       exact xo_fin rfl
     apply DrawOps.cons
     · intro τ
       refine xo_mv rfl rfl rfl ?_
       exact xo_fin rfl
     apply DrawOps.cons
     · intro τ
       refine xo_mv rfl rfl rfl ?_
       exact xo_fin rfl
     apply DrawOps.cons
     · intro τ
       refine xo_ia T_ rfl rfl rfl rfl rfl ⟨by omega, by omega⟩ rfl ?_
       exact xo_fin rfl
     apply DrawOps.cons
     · intro τ
       refine xo_loadR0 T_ rfl rfl rfl q2 rfl ?_
       exact xo_fin rfl
     apply DrawOps.cons
     · intro τ
       refine xo_neq rfl rfl rfl rfl ?_
       exact xo_fin rfl
     exact DrawOps.nil
   · rfl
   with_reducible ((repeat (first | refine xqT ?_ | refine xqB ?_ | refine xqS ?_)); (repeat refine xc_seq ?_))
   refine xc_cond rfl (fun h2 => ?_) (fun h2 => ?_)
   · have hne : xs.getD k 0 ≠ ys.getD k 0 := by simpa using h2
     with_reducible ((repeat refine xc_seq ?_); refine xcR ?_)
     refine xo_asg rfl rfl rfl ?_
     with_reducible (refine xo_nil ?_; (repeat (first | refine xqT ?_ | refine xqB ?_ | refine xqS ?_)); (repeat refine xc_seq ?_); refine xc_ret ?_; (repeat (first | refine xq_thenR ?_ | refine xq_blockR ?_ | refine xq_scopeR ?_)))
     exact xq_ret1 rfl rfl fun w' hw => ⟨by rw [decide_eq_false (fun e => hne (by rw [e]))], hw.kx.below⟩
   · have he : xs.getD k 0 = ys.getD k 0 := by simpa using h2
     with_reducible (refine xc_skip ?_; (repeat (first | refine xqT ?_ | refine xqB ?_ | refine xqS ?_)); (repeat refine xc_seq ?_); refine xcR ?_)
     refine xo_mv rfl rfl rfl ?_
     refine xo_add rfl rfl rfl (by omega) rfl ?_
     refine xo_asg rfl rfl rfl ?_
     with_reducible (refine xo_nil ?_; (repeat (first | refine xqT ?_ | refine xqB ?_ | refine xqS ?_)))
     exact xq_again _ _ _ _ _ (k + 1) ⟨hlt, take_eq_succ 0 hlt (by omega) heq he⟩ (by omega) ⟨rfl, rfl, rfl, trivial⟩ (List.nil_sublist _)
 have hge : k = xs.length := by have := of_decide_eq_false h; omega
 have hxy : xs = ys := by rwa [List.take_of_length_le (by omega), List.take_of_length_le (by omega)] at heq
 with_reducible (refine xc_exit ?_; (repeat (first | refine xq_blockX ?_ | refine xq_thenE ?_ | refine xq_blockE rfl ?_ | refine xq_scopeE ?_)); (repeat (first | refine xqT ?_ | refine xqB ?_ | refine xqS ?_)); (repeat refine xc_seq ?_); refine xcR ?_)
 refine xo_asg rfl rfl rfl ?_
 with_reducible (refine xo_nil ?_; (repeat (first | refine xqT ?_ | refine xqB ?_ | refine xqS ?_)); (repeat refine xc_seq ?_); refine xc_ret ?_; (repeat (first | refine xq_thenR ?_ | refine xq_blockR ?_ | refine xq_scopeR ?_)))
 exact xq_ret1 rfl rfl fun w' hw => ⟨by rw [decide_eq_true hxy], hw.kx.below⟩
theorem sameInts_enters : ∀ args w, (callFunc 18 args).run Tryz.prog w = .ok (.enter 18 args) w := enters_of Tryz.func18 (by kernel_rfl) rfl
open Classical in
noncomputable def eqL {α : Type} (x y : α) : Bool := decide (x = y)
theorem eqL_true {α : Type} {x y : α} (h : x = y) : eqL x y = true := by simp [eqL, h]
theorem eqL_false {α : Type} {x y : α} (h : ¬ x = y) : eqL x y = false := by simp [eqL, h]
def noneB (m : MarT) : Bool := decide (m.f4.f0 = 0) && decide (m.f4.f1 = 0)
def kindB (R : Int) (m : MarT) : Bool :=
 if m.f1 = 1 ∨ m.f1 = 2 ∨ m.f1 = 3 then decide (m.f3 = 0) && decide (m.f5 = 0) && inF 0 m.f4.f1 m.f4.f0 && decide (m.f4.f1 ≤ 600)
 else if m.f1 = 4 ∨ m.f1 = 5 then decide (m.f3 = 0) && noneB m && inF 0 600 m.f5
 else if m.f1 = 6 then noneB m && decide (m.f5 = 0) && inF 0 (R - 1) m.f3 && !decide (m.f3 = m.f2) else false
def markB (R : Int) (m : MarT) : Bool := inF 0 9999 m.f0 && inF 0 (R - 1) m.f2 && kindB R m
set_option maxHeartbeats 4000000 in
theorem mark_calls (R E : Int) (A B : Option Addr) (n c k c2 : Nat) (m : MarT) (w : World) (hR : 1 ≤ R ∧ R ≤ 6) :
   Calls Tryz.prog 65 #[.agg (scnV R A n c E B k c2).toArray, .agg (marV m).toArray] w fun e w' => e = .returned (.bool (markB R m)) ∧ Below w.heap.size w w' := by
 refine x_calls (X := XNone) Tryz.func65 rfl rfl rfl ?_
 with_reducible ((repeat refine xc_seq ?_); refine xcR ?_)
 refine xo_box rfl rfl rfl rfl (fun b2 => ?_)
 refine xo_box rfl rfl rfl rfl (fun b3 => ?_)
 refine xo_asg rfl rfl rfl ?_
 with_reducible (refine xo_nil ?_; (repeat (first | refine xqT ?_ | refine xqB ?_ | refine xqS ?_)); (repeat refine xc_seq ?_))
 refine xc_meet2 (γ := Unit) (fun _ => True) (fun _ => [(2, .pointer (some ⟨b2, 0, none⟩)), (3, .pointer (some ⟨b3, 0, none⟩)), (18, .bool (!inF 0 9999 m.f0 || !inF 0 (R - 1) m.f2))]) (fun _ => [(b3, true, cel (marV m) 56), (b2, true, cel (scnV R A n c E B k c2) 25)]) ?_ (fun _ _ => ?_)
 · with_reducible refine xcR ?_
   refine xo_fa T_ rfl rfl rfl rfl rfl ?_
   refine xo_load0 T_ rfl rfl rfl (by repeat first | exact memH | apply memT | apply memA) rfl rfl ?_
   refine xo_callB (fs := []) (cs := []) rfl rfl rfl within_enters rfl (fun w1 hw1 => within_calls m.f0 0 9999 w1) ?_
   refine xo_notOp rfl rfl rfl ?_
   refine xo_mv rfl rfl rfl ?_
   first
     | refine xo_lit (i := 10) (b := true) rfl ?_
     | refine xo_lit (i := 10) (b := false) rfl ?_
     | refine xo_split (i := 10) rfl rfl (fun h10 => ?_) (fun h10 => ?_)
   all_goals
     try simp only [decide_eq_true_eq, decide_eq_false_iff_not] at h10
     (first | refine xo_not rfl rfl ?_ | (refine xo_fa T_ rfl rfl rfl rfl rfl ?_))
     (first | refine xo_not rfl rfl ?_ | (refine xo_load0 T_ rfl rfl rfl (by repeat first | exact memH | apply memT | apply memA) rfl rfl ?_))
     (first | refine xo_not rfl rfl ?_ | (refine xo_fa T_ rfl rfl rfl rfl rfl ?_))
     (first | refine xo_not rfl rfl ?_ | (refine xo_load0 T_ rfl rfl rfl (by repeat first | exact memH | apply memT | apply memA) rfl rfl ?_))
     (first | refine xo_not rfl rfl ?_ | (refine xo_sub rfl rfl rfl (by omega) rfl ?_))
     (first | refine xo_not rfl rfl ?_ | (refine xo_callB (fs := []) (cs := []) rfl rfl rfl within_enters rfl (fun w1 hw1 => within_calls m.f2 0 (R - 1) w1) ?_))
     (first | refine xo_not rfl rfl ?_ | (refine xo_notOp rfl rfl rfl ?_))
     first | refine xo_pickT rfl rfl rfl rfl ?_ | refine xo_pickF rfl rfl rfl rfl ?_
     with_reducible refine xo_nil ?_
     exact xq_meet (fun _ => True) _ _ () trivial ⟨(by first | rfl | exact congrArg (fun b => some (Value.bool b)) (by first | simp [h10] | simp [])), (by first | rfl | exact congrArg (fun b => some (Value.bool b)) (by first | simp [h10] | simp [])), (by first | rfl | exact congrArg (fun b => some (Value.bool b)) (by first | simp [h10] | simp [])), trivial⟩ (by repeat (first | exact List.Sublist.refl _ | apply List.Sublist.cons_cons | apply List.Sublist.cons | exact List.nil_sublist _))
 with_reducible (repeat (first | refine xqT ?_ | refine xqB ?_ | refine xqS ?_))
 cases hq : (!inF 0 9999 m.f0 || !inF 0 (R - 1) m.f2)
 rotate_left
 · have e1 : markB R m = false := by
     unfold markB
     cases h1 : inF 0 9999 m.f0 <;> cases h2 : inF 0 (R - 1) m.f2 <;> simp [h1, h2] at hq ⊢
   rw [e1]
   with_reducible (repeat refine xc_seq ?_)
   refine xc_condT rfl ?_
   with_reducible ((repeat refine xc_seq ?_); refine xcR ?_)
   refine xo_asg rfl rfl rfl ?_
   with_reducible (refine xo_nil ?_; (repeat (first | refine xqT ?_ | refine xqB ?_ | refine xqS ?_)); (repeat refine xc_seq ?_); refine xc_ret ?_; (repeat (first | refine xq_thenR ?_ | refine xq_blockR ?_ | refine xq_scopeR ?_)))
   exact xq_ret1 rfl rfl fun w' hw => ⟨rfl, hw.kx.below⟩
 have e1 : markB R m = kindB R m := by
   unfold markB
   cases h1 : inF 0 9999 m.f0 <;> cases h2 : inF 0 (R - 1) m.f2 <;> simp [h1, h2] at hq ⊢
 rw [e1]
 clear e1 hq
 with_reducible (repeat refine xc_seq ?_)
 refine xc_condF rfl ?_
 with_reducible (refine xc_skip ?_; (repeat (first | refine xqT ?_ | refine xqB ?_ | refine xqS ?_)); (repeat refine xc_seq ?_); refine xcR ?_)
 refine xo_fa T_ rfl rfl rfl rfl rfl ?_
 refine xo_loadN T_ rfl rfl rfl (by repeat first | exact memH | apply memT | apply memA) rfl rfl ?_
 refine xo_build TB_ rfl rfl rfl rfl rfl ?_
 refine xo_eqlV rfl rfl rfl (fun w => spa_eq _ _ m.f4.f0 m.f4.f1 0 0 w) rfl ?_
 refine xo_asg rfl rfl rfl ?_
 with_reducible (refine xo_nil ?_; (repeat (first | refine xqT ?_ | refine xqB ?_ | refine xqS ?_)); (repeat refine xc_seq ?_); refine xcR ?_)
 refine xo_fa T_ rfl rfl rfl rfl rfl ?_
 refine xo_load0 T_ rfl rfl rfl (by repeat first | exact memH | apply memT | apply memA) rfl rfl ?_
 with_reducible (refine xo_nil ?_; (repeat (first | refine xqT ?_ | refine xqB ?_ | refine xqS ?_)))
 refine xc_slots [(2, .pointer (some ⟨b2, 0, none⟩)), (3, .pointer (some ⟨b3, 0, none⟩)), (5, .bool (noneB m)), (24, .int .u8 m.f1)] ⟨rfl, rfl, rfl, rfl, trivial⟩ ?_
 have hk : m.f1 = 1 ∨ m.f1 = 2 ∨ m.f1 = 3 ∨ m.f1 = 4 ∨ m.f1 = 5 ∨ m.f1 = 6 ∨ (decide (m.f1 = 1) = false ∧ decide (m.f1 = 2) = false ∧ decide (m.f1 = 3) = false ∧ decide (m.f1 = 4) = false ∧ decide (m.f1 = 5) = false ∧ decide (m.f1 = 6) = false) := by
   simp only [decide_eq_false_iff_not]
   omega
 have early : ∀ (b : Bool), kindB R m = b → True := fun _ _ => trivial
 clear early
 with_reducible ((repeat refine xc_seq ?_); refine xc_block ?_)
 rcases hk with hk | hk | hk | hk | hk | hk | ⟨k1, k2, k3, k4, k5, k6⟩
 · have e1 : kindB R m = (decide (m.f3 = 0) && decide (m.f5 = 0) && inF 0 m.f4.f1 m.f4.f0 && decide (m.f4.f1 ≤ 600)) := by unfold kindB; rw [if_pos (by omega)]
   rw [e1]
   obtain ⟨a0, a1, a2, a3, ⟨a4, a5⟩, a6⟩ := m
   simp only at hk
   subst hk
   with_reducible ((repeat refine xc_seq ?_); refine xcR ?_)
   refine xo_eql rfl rfl rfl rfl ?_
   refine xo_asg rfl rfl rfl ?_
   with_reducible (refine xo_nil ?_; (repeat (first | refine xqT ?_ | refine xqB ?_ | refine xqS ?_)); (repeat refine xc_seq ?_))
   refine xc_condT rfl ?_
   with_reducible (refine xc_skip ?_; (repeat (first | refine xqT ?_ | refine xqB ?_ | refine xqS ?_)); (repeat refine xc_seq ?_))
   refine xc_condT rfl ?_
   with_reducible (repeat refine xc_seq ?_)
   refine xc_meet2 (γ := Unit) (fun _ => True) (fun _ => [(4, .bool (decide (a3 = 0) && decide (a6 = 0) && inF 0 a5 a4 && decide (a5 ≤ 600)))]) (fun _ => []) ?_ (fun _ _ => ?_)
   · with_reducible refine xcR ?_
     refine xo_fa T_ rfl rfl rfl rfl rfl ?_
     refine xo_load0 T_ rfl rfl rfl (by repeat first | exact memH | apply memT | apply memA) rfl rfl ?_
     refine xo_eql rfl rfl rfl rfl ?_
     refine xo_mv rfl rfl rfl ?_
     first
       | refine xo_lit (i := 32) (b := true) rfl ?_
       | refine xo_lit (i := 32) (b := false) rfl ?_
       | refine xo_split (i := 32) rfl rfl (fun h32 => ?_) (fun h32 => ?_)
     all_goals
       try simp only [decide_eq_true_eq, decide_eq_false_iff_not] at h32
       (first | refine xo_not rfl rfl ?_ | (refine xo_fa T_ rfl rfl rfl rfl rfl ?_))
       (first | refine xo_not rfl rfl ?_ | (refine xo_load0 T_ rfl rfl rfl (by repeat first | exact memH | apply memT | apply memA) rfl rfl ?_))
       (first | refine xo_not rfl rfl ?_ | (refine xo_eql rfl rfl rfl rfl ?_))
       first | refine xo_pickT rfl rfl rfl rfl ?_ | refine xo_pickF rfl rfl rfl rfl ?_
       refine xo_mv rfl rfl rfl ?_
       first
         | refine xo_lit (i := 37) (b := true) rfl ?_
         | refine xo_lit (i := 37) (b := false) rfl ?_
         | refine xo_split (i := 37) rfl rfl (fun h37 => ?_) (fun h37 => ?_)
       all_goals
         try simp only [decide_eq_true_eq, decide_eq_false_iff_not] at h37
         (first | refine xo_not rfl rfl ?_ | (refine xo_fa T_ rfl rfl rfl rfl rfl ?_))
         (first | refine xo_not rfl rfl ?_ | (refine xo_fa T_ rfl rfl rfl rfl rfl ?_))
         (first | refine xo_not rfl rfl ?_ | (refine xo_load0 T_ rfl rfl rfl (by repeat first | exact memH | apply memT | apply memA) rfl rfl ?_))
         (first | refine xo_not rfl rfl ?_ | (refine xo_fa T_ rfl rfl rfl rfl rfl ?_))
         (first | refine xo_not rfl rfl ?_ | (refine xo_fa T_ rfl rfl rfl rfl rfl ?_))
         (first | refine xo_not rfl rfl ?_ | (refine xo_load0 T_ rfl rfl rfl (by repeat first | exact memH | apply memT | apply memA) rfl rfl ?_))
         (first | refine xo_not rfl rfl ?_ | (refine xo_callB (fs := []) (cs := []) rfl rfl rfl within_enters rfl (fun w1 hw1 => within_calls a4 0 a5 w1) ?_))
         first | refine xo_pickT rfl rfl rfl rfl ?_ | refine xo_pickF rfl rfl rfl rfl ?_
         refine xo_mv rfl rfl rfl ?_
         first
           | refine xo_lit (i := 46) (b := true) rfl ?_
           | refine xo_lit (i := 46) (b := false) rfl ?_
           | refine xo_split (i := 46) rfl rfl (fun h46 => ?_) (fun h46 => ?_)
         all_goals
           try simp only [decide_eq_true_eq, decide_eq_false_iff_not] at h46
           (first | refine xo_not rfl rfl ?_ | (refine xo_fa T_ rfl rfl rfl rfl rfl ?_))
           (first | refine xo_not rfl rfl ?_ | (refine xo_fa T_ rfl rfl rfl rfl rfl ?_))
           (first | refine xo_not rfl rfl ?_ | (refine xo_load0 T_ rfl rfl rfl (by repeat first | exact memH | apply memT | apply memA) rfl rfl ?_))
           (first | refine xo_not rfl rfl ?_ | (refine xo_leq rfl rfl rfl rfl ?_))
           first | refine xo_pickT rfl rfl rfl rfl ?_ | refine xo_pickF rfl rfl rfl rfl ?_
           refine xo_asg rfl rfl rfl ?_
           with_reducible refine xo_nil ?_
           exact xq_meet (fun _ => True) _ _ () trivial ⟨(by first | rfl | exact congrArg (fun b => some (Value.bool b)) (by first | simp [h32, h37, h46] | simp [h32, h37] | simp [h32] | simp [])), trivial⟩ (by repeat (first | exact List.Sublist.refl _ | apply List.Sublist.cons_cons | apply List.Sublist.cons | exact List.nil_sublist _))
   with_reducible ((repeat (first | refine xqT ?_ | refine xqB ?_ | refine xqS ?_)); (repeat refine xc_seq ?_); refine xc_ret ?_; (repeat (first | refine xq_thenR ?_ | refine xq_blockR ?_ | refine xq_scopeR ?_)))
   exact xq_ret1 rfl rfl fun w' hw => ⟨rfl, hw.kx.below⟩
 · have e1 : kindB R m = (decide (m.f3 = 0) && decide (m.f5 = 0) && inF 0 m.f4.f1 m.f4.f0 && decide (m.f4.f1 ≤ 600)) := by unfold kindB; rw [if_pos (by omega)]
   rw [e1]
   obtain ⟨a0, a1, a2, a3, ⟨a4, a5⟩, a6⟩ := m
   simp only at hk
   subst hk
   with_reducible ((repeat refine xc_seq ?_); refine xcR ?_)
   refine xo_eql rfl rfl rfl rfl ?_
   refine xo_asg rfl rfl rfl ?_
   with_reducible (refine xo_nil ?_; (repeat (first | refine xqT ?_ | refine xqB ?_ | refine xqS ?_)); (repeat refine xc_seq ?_))
   refine xc_condF rfl ?_
   with_reducible ((repeat refine xc_seq ?_); refine xcR ?_)
   refine xo_eql rfl rfl rfl rfl ?_
   refine xo_asg rfl rfl rfl ?_
   with_reducible (refine xo_nil ?_; (repeat (first | refine xqT ?_ | refine xqB ?_ | refine xqS ?_)); (repeat refine xc_seq ?_))
   refine xc_condT rfl ?_
   with_reducible (refine xc_skip ?_; (repeat (first | refine xqT ?_ | refine xqB ?_ | refine xqS ?_)); (repeat refine xc_seq ?_))
   refine xc_condT rfl ?_
   with_reducible (repeat refine xc_seq ?_)
   refine xc_meet2 (γ := Unit) (fun _ => True) (fun _ => [(4, .bool (decide (a3 = 0) && decide (a6 = 0) && inF 0 a5 a4 && decide (a5 ≤ 600)))]) (fun _ => []) ?_ (fun _ _ => ?_)
   · with_reducible refine xcR ?_
     refine xo_fa T_ rfl rfl rfl rfl rfl ?_
     refine xo_load0 T_ rfl rfl rfl (by repeat first | exact memH | apply memT | apply memA) rfl rfl ?_
     refine xo_eql rfl rfl rfl rfl ?_
     refine xo_mv rfl rfl rfl ?_
     first
       | refine xo_lit (i := 32) (b := true) rfl ?_
       | refine xo_lit (i := 32) (b := false) rfl ?_
       | refine xo_split (i := 32) rfl rfl (fun h32 => ?_) (fun h32 => ?_)
     all_goals
       try simp only [decide_eq_true_eq, decide_eq_false_iff_not] at h32
       (first | refine xo_not rfl rfl ?_ | (refine xo_fa T_ rfl rfl rfl rfl rfl ?_))
       (first | refine xo_not rfl rfl ?_ | (refine xo_load0 T_ rfl rfl rfl (by repeat first | exact memH | apply memT | apply memA) rfl rfl ?_))
       (first | refine xo_not rfl rfl ?_ | (refine xo_eql rfl rfl rfl rfl ?_))
       first | refine xo_pickT rfl rfl rfl rfl ?_ | refine xo_pickF rfl rfl rfl rfl ?_
       refine xo_mv rfl rfl rfl ?_
       first
         | refine xo_lit (i := 37) (b := true) rfl ?_
         | refine xo_lit (i := 37) (b := false) rfl ?_
         | refine xo_split (i := 37) rfl rfl (fun h37 => ?_) (fun h37 => ?_)
       all_goals
         try simp only [decide_eq_true_eq, decide_eq_false_iff_not] at h37
         (first | refine xo_not rfl rfl ?_ | (refine xo_fa T_ rfl rfl rfl rfl rfl ?_))
         (first | refine xo_not rfl rfl ?_ | (refine xo_fa T_ rfl rfl rfl rfl rfl ?_))
         (first | refine xo_not rfl rfl ?_ | (refine xo_load0 T_ rfl rfl rfl (by repeat first | exact memH | apply memT | apply memA) rfl rfl ?_))
         (first | refine xo_not rfl rfl ?_ | (refine xo_fa T_ rfl rfl rfl rfl rfl ?_))
         (first | refine xo_not rfl rfl ?_ | (refine xo_fa T_ rfl rfl rfl rfl rfl ?_))
         (first | refine xo_not rfl rfl ?_ | (refine xo_load0 T_ rfl rfl rfl (by repeat first | exact memH | apply memT | apply memA) rfl rfl ?_))
         (first | refine xo_not rfl rfl ?_ | (refine xo_callB (fs := []) (cs := []) rfl rfl rfl within_enters rfl (fun w1 hw1 => within_calls a4 0 a5 w1) ?_))
         first | refine xo_pickT rfl rfl rfl rfl ?_ | refine xo_pickF rfl rfl rfl rfl ?_
         refine xo_mv rfl rfl rfl ?_
         first
           | refine xo_lit (i := 46) (b := true) rfl ?_
           | refine xo_lit (i := 46) (b := false) rfl ?_
           | refine xo_split (i := 46) rfl rfl (fun h46 => ?_) (fun h46 => ?_)
         all_goals
           try simp only [decide_eq_true_eq, decide_eq_false_iff_not] at h46
           (first | refine xo_not rfl rfl ?_ | (refine xo_fa T_ rfl rfl rfl rfl rfl ?_))
           (first | refine xo_not rfl rfl ?_ | (refine xo_fa T_ rfl rfl rfl rfl rfl ?_))
           (first | refine xo_not rfl rfl ?_ | (refine xo_load0 T_ rfl rfl rfl (by repeat first | exact memH | apply memT | apply memA) rfl rfl ?_))
           (first | refine xo_not rfl rfl ?_ | (refine xo_leq rfl rfl rfl rfl ?_))
           first | refine xo_pickT rfl rfl rfl rfl ?_ | refine xo_pickF rfl rfl rfl rfl ?_
           refine xo_asg rfl rfl rfl ?_
           with_reducible refine xo_nil ?_
           exact xq_meet (fun _ => True) _ _ () trivial ⟨(by first | rfl | exact congrArg (fun b => some (Value.bool b)) (by first | simp [h32, h37, h46] | simp [h32, h37] | simp [h32] | simp [])), trivial⟩ (by repeat (first | exact List.Sublist.refl _ | apply List.Sublist.cons_cons | apply List.Sublist.cons | exact List.nil_sublist _))
   with_reducible ((repeat (first | refine xqT ?_ | refine xqB ?_ | refine xqS ?_)); (repeat refine xc_seq ?_); refine xc_ret ?_; (repeat (first | refine xq_thenR ?_ | refine xq_blockR ?_ | refine xq_scopeR ?_)))
   exact xq_ret1 rfl rfl fun w' hw => ⟨rfl, hw.kx.below⟩
 · have e1 : kindB R m = (decide (m.f3 = 0) && decide (m.f5 = 0) && inF 0 m.f4.f1 m.f4.f0 && decide (m.f4.f1 ≤ 600)) := by unfold kindB; rw [if_pos (by omega)]
   rw [e1]
   obtain ⟨a0, a1, a2, a3, ⟨a4, a5⟩, a6⟩ := m
   simp only at hk
   subst hk
   with_reducible ((repeat refine xc_seq ?_); refine xcR ?_)
   refine xo_eql rfl rfl rfl rfl ?_
   refine xo_asg rfl rfl rfl ?_
   with_reducible (refine xo_nil ?_; (repeat (first | refine xqT ?_ | refine xqB ?_ | refine xqS ?_)); (repeat refine xc_seq ?_))
   refine xc_condF rfl ?_
   with_reducible ((repeat refine xc_seq ?_); refine xcR ?_)
   refine xo_eql rfl rfl rfl rfl ?_
   refine xo_asg rfl rfl rfl ?_
   with_reducible (refine xo_nil ?_; (repeat (first | refine xqT ?_ | refine xqB ?_ | refine xqS ?_)); (repeat refine xc_seq ?_))
   refine xc_condF rfl ?_
   with_reducible ((repeat refine xc_seq ?_); refine xcR ?_)
   refine xo_eql rfl rfl rfl rfl ?_
   refine xo_asg rfl rfl rfl ?_
   with_reducible (refine xo_nil ?_; (repeat (first | refine xqT ?_ | refine xqB ?_ | refine xqS ?_)); (repeat refine xc_seq ?_))
   refine xc_condT rfl ?_
   with_reducible (repeat refine xc_seq ?_)
   refine xc_meet2 (γ := Unit) (fun _ => True) (fun _ => [(4, .bool (decide (a3 = 0) && decide (a6 = 0) && inF 0 a5 a4 && decide (a5 ≤ 600)))]) (fun _ => []) ?_ (fun _ _ => ?_)
   · with_reducible refine xcR ?_
     refine xo_fa T_ rfl rfl rfl rfl rfl ?_
     refine xo_load0 T_ rfl rfl rfl (by repeat first | exact memH | apply memT | apply memA) rfl rfl ?_
     refine xo_eql rfl rfl rfl rfl ?_
     refine xo_mv rfl rfl rfl ?_
     first
       | refine xo_lit (i := 32) (b := true) rfl ?_
       | refine xo_lit (i := 32) (b := false) rfl ?_
       | refine xo_split (i := 32) rfl rfl (fun h32 => ?_) (fun h32 => ?_)
     all_goals
       try simp only [decide_eq_true_eq, decide_eq_false_iff_not] at h32
       (first | refine xo_not rfl rfl ?_ | (refine xo_fa T_ rfl rfl rfl rfl rfl ?_))
       (first | refine xo_not rfl rfl ?_ | (refine xo_load0 T_ rfl rfl rfl (by repeat first | exact memH | apply memT | apply memA) rfl rfl ?_))
       (first | refine xo_not rfl rfl ?_ | (refine xo_eql rfl rfl rfl rfl ?_))
       first | refine xo_pickT rfl rfl rfl rfl ?_ | refine xo_pickF rfl rfl rfl rfl ?_
       refine xo_mv rfl rfl rfl ?_
       first
         | refine xo_lit (i := 37) (b := true) rfl ?_
         | refine xo_lit (i := 37) (b := false) rfl ?_
         | refine xo_split (i := 37) rfl rfl (fun h37 => ?_) (fun h37 => ?_)
       all_goals
         try simp only [decide_eq_true_eq, decide_eq_false_iff_not] at h37
         (first | refine xo_not rfl rfl ?_ | (refine xo_fa T_ rfl rfl rfl rfl rfl ?_))
         (first | refine xo_not rfl rfl ?_ | (refine xo_fa T_ rfl rfl rfl rfl rfl ?_))
         (first | refine xo_not rfl rfl ?_ | (refine xo_load0 T_ rfl rfl rfl (by repeat first | exact memH | apply memT | apply memA) rfl rfl ?_))
         (first | refine xo_not rfl rfl ?_ | (refine xo_fa T_ rfl rfl rfl rfl rfl ?_))
         (first | refine xo_not rfl rfl ?_ | (refine xo_fa T_ rfl rfl rfl rfl rfl ?_))
         (first | refine xo_not rfl rfl ?_ | (refine xo_load0 T_ rfl rfl rfl (by repeat first | exact memH | apply memT | apply memA) rfl rfl ?_))
         (first | refine xo_not rfl rfl ?_ | (refine xo_callB (fs := []) (cs := []) rfl rfl rfl within_enters rfl (fun w1 hw1 => within_calls a4 0 a5 w1) ?_))
         first | refine xo_pickT rfl rfl rfl rfl ?_ | refine xo_pickF rfl rfl rfl rfl ?_
         refine xo_mv rfl rfl rfl ?_
         first
           | refine xo_lit (i := 46) (b := true) rfl ?_
           | refine xo_lit (i := 46) (b := false) rfl ?_
           | refine xo_split (i := 46) rfl rfl (fun h46 => ?_) (fun h46 => ?_)
         all_goals
           try simp only [decide_eq_true_eq, decide_eq_false_iff_not] at h46
           (first | refine xo_not rfl rfl ?_ | (refine xo_fa T_ rfl rfl rfl rfl rfl ?_))
           (first | refine xo_not rfl rfl ?_ | (refine xo_fa T_ rfl rfl rfl rfl rfl ?_))
           (first | refine xo_not rfl rfl ?_ | (refine xo_load0 T_ rfl rfl rfl (by repeat first | exact memH | apply memT | apply memA) rfl rfl ?_))
           (first | refine xo_not rfl rfl ?_ | (refine xo_leq rfl rfl rfl rfl ?_))
           first | refine xo_pickT rfl rfl rfl rfl ?_ | refine xo_pickF rfl rfl rfl rfl ?_
           refine xo_asg rfl rfl rfl ?_
           with_reducible refine xo_nil ?_
           exact xq_meet (fun _ => True) _ _ () trivial ⟨(by first | rfl | exact congrArg (fun b => some (Value.bool b)) (by first | simp [h32, h37, h46] | simp [h32, h37] | simp [h32] | simp [])), trivial⟩ (by repeat (first | exact List.Sublist.refl _ | apply List.Sublist.cons_cons | apply List.Sublist.cons | exact List.nil_sublist _))
   with_reducible ((repeat (first | refine xqT ?_ | refine xqB ?_ | refine xqS ?_)); (repeat refine xc_seq ?_); refine xc_ret ?_; (repeat (first | refine xq_thenR ?_ | refine xq_blockR ?_ | refine xq_scopeR ?_)))
   exact xq_ret1 rfl rfl fun w' hw => ⟨rfl, hw.kx.below⟩
 · have e1 : kindB R m = (decide (m.f3 = 0) && noneB m && inF 0 600 m.f5) := by unfold kindB; rw [if_neg (by omega), if_pos (by omega)]
   rw [e1]
   generalize noneB m = nb
   obtain ⟨a0, a1, a2, a3, ⟨a4, a5⟩, a6⟩ := m
   simp only at hk
   subst hk
   with_reducible ((repeat refine xc_seq ?_); refine xcR ?_)
   refine xo_eql rfl rfl rfl rfl ?_
   refine xo_asg rfl rfl rfl ?_
   with_reducible (refine xo_nil ?_; (repeat (first | refine xqT ?_ | refine xqB ?_ | refine xqS ?_)); (repeat refine xc_seq ?_))
   refine xc_condF rfl ?_
   with_reducible ((repeat refine xc_seq ?_); refine xcR ?_)
   refine xo_eql rfl rfl rfl rfl ?_
   refine xo_asg rfl rfl rfl ?_
   with_reducible (refine xo_nil ?_; (repeat (first | refine xqT ?_ | refine xqB ?_ | refine xqS ?_)); (repeat refine xc_seq ?_))
   refine xc_condF rfl ?_
   with_reducible ((repeat refine xc_seq ?_); refine xcR ?_)
   refine xo_eql rfl rfl rfl rfl ?_
   refine xo_asg rfl rfl rfl ?_
   with_reducible (refine xo_nil ?_; (repeat (first | refine xqT ?_ | refine xqB ?_ | refine xqS ?_)); (repeat refine xc_seq ?_))
   refine xc_condF rfl ?_
   with_reducible ((repeat refine xc_seq ?_); refine xcR ?_)
   refine xo_eql rfl rfl rfl rfl ?_
   refine xo_asg rfl rfl rfl ?_
   with_reducible (refine xo_nil ?_; (repeat (first | refine xqT ?_ | refine xqB ?_ | refine xqS ?_)); (repeat refine xc_seq ?_))
   refine xc_condT rfl ?_
   with_reducible (refine xc_skip ?_; (repeat (first | refine xqT ?_ | refine xqB ?_ | refine xqS ?_)); (repeat refine xc_seq ?_))
   refine xc_condT rfl ?_
   with_reducible (repeat refine xc_seq ?_)
   refine xc_meet2 (γ := Unit) (fun _ => True) (fun _ => [(4, .bool (decide (a3 = 0) && nb && inF 0 600 a6))]) (fun _ => []) ?_ (fun _ _ => ?_)
   · with_reducible refine xcR ?_
     refine xo_fa T_ rfl rfl rfl rfl rfl ?_
     refine xo_load0 T_ rfl rfl rfl (by repeat first | exact memH | apply memT | apply memA) rfl rfl ?_
     refine xo_eql rfl rfl rfl rfl ?_
     refine xo_mv rfl rfl rfl ?_
     first
       | refine xo_lit (i := 58) (b := true) rfl ?_
       | refine xo_lit (i := 58) (b := false) rfl ?_
       | refine xo_split (i := 58) rfl rfl (fun h58 => ?_) (fun h58 => ?_)
     all_goals
       try simp only [decide_eq_true_eq, decide_eq_false_iff_not] at h58
       (first | refine xo_not rfl rfl ?_ | (refine xo_mv rfl rfl rfl ?_))
       first | refine xo_pickT rfl rfl rfl rfl ?_ | refine xo_pickF rfl rfl rfl rfl ?_
       refine xo_mv rfl rfl rfl ?_
       first
         | refine xo_lit (i := 61) (b := true) rfl ?_
         | refine xo_lit (i := 61) (b := false) rfl ?_
         | refine xo_split (i := 61) rfl rfl (fun h61 => ?_) (fun h61 => ?_)
       all_goals
         try simp only [decide_eq_true_eq, decide_eq_false_iff_not] at h61
         (first | refine xo_not rfl rfl ?_ | (refine xo_fa T_ rfl rfl rfl rfl rfl ?_))
         (first | refine xo_not rfl rfl ?_ | (refine xo_load0 T_ rfl rfl rfl (by repeat first | exact memH | apply memT | apply memA) rfl rfl ?_))
         (first | refine xo_not rfl rfl ?_ | (refine xo_callB (fs := []) (cs := []) rfl rfl rfl within_enters rfl (fun w1 hw1 => within_calls a6 0 600 w1) ?_))
         first | refine xo_pickT rfl rfl rfl rfl ?_ | refine xo_pickF rfl rfl rfl rfl ?_
         refine xo_asg rfl rfl rfl ?_
         with_reducible refine xo_nil ?_
         exact xq_meet (fun _ => True) _ _ () trivial ⟨(by first | rfl | exact congrArg (fun b => some (Value.bool b)) (by first | simp [h58, h61] | simp [h58] | simp [])), trivial⟩ (by repeat (first | exact List.Sublist.refl _ | apply List.Sublist.cons_cons | apply List.Sublist.cons | exact List.nil_sublist _))
   with_reducible ((repeat (first | refine xqT ?_ | refine xqB ?_ | refine xqS ?_)); (repeat refine xc_seq ?_); refine xc_ret ?_; (repeat (first | refine xq_thenR ?_ | refine xq_blockR ?_ | refine xq_scopeR ?_)))
   exact xq_ret1 rfl rfl fun w' hw => ⟨rfl, hw.kx.below⟩
 · have e1 : kindB R m = (decide (m.f3 = 0) && noneB m && inF 0 600 m.f5) := by unfold kindB; rw [if_neg (by omega), if_pos (by omega)]
   rw [e1]
   generalize noneB m = nb
   obtain ⟨a0, a1, a2, a3, ⟨a4, a5⟩, a6⟩ := m
   simp only at hk
   subst hk
   with_reducible ((repeat refine xc_seq ?_); refine xcR ?_)
   refine xo_eql rfl rfl rfl rfl ?_
   refine xo_asg rfl rfl rfl ?_
   with_reducible (refine xo_nil ?_; (repeat (first | refine xqT ?_ | refine xqB ?_ | refine xqS ?_)); (repeat refine xc_seq ?_))
   refine xc_condF rfl ?_
   with_reducible ((repeat refine xc_seq ?_); refine xcR ?_)
   refine xo_eql rfl rfl rfl rfl ?_
   refine xo_asg rfl rfl rfl ?_
   with_reducible (refine xo_nil ?_; (repeat (first | refine xqT ?_ | refine xqB ?_ | refine xqS ?_)); (repeat refine xc_seq ?_))
   refine xc_condF rfl ?_
   with_reducible ((repeat refine xc_seq ?_); refine xcR ?_)
   refine xo_eql rfl rfl rfl rfl ?_
   refine xo_asg rfl rfl rfl ?_
   with_reducible (refine xo_nil ?_; (repeat (first | refine xqT ?_ | refine xqB ?_ | refine xqS ?_)); (repeat refine xc_seq ?_))
   refine xc_condF rfl ?_
   with_reducible ((repeat refine xc_seq ?_); refine xcR ?_)
   refine xo_eql rfl rfl rfl rfl ?_
   refine xo_asg rfl rfl rfl ?_
   with_reducible (refine xo_nil ?_; (repeat (first | refine xqT ?_ | refine xqB ?_ | refine xqS ?_)); (repeat refine xc_seq ?_))
   refine xc_condF rfl ?_
   with_reducible ((repeat refine xc_seq ?_); refine xcR ?_)
   refine xo_eql rfl rfl rfl rfl ?_
   refine xo_asg rfl rfl rfl ?_
   with_reducible (refine xo_nil ?_; (repeat (first | refine xqT ?_ | refine xqB ?_ | refine xqS ?_)); (repeat refine xc_seq ?_))
   refine xc_condT rfl ?_
   with_reducible (repeat refine xc_seq ?_)
   refine xc_meet2 (γ := Unit) (fun _ => True) (fun _ => [(4, .bool (decide (a3 = 0) && nb && inF 0 600 a6))]) (fun _ => []) ?_ (fun _ _ => ?_)
   · with_reducible refine xcR ?_
     refine xo_fa T_ rfl rfl rfl rfl rfl ?_
     refine xo_load0 T_ rfl rfl rfl (by repeat first | exact memH | apply memT | apply memA) rfl rfl ?_
     refine xo_eql rfl rfl rfl rfl ?_
     refine xo_mv rfl rfl rfl ?_
     first
       | refine xo_lit (i := 58) (b := true) rfl ?_
       | refine xo_lit (i := 58) (b := false) rfl ?_
       | refine xo_split (i := 58) rfl rfl (fun h58 => ?_) (fun h58 => ?_)
     all_goals
       try simp only [decide_eq_true_eq, decide_eq_false_iff_not] at h58
       (first | refine xo_not rfl rfl ?_ | (refine xo_mv rfl rfl rfl ?_))
       first | refine xo_pickT rfl rfl rfl rfl ?_ | refine xo_pickF rfl rfl rfl rfl ?_
       refine xo_mv rfl rfl rfl ?_
       first
         | refine xo_lit (i := 61) (b := true) rfl ?_
         | refine xo_lit (i := 61) (b := false) rfl ?_
         | refine xo_split (i := 61) rfl rfl (fun h61 => ?_) (fun h61 => ?_)
       all_goals
         try simp only [decide_eq_true_eq, decide_eq_false_iff_not] at h61
         (first | refine xo_not rfl rfl ?_ | (refine xo_fa T_ rfl rfl rfl rfl rfl ?_))
         (first | refine xo_not rfl rfl ?_ | (refine xo_load0 T_ rfl rfl rfl (by repeat first | exact memH | apply memT | apply memA) rfl rfl ?_))
         (first | refine xo_not rfl rfl ?_ | (refine xo_callB (fs := []) (cs := []) rfl rfl rfl within_enters rfl (fun w1 hw1 => within_calls a6 0 600 w1) ?_))
         first | refine xo_pickT rfl rfl rfl rfl ?_ | refine xo_pickF rfl rfl rfl rfl ?_
         refine xo_asg rfl rfl rfl ?_
         with_reducible refine xo_nil ?_
         exact xq_meet (fun _ => True) _ _ () trivial ⟨(by first | rfl | exact congrArg (fun b => some (Value.bool b)) (by first | simp [h58, h61] | simp [h58] | simp [])), trivial⟩ (by repeat (first | exact List.Sublist.refl _ | apply List.Sublist.cons_cons | apply List.Sublist.cons | exact List.nil_sublist _))
   with_reducible ((repeat (first | refine xqT ?_ | refine xqB ?_ | refine xqS ?_)); (repeat refine xc_seq ?_); refine xc_ret ?_; (repeat (first | refine xq_thenR ?_ | refine xq_blockR ?_ | refine xq_scopeR ?_)))
   exact xq_ret1 rfl rfl fun w' hw => ⟨rfl, hw.kx.below⟩
 · have e1 : kindB R m = (noneB m && decide (m.f5 = 0) && inF 0 (R - 1) m.f3 && !decide (m.f3 = m.f2)) := by unfold kindB; rw [if_neg (by omega), if_neg (by omega), if_pos (by omega)]
   rw [e1]
   generalize noneB m = nb
   obtain ⟨a0, a1, a2, a3, ⟨a4, a5⟩, a6⟩ := m
   simp only at hk
   subst hk
   with_reducible ((repeat refine xc_seq ?_); refine xcR ?_)
   refine xo_eql rfl rfl rfl rfl ?_
   refine xo_asg rfl rfl rfl ?_
   with_reducible (refine xo_nil ?_; (repeat (first | refine xqT ?_ | refine xqB ?_ | refine xqS ?_)); (repeat refine xc_seq ?_))
   refine xc_condF rfl ?_
   with_reducible ((repeat refine xc_seq ?_); refine xcR ?_)
   refine xo_eql rfl rfl rfl rfl ?_
   refine xo_asg rfl rfl rfl ?_
   with_reducible (refine xo_nil ?_; (repeat (first | refine xqT ?_ | refine xqB ?_ | refine xqS ?_)); (repeat refine xc_seq ?_))
   refine xc_condF rfl ?_
   with_reducible ((repeat refine xc_seq ?_); refine xcR ?_)
   refine xo_eql rfl rfl rfl rfl ?_
   refine xo_asg rfl rfl rfl ?_
   with_reducible (refine xo_nil ?_; (repeat (first | refine xqT ?_ | refine xqB ?_ | refine xqS ?_)); (repeat refine xc_seq ?_))
   refine xc_condF rfl ?_
   with_reducible ((repeat refine xc_seq ?_); refine xcR ?_)
   refine xo_eql rfl rfl rfl rfl ?_
   refine xo_asg rfl rfl rfl ?_
   with_reducible (refine xo_nil ?_; (repeat (first | refine xqT ?_ | refine xqB ?_ | refine xqS ?_)); (repeat refine xc_seq ?_))
   refine xc_condF rfl ?_
   with_reducible ((repeat refine xc_seq ?_); refine xcR ?_)
   refine xo_eql rfl rfl rfl rfl ?_
   refine xo_asg rfl rfl rfl ?_
   with_reducible (refine xo_nil ?_; (repeat (first | refine xqT ?_ | refine xqB ?_ | refine xqS ?_)); (repeat refine xc_seq ?_))
   refine xc_condF rfl ?_
   with_reducible ((repeat refine xc_seq ?_); refine xcR ?_)
   refine xo_eql rfl rfl rfl rfl ?_
   refine xo_asg rfl rfl rfl ?_
   with_reducible (refine xo_nil ?_; (repeat (first | refine xqT ?_ | refine xqB ?_ | refine xqS ?_)); (repeat refine xc_seq ?_))
   refine xc_condT rfl ?_
   with_reducible (repeat refine xc_seq ?_)
   refine xc_meet2 (γ := Unit) (fun _ => True) (fun _ => [(4, .bool (nb && decide (a6 = 0) && inF 0 (R - 1) a3 && !decide (a3 = a2)))]) (fun _ => []) ?_ (fun _ _ => ?_)
   · with_reducible refine xcR ?_
     refine xo_mv rfl rfl rfl ?_
     refine xo_mv rfl rfl rfl ?_
     first
       | refine xo_lit (i := 69) (b := true) rfl ?_
       | refine xo_lit (i := 69) (b := false) rfl ?_
       | refine xo_split (i := 69) rfl rfl (fun h69 => ?_) (fun h69 => ?_)
     all_goals
       try simp only [decide_eq_true_eq, decide_eq_false_iff_not] at h69
       (first | refine xo_not rfl rfl ?_ | (refine xo_fa T_ rfl rfl rfl rfl rfl ?_))
       (first | refine xo_not rfl rfl ?_ | (refine xo_load0 T_ rfl rfl rfl (by repeat first | exact memH | apply memT | apply memA) rfl rfl ?_))
       (first | refine xo_not rfl rfl ?_ | (refine xo_eql rfl rfl rfl rfl ?_))
       first | refine xo_pickT rfl rfl rfl rfl ?_ | refine xo_pickF rfl rfl rfl rfl ?_
       refine xo_mv rfl rfl rfl ?_
       first
         | refine xo_lit (i := 74) (b := true) rfl ?_
         | refine xo_lit (i := 74) (b := false) rfl ?_
         | refine xo_split (i := 74) rfl rfl (fun h74 => ?_) (fun h74 => ?_)
       all_goals
         try simp only [decide_eq_true_eq, decide_eq_false_iff_not] at h74
         (first | refine xo_not rfl rfl ?_ | (refine xo_fa T_ rfl rfl rfl rfl rfl ?_))
         (first | refine xo_not rfl rfl ?_ | (refine xo_load0 T_ rfl rfl rfl (by repeat first | exact memH | apply memT | apply memA) rfl rfl ?_))
         (first | refine xo_not rfl rfl ?_ | (refine xo_fa T_ rfl rfl rfl rfl rfl ?_))
         (first | refine xo_not rfl rfl ?_ | (refine xo_load0 T_ rfl rfl rfl (by repeat first | exact memH | apply memT | apply memA) rfl rfl ?_))
         (first | refine xo_not rfl rfl ?_ | (refine xo_sub rfl rfl rfl (by omega) rfl ?_))
         (first | refine xo_not rfl rfl ?_ | (refine xo_callB (fs := []) (cs := []) rfl rfl rfl within_enters rfl (fun w1 hw1 => within_calls a3 0 (R - 1) w1) ?_))
         first | refine xo_pickT rfl rfl rfl rfl ?_ | refine xo_pickF rfl rfl rfl rfl ?_
         refine xo_mv rfl rfl rfl ?_
         first
           | refine xo_lit (i := 82) (b := true) rfl ?_
           | refine xo_lit (i := 82) (b := false) rfl ?_
           | refine xo_split (i := 82) rfl rfl (fun h82 => ?_) (fun h82 => ?_)
         all_goals
           try simp only [decide_eq_true_eq, decide_eq_false_iff_not] at h82
           (first | refine xo_not rfl rfl ?_ | (refine xo_fa T_ rfl rfl rfl rfl rfl ?_))
           (first | refine xo_not rfl rfl ?_ | (refine xo_load0 T_ rfl rfl rfl (by repeat first | exact memH | apply memT | apply memA) rfl rfl ?_))
           (first | refine xo_not rfl rfl ?_ | (refine xo_fa T_ rfl rfl rfl rfl rfl ?_))
           (first | refine xo_not rfl rfl ?_ | (refine xo_load0 T_ rfl rfl rfl (by repeat first | exact memH | apply memT | apply memA) rfl rfl ?_))
           (first | refine xo_not rfl rfl ?_ | (refine xo_neq rfl rfl rfl rfl ?_))
           first | refine xo_pickT rfl rfl rfl rfl ?_ | refine xo_pickF rfl rfl rfl rfl ?_
           refine xo_asg rfl rfl rfl ?_
           with_reducible refine xo_nil ?_
           exact xq_meet (fun _ => True) _ _ () trivial ⟨(by first | rfl | exact congrArg (fun b => some (Value.bool b)) (by first | simp [h69, h74, h82] | simp [h69, h74] | simp [h69] | simp [])), trivial⟩ (by repeat (first | exact List.Sublist.refl _ | apply List.Sublist.cons_cons | apply List.Sublist.cons | exact List.nil_sublist _))
   with_reducible ((repeat (first | refine xqT ?_ | refine xqB ?_ | refine xqS ?_)); (repeat refine xc_seq ?_); refine xc_ret ?_; (repeat (first | refine xq_thenR ?_ | refine xq_blockR ?_ | refine xq_scopeR ?_)))
   exact xq_ret1 rfl rfl fun w' hw => ⟨rfl, hw.kx.below⟩
 · have e1 : kindB R m = false := by
     simp only [decide_eq_false_iff_not] at k1 k2 k3 k4 k5 k6
     unfold kindB
     rw [if_neg (by omega), if_neg (by omega), if_neg (by omega)]
   rw [e1]
   with_reducible ((repeat refine xc_seq ?_); refine xcR ?_)
   refine xo_eql rfl rfl rfl rfl ?_
   refine xo_as (i := 26) rfl (congrArg Value.bool k1) ?_
   refine xo_asg rfl rfl rfl ?_
   with_reducible (refine xo_nil ?_; (repeat (first | refine xqT ?_ | refine xqB ?_ | refine xqS ?_)); (repeat refine xc_seq ?_))
   refine xc_condF rfl ?_
   with_reducible ((repeat refine xc_seq ?_); refine xcR ?_)
   refine xo_eql rfl rfl rfl rfl ?_
   refine xo_as (i := 27) rfl (congrArg Value.bool k2) ?_
   refine xo_asg rfl rfl rfl ?_
   with_reducible (refine xo_nil ?_; (repeat (first | refine xqT ?_ | refine xqB ?_ | refine xqS ?_)); (repeat refine xc_seq ?_))
   refine xc_condF rfl ?_
   with_reducible ((repeat refine xc_seq ?_); refine xcR ?_)
   refine xo_eql rfl rfl rfl rfl ?_
   refine xo_as (i := 28) rfl (congrArg Value.bool k3) ?_
   refine xo_asg rfl rfl rfl ?_
   with_reducible (refine xo_nil ?_; (repeat (first | refine xqT ?_ | refine xqB ?_ | refine xqS ?_)); (repeat refine xc_seq ?_))
   refine xc_condF rfl ?_
   with_reducible ((repeat refine xc_seq ?_); refine xcR ?_)
   refine xo_eql rfl rfl rfl rfl ?_
   refine xo_as (i := 53) rfl (congrArg Value.bool k4) ?_
   refine xo_asg rfl rfl rfl ?_
   with_reducible (refine xo_nil ?_; (repeat (first | refine xqT ?_ | refine xqB ?_ | refine xqS ?_)); (repeat refine xc_seq ?_))
   refine xc_condF rfl ?_
   with_reducible ((repeat refine xc_seq ?_); refine xcR ?_)
   refine xo_eql rfl rfl rfl rfl ?_
   refine xo_as (i := 54) rfl (congrArg Value.bool k5) ?_
   refine xo_asg rfl rfl rfl ?_
   with_reducible (refine xo_nil ?_; (repeat (first | refine xqT ?_ | refine xqB ?_ | refine xqS ?_)); (repeat refine xc_seq ?_))
   refine xc_condF rfl ?_
   with_reducible ((repeat refine xc_seq ?_); refine xcR ?_)
   refine xo_eql rfl rfl rfl rfl ?_
   refine xo_as (i := 67) rfl (congrArg Value.bool k6) ?_
   refine xo_asg rfl rfl rfl ?_
   with_reducible (refine xo_nil ?_; (repeat (first | refine xqT ?_ | refine xqB ?_ | refine xqS ?_)); (repeat refine xc_seq ?_))
   refine xc_condF rfl ?_
   with_reducible (refine xc_skip ?_; (repeat (first | refine xqT ?_ | refine xqB ?_ | refine xqS ?_)); (repeat refine xc_seq ?_); refine xcR ?_)
   refine xo_asg rfl rfl rfl ?_
   with_reducible (refine xo_nil ?_; (repeat (first | refine xqT ?_ | refine xqB ?_ | refine xqS ?_)); (repeat refine xc_seq ?_); refine xc_ret ?_; (repeat (first | refine xq_thenR ?_ | refine xq_blockR ?_ | refine xq_scopeR ?_)))
   exact xq_ret1 rfl rfl fun w' hw => ⟨rfl, hw.kx.below⟩
theorem mark_enters : ∀ args w, (callFunc 65 args).run Tryz.prog w = .ok (.enter 65 args) w := enters_of Tryz.func65 (by kernel_rfl) rfl
def gateB (R : Int) (g : GatT) : Bool := inF 0 (R - 1) g.f0 && inF 0 (R - 1) g.f1 && !decide (g.f0 = g.f1) && inF 0 60 g.f2.f0 && inF g.f2.f0 (g.f2.f0 + 2) g.f2.f1 && !decide (60 < g.f2.f1)
def marksB (R : Int) : Int → List MarT → Bool
 | _, [] => true
 | last, m :: ms => (markB R m && decide (last < m.f0)) && marksB R m.f0 ms
def sceneB (R E : Int) (gs : List GatT) (ms : List MarT) : Bool := !(!inF 1 6 R || !inF 0 600 E || decide ((6 : Int) < gs.length) || decide ((8 : Int) < ms.length)) && gs.all (gateB R) && marksB R (-1) ms
theorem gate_same (R : Int) (g : GatT) : gateB R g = gateF R g := by
 rw [Bool.eq_iff_iff]
 simp only [gateB, gateF, inF, Bool.and_eq_true, Bool.not_eq_true', decide_eq_true_eq, decide_eq_false_iff_not]
 omega
theorem kind_same (R : Int) (m : MarT) (h : inF 1 6 m.f1 = true) : kindB R m = kindF R m := by
 have h1 := inF_iff.1 h
 unfold kindB kindF
 rw [Bool.eq_iff_iff]
 by_cases c1 : m.f1 ≤ 3
 · rw [if_pos (show m.f1 = 1 ∨ m.f1 = 2 ∨ m.f1 = 3 by omega), if_pos c1]
   simp only [timedF, inF, Bool.and_eq_true, decide_eq_true_eq]
   omega
 · rw [if_neg (show ¬ (m.f1 = 1 ∨ m.f1 = 2 ∨ m.f1 = 3) by omega), if_neg c1]
   by_cases c2 : m.f1 ≤ 5
   · rw [if_pos (show m.f1 = 4 ∨ m.f1 = 5 by omega), if_pos c2]
     simp only [lastingF, noneF, noneB, inF, Bool.and_eq_true, decide_eq_true_eq]
     omega
   · rw [if_neg (show ¬ (m.f1 = 4 ∨ m.f1 = 5) by omega), if_neg c2, if_pos (show m.f1 = 6 by omega)]
     simp only [beforeF, noneF, noneB, inF, Bool.and_eq_true, Bool.not_eq_true', decide_eq_true_eq, decide_eq_false_iff_not]
     omega
theorem kindB_in {R : Int} {m : MarT} (h : kindB R m = true) : inF 1 6 m.f1 = true := by
 unfold kindB at h
 refine inF_iff.2 ?_
 split at h
 · omega
 · split at h
   · omega
   · split at h
     · omega
     · cases h
theorem marks_same (R : Int) : ∀ (ms : List MarT) (last : Int), -1 ≤ last → marksB R last ms = marksF R last ms
 | [], _, _ => rfl
 | m :: ms, last, hl => by
   rw [marksB, marksF]
   cases h1 : (markB R m && decide (last < m.f0))
   · cases h2 : (inF (last + 1) 9999 m.f0 && inF 0 (R - 1) m.f2 && inF 1 6 m.f1 && kindF R m)
     · rfl
     · exfalso
       simp only [Bool.and_eq_true] at h2
       have q := inF_iff.1 h2.1.1.1
       rw [← kind_same R m h2.1.2] at h2
       have : (markB R m && decide (last < m.f0)) = true := by
         simp only [markB, Bool.and_eq_true, decide_eq_true_eq]
         exact ⟨⟨⟨inF_iff.2 (by omega), h2.1.1.2⟩, h2.2⟩, by omega⟩
       rw [h1] at this
       cases this
   · simp only [markB, Bool.and_eq_true, decide_eq_true_eq] at h1
     have q := inF_iff.1 h1.1.1.1
     have k := kindB_in h1.1.2
     have e : (inF (last + 1) 9999 m.f0 && inF 0 (R - 1) m.f2 && inF 1 6 m.f1 && kindF R m) = true := by
       rw [← kind_same R m k]
       simp only [Bool.and_eq_true]
       exact ⟨⟨⟨inF_iff.2 (by omega), h1.1.1.2⟩, k⟩, h1.1.2⟩
     rw [e, Bool.true_and, Bool.true_and]
     exact marks_same R ms m.f0 (by omega)
theorem scene_same (R E : Int) (gs : List GatT) (ms : List MarT) : sceneB R E gs ms = sceneF R E gs ms := by
 unfold sceneB sceneF
 rw [marks_same R ms (-1) (by omega), show gateB R = gateF R from funext fun g => gate_same R g]
 congr 2
 rw [Bool.eq_iff_iff]
 simp only [Bool.not_eq_true', Bool.or_eq_false_iff, Bool.not_eq_false', Bool.and_eq_true, decide_eq_true_eq, decide_eq_false_iff_not]
 constructor
 · rintro ⟨⟨⟨h1, h2⟩, h3⟩, h4⟩
   exact ⟨⟨⟨h1, h2⟩, by omega⟩, by omega⟩
 · rintro ⟨⟨⟨h1, h2⟩, h3⟩, h4⟩
   exact ⟨⟨⟨h1, h2⟩, by omega⟩, by omega⟩
/-- the marks from one on -/
theorem marksB_step (R : Int) {ms : List MarT} {k : Nat} (hk : k < ms.length) (last : Int) : marksB R last (ms.drop k) = ((markB R (ms.getD k zMar) && decide (last < (ms.getD k zMar).f0)) && marksB R (ms.getD k zMar).f0 (ms.drop (k + 1))) := by
 rw [drop_at ms zMar k hk, marksB]
def lastId (ms : List MarT) (k : Nat) : Int := if k = 0 then -1 else (ms.getD (k - 1) zMar).f0
set_option maxHeartbeats 8000000 in
theorem scene_calls (R E : Int) (A B : Option Addr) (c c2 : Nat) (gs : List GatT) (ms : List MarT) (w : World) (hA : RowOf gatV 4 zGat w A gs) (hM : RowOf marV 7 zMar w B ms) :
   Calls Tryz.prog 39 #[.agg (scnV R A gs.length c E B ms.length c2).toArray] w fun e w' => e = .returned (.bool (sceneF R E gs ms)) ∧ Below w.heap.size w w' := by
 rw [← scene_same]
 unfold sceneB
 refine x_calls (X := XNone) Tryz.func39 rfl rfl rfl ?_
 with_reducible ((repeat refine xc_seq ?_); refine xcR ?_)
 refine xo_box rfl rfl rfl rfl (fun b1 => ?_)
 refine xo_asg rfl rfl rfl ?_
 with_reducible (refine xo_nil ?_; (repeat (first | refine xqT ?_ | refine xqB ?_ | refine xqS ?_)); (repeat refine xc_seq ?_))
 refine xc_meet2 (γ := Unit) (fun _ => True) (fun _ => [(1, .pointer (some ⟨b1, 0, none⟩)), (27, .bool (!inF 1 6 R || !inF 0 600 E || decide ((6 : Int) < gs.length) || decide ((8 : Int) < ms.length)))]) (fun _ => [(b1, true, cel (scnV R A gs.length c E B ms.length c2) 25)]) ?_ (fun _ _ => ?_)
 · with_reducible refine xcR ?_
   refine xo_fa T_ rfl rfl rfl rfl rfl ?_
   refine xo_load0 T_ rfl rfl rfl (by repeat first | exact memH | apply memT | apply memA) rfl rfl ?_
   refine xo_callB (fs := []) (cs := []) rfl rfl rfl within_enters rfl (fun w1 hw1 => within_calls R 1 6 w1) ?_
   refine xo_notOp rfl rfl rfl ?_
   refine xo_mv rfl rfl rfl ?_
   first
     | refine xo_lit (i := 10) (b := true) rfl ?_
     | refine xo_lit (i := 10) (b := false) rfl ?_
     | refine xo_split (i := 10) rfl rfl (fun h10 => ?_) (fun h10 => ?_)
   all_goals
     try simp only [decide_eq_true_eq, decide_eq_false_iff_not] at h10
     (first | refine xo_not rfl rfl ?_ | (refine xo_fa T_ rfl rfl rfl rfl rfl ?_))
     (first | refine xo_not rfl rfl ?_ | (refine xo_load0 T_ rfl rfl rfl (by repeat first | exact memH | apply memT | apply memA) rfl rfl ?_))
     (first | refine xo_not rfl rfl ?_ | (refine xo_callB (fs := []) (cs := []) rfl rfl rfl within_enters rfl (fun w1 hw1 => within_calls E 0 600 w1) ?_))
     (first | refine xo_not rfl rfl ?_ | (refine xo_notOp rfl rfl rfl ?_))
     first | refine xo_pickT rfl rfl rfl rfl ?_ | refine xo_pickF rfl rfl rfl rfl ?_
     refine xo_mv rfl rfl rfl ?_
     first
       | refine xo_lit (i := 16) (b := true) rfl ?_
       | refine xo_lit (i := 16) (b := false) rfl ?_
       | refine xo_split (i := 16) rfl rfl (fun h16 => ?_) (fun h16 => ?_)
     all_goals
       try simp only [decide_eq_true_eq, decide_eq_false_iff_not] at h16
       (first | refine xo_not rfl rfl ?_ | (refine xo_fa T_ rfl rfl rfl rfl rfl ?_))
       (first | refine xo_not rfl rfl ?_ | (refine xo_load0 T_ rfl rfl rfl (by repeat first | exact memH | apply memT | apply memA) rfl rfl ?_))
       (first | refine xo_not rfl rfl ?_ | (refine xo_len T_ rfl rfl rfl rfl ?_))
       (first | refine xo_not rfl rfl ?_ | (refine xo_gtr rfl rfl rfl rfl ?_))
       first | refine xo_pickT rfl rfl rfl rfl ?_ | refine xo_pickF rfl rfl rfl rfl ?_
       refine xo_mv rfl rfl rfl ?_
       first
         | refine xo_lit (i := 22) (b := true) rfl ?_
         | refine xo_lit (i := 22) (b := false) rfl ?_
         | refine xo_split (i := 22) rfl rfl (fun h22 => ?_) (fun h22 => ?_)
       all_goals
         try simp only [decide_eq_true_eq, decide_eq_false_iff_not] at h22
         (first | refine xo_not rfl rfl ?_ | (refine xo_fa T_ rfl rfl rfl rfl rfl ?_))
         (first | refine xo_not rfl rfl ?_ | (refine xo_load0 T_ rfl rfl rfl (by repeat first | exact memH | apply memT | apply memA) rfl rfl ?_))
         (first | refine xo_not rfl rfl ?_ | (refine xo_len T_ rfl rfl rfl rfl ?_))
         (first | refine xo_not rfl rfl ?_ | (refine xo_gtr rfl rfl rfl rfl ?_))
         first | refine xo_pickT rfl rfl rfl rfl ?_ | refine xo_pickF rfl rfl rfl rfl ?_
         with_reducible refine xo_nil ?_
         exact xq_meet (fun _ => True) _ _ () trivial ⟨(by first | rfl | exact congrArg (fun b => some (Value.bool b)) (by first | simp [h10, h16, h22] | simp [h10, h16] | simp [h10] | simp [])), (by first | rfl | exact congrArg (fun b => some (Value.bool b)) (by first | simp [h10, h16, h22] | simp [h10, h16] | simp [h10] | simp [])), trivial⟩ (by repeat (first | exact List.Sublist.refl _ | apply List.Sublist.cons_cons | apply List.Sublist.cons | exact List.nil_sublist _))
 with_reducible (repeat (first | refine xqT ?_ | refine xqB ?_ | refine xqS ?_))
 cases h1 : (!inF 1 6 R || !inF 0 600 E || decide ((6 : Int) < gs.length) || decide ((8 : Int) < ms.length))
 rotate_left
 · with_reducible repeat refine xc_seq ?_
   refine xc_condT rfl ?_
   with_reducible ((repeat refine xc_seq ?_); refine xcR ?_)
   refine xo_asg rfl rfl rfl ?_
   with_reducible (refine xo_nil ?_; (repeat (first | refine xqT ?_ | refine xqB ?_ | refine xqS ?_)); (repeat refine xc_seq ?_); refine xc_ret ?_; (repeat (first | refine xq_thenR ?_ | refine xq_blockR ?_ | refine xq_scopeR ?_)))
   exact xq_ret1 rfl rfl fun w' hw => ⟨rfl, hw.kx.below⟩
 have hb : (1 ≤ R ∧ R ≤ 6) ∧ (0 ≤ E ∧ E ≤ 600) ∧ gs.length ≤ 6 ∧ ms.length ≤ 8 := by
   simp only [Bool.or_eq_false_iff, Bool.not_eq_false', decide_eq_false_iff_not] at h1
   exact ⟨inF_iff.1 h1.1.1.1, inF_iff.1 h1.1.1.2, by omega, by omega⟩
 clear h1
 obtain ⟨hR, hE, hg6, hm8⟩ := hb
 rw [Bool.not_false, Bool.true_and]
 with_reducible (repeat refine xc_seq ?_)
 refine xc_condF rfl ?_
 with_reducible (refine xc_skip ?_; (repeat (first | refine xqT ?_ | refine xqB ?_ | refine xqS ?_)); (repeat refine xc_seq ?_); refine xcR ?_)
 refine xo_asg rfl rfl rfl ?_
 with_reducible (refine xo_nil ?_; (repeat (first | refine xqT ?_ | refine xqB ?_ | refine xqS ?_)); (repeat refine xc_seq ?_); refine xc_block ?_)
 refine xc_loop (γ := Nat) (fun k => k ≤ gs.length ∧ ∀ j, j < k → gateB R (gs.getD j zGat) = true) (fun k => [(1, .pointer (some ⟨b1, 0, none⟩)), (3, .int .i64 (k : Int))]) (fun _ => [(b1, true, cel (scnV R A gs.length c E B ms.length c2) 25)]) (fun k => gs.length - k) 0 ⟨Nat.zero_le _, fun j hj => absurd hj (Nat.not_lt_zero _)⟩ ⟨rfl, rfl, trivial⟩ (List.Sublist.refl _) ?_
 rintro k ⟨hk, hall⟩
 with_reducible ((repeat refine xc_seq ?_); refine xcR ?_)
 refine xo_mv rfl rfl rfl ?_
 refine xo_fa T_ rfl rfl rfl rfl rfl ?_
 refine xo_load0 T_ rfl rfl rfl (by repeat first | exact memH | apply memT | apply memA) rfl rfl ?_
 refine xo_len T_ rfl rfl rfl rfl ?_
 refine xo_lss rfl rfl rfl rfl ?_
 with_reducible (refine xo_nil ?_; (repeat (first | refine xqT ?_ | refine xqB ?_ | refine xqS ?_)); (repeat refine xc_seq ?_))
 refine xc_cond rfl (fun h => ?_) (fun h => ?_)
 · have hlt : k < gs.length := by have := of_decide_eq_true h; omega
   obtain ⟨ad, rfl, q1⟩ := hA k hlt
   have hmem := getD_mem gs zGat k hlt
   have hsk : gateB R (gs.getD k zGat) = true → ∀ j, j < k + 1 → gateB R (gs.getD j zGat) = true := fun h j hj => by
     by_cases e : j = k
     · subst e; exact h
     · exact hall j (by omega)
   generalize hgk : gs.getD k zGat = g at q1 hsk hmem
   with_reducible (refine xc_skip ?_; (repeat (first | refine xqT ?_ | refine xqB ?_ | refine xqS ?_)); (repeat refine xc_seq ?_); refine xc_block ?_; (repeat refine xc_seq ?_); refine xcR ?_)
   refine xo_fa T_ rfl rfl rfl rfl rfl ?_
   refine xo_load0 T_ rfl rfl rfl (by repeat first | exact memH | apply memT | apply memA) rfl rfl ?_
   refine xo_mv rfl rfl rfl ?_
   refine xo_ia T_ rfl rfl rfl rfl rfl ⟨by omega, by omega⟩ rfl ?_
   refine xo_loadRN T_ rfl rfl rfl q1 rfl rfl ?_
   refine xo_alloc T_ rfl rfl rfl rfl (fun b4 => ?_)
   refine xo_store T_ rfl rfl rfl rfl (by repeat first | exact memH | apply memT | apply memA) rfl rfl rfl rfl (by repeat (first | exact Upd.head | apply Upd.tail | apply Upd.app)) rfl ?_
   with_reducible (refine xo_nil ?_; (repeat (first | refine xqT ?_ | refine xqB ?_ | refine xqS ?_)); (repeat refine xc_seq ?_))
   refine xc_meet2 (γ := Unit) (fun _ => True) (fun _ => [(1, .pointer (some ⟨b1, 0, none⟩)), (3, .int .i64 (k : Int)), (89, .bool (!gateB R g))]) (fun _ => [(b1, true, cel (scnV R (some ad) gs.length c E B ms.length c2) 25)]) ?_ (fun _ _ => ?_)
   · with_reducible refine xcR ?_
     refine xo_fa T_ rfl rfl rfl rfl rfl ?_
     refine xo_load0 T_ rfl rfl rfl (by repeat first | exact memH | apply memT | apply memA) rfl rfl ?_
     refine xo_fa T_ rfl rfl rfl rfl rfl ?_
     refine xo_load0 T_ rfl rfl rfl (by repeat first | exact memH | apply memT | apply memA) rfl rfl ?_
     refine xo_sub rfl rfl rfl (by omega) rfl ?_
     refine xo_callB (fs := []) (cs := []) rfl rfl rfl within_enters rfl (fun w1 hw1 => within_calls g.f0 0 (R - 1) w1) ?_
     refine xo_notOp rfl rfl rfl ?_
     refine xo_mv rfl rfl rfl ?_
     first
       | refine xo_lit (i := 47) (b := true) rfl ?_
       | refine xo_lit (i := 47) (b := false) rfl ?_
       | refine xo_split (i := 47) rfl rfl (fun h47 => ?_) (fun h47 => ?_)
     all_goals
       try simp only [decide_eq_true_eq, decide_eq_false_iff_not] at h47
       (first | refine xo_not rfl rfl ?_ | (refine xo_fa T_ rfl rfl rfl rfl rfl ?_))
       (first | refine xo_not rfl rfl ?_ | (refine xo_load0 T_ rfl rfl rfl (by repeat first | exact memH | apply memT | apply memA) rfl rfl ?_))
       (first | refine xo_not rfl rfl ?_ | (refine xo_fa T_ rfl rfl rfl rfl rfl ?_))
       (first | refine xo_not rfl rfl ?_ | (refine xo_load0 T_ rfl rfl rfl (by repeat first | exact memH | apply memT | apply memA) rfl rfl ?_))
       (first | refine xo_not rfl rfl ?_ | (refine xo_sub rfl rfl rfl (by omega) rfl ?_))
       (first | refine xo_not rfl rfl ?_ | (refine xo_callB (fs := []) (cs := []) rfl rfl rfl within_enters rfl (fun w1 hw1 => within_calls g.f1 0 (R - 1) w1) ?_))
       (first | refine xo_not rfl rfl ?_ | (refine xo_notOp rfl rfl rfl ?_))
       first | refine xo_pickT rfl rfl rfl rfl ?_ | refine xo_pickF rfl rfl rfl rfl ?_
       refine xo_mv rfl rfl rfl ?_
       first
         | refine xo_lit (i := 56) (b := true) rfl ?_
         | refine xo_lit (i := 56) (b := false) rfl ?_
         | refine xo_split (i := 56) rfl rfl (fun h56 => ?_) (fun h56 => ?_)
       all_goals
         try simp only [decide_eq_true_eq, decide_eq_false_iff_not] at h56
         (first | refine xo_not rfl rfl ?_ | (refine xo_fa T_ rfl rfl rfl rfl rfl ?_))
         (first | refine xo_not rfl rfl ?_ | (refine xo_load0 T_ rfl rfl rfl (by repeat first | exact memH | apply memT | apply memA) rfl rfl ?_))
         (first | refine xo_not rfl rfl ?_ | (refine xo_fa T_ rfl rfl rfl rfl rfl ?_))
         (first | refine xo_not rfl rfl ?_ | (refine xo_load0 T_ rfl rfl rfl (by repeat first | exact memH | apply memT | apply memA) rfl rfl ?_))
         (first | refine xo_not rfl rfl ?_ | (refine xo_eql rfl rfl rfl rfl ?_))
         first | refine xo_pickT rfl rfl rfl rfl ?_ | refine xo_pickF rfl rfl rfl rfl ?_
         refine xo_mv rfl rfl rfl ?_
         first
           | refine xo_lit (i := 63) (b := true) rfl ?_
           | refine xo_lit (i := 63) (b := false) rfl ?_
           | refine xo_split (i := 63) rfl rfl (fun h63 => ?_) (fun h63 => ?_)
         all_goals
           try simp only [decide_eq_true_eq, decide_eq_false_iff_not] at h63
           (first | refine xo_not rfl rfl ?_ | (refine xo_fa T_ rfl rfl rfl rfl rfl ?_))
           (first | refine xo_not rfl rfl ?_ | (refine xo_fa T_ rfl rfl rfl rfl rfl ?_))
           (first | refine xo_not rfl rfl ?_ | (refine xo_load0 T_ rfl rfl rfl (by repeat first | exact memH | apply memT | apply memA) rfl rfl ?_))
           (first | refine xo_not rfl rfl ?_ | (refine xo_callB (fs := []) (cs := []) rfl rfl rfl within_enters rfl (fun w1 hw1 => within_calls g.f2.f0 0 60 w1) ?_))
           (first | refine xo_not rfl rfl ?_ | (refine xo_notOp rfl rfl rfl ?_))
           first | refine xo_pickT rfl rfl rfl rfl ?_ | refine xo_pickF rfl rfl rfl rfl ?_
           refine xo_mv rfl rfl rfl ?_
           first
             | refine xo_lit (i := 70) (b := true) rfl ?_
             | refine xo_lit (i := 70) (b := false) rfl ?_
             | refine xo_split (i := 70) rfl rfl (fun h70 => ?_) (fun h70 => ?_)
           all_goals
             try simp only [decide_eq_true_eq, decide_eq_false_iff_not] at h70
             (first | refine xo_not rfl rfl ?_ | (refine xo_fa T_ rfl rfl rfl rfl rfl ?_))
             (first | refine xo_not rfl rfl ?_ | (refine xo_fa T_ rfl rfl rfl rfl rfl ?_))
             (first | refine xo_not rfl rfl ?_ | (refine xo_load0 T_ rfl rfl rfl (by repeat first | exact memH | apply memT | apply memA) rfl rfl ?_))
             (first | refine xo_not rfl rfl ?_ | (refine xo_fa T_ rfl rfl rfl rfl rfl ?_))
             (first | refine xo_not rfl rfl ?_ | (refine xo_fa T_ rfl rfl rfl rfl rfl ?_))
             (first | refine xo_not rfl rfl ?_ | (refine xo_load0 T_ rfl rfl rfl (by repeat first | exact memH | apply memT | apply memA) rfl rfl ?_))
             (first | refine xo_not rfl rfl ?_ | (refine xo_fa T_ rfl rfl rfl rfl rfl ?_))
             (first | refine xo_not rfl rfl ?_ | (refine xo_fa T_ rfl rfl rfl rfl rfl ?_))
             (first | refine xo_not rfl rfl ?_ | (refine xo_load0 T_ rfl rfl rfl (by repeat first | exact memH | apply memT | apply memA) rfl rfl ?_))
             (first | refine xo_not rfl rfl ?_ | (refine xo_add rfl rfl rfl (by have := inF_iff.1 (show inF 0 60 g.f2.f0 = true by simpa using h70); omega) rfl ?_))
             (first | refine xo_not rfl rfl ?_ | (refine xo_callB (fs := []) (cs := []) rfl rfl rfl within_enters rfl (fun w1 hw1 => within_calls g.f2.f1 g.f2.f0 (g.f2.f0 + 2) w1) ?_))
             (first | refine xo_not rfl rfl ?_ | (refine xo_notOp rfl rfl rfl ?_))
             first | refine xo_pickT rfl rfl rfl rfl ?_ | refine xo_pickF rfl rfl rfl rfl ?_
             refine xo_mv rfl rfl rfl ?_
             first
               | refine xo_lit (i := 84) (b := true) rfl ?_
               | refine xo_lit (i := 84) (b := false) rfl ?_
               | refine xo_split (i := 84) rfl rfl (fun h84 => ?_) (fun h84 => ?_)
             all_goals
               try simp only [decide_eq_true_eq, decide_eq_false_iff_not] at h84
               (first | refine xo_not rfl rfl ?_ | (refine xo_fa T_ rfl rfl rfl rfl rfl ?_))
               (first | refine xo_not rfl rfl ?_ | (refine xo_fa T_ rfl rfl rfl rfl rfl ?_))
               (first | refine xo_not rfl rfl ?_ | (refine xo_load0 T_ rfl rfl rfl (by repeat first | exact memH | apply memT | apply memA) rfl rfl ?_))
               (first | refine xo_not rfl rfl ?_ | (refine xo_gtr rfl rfl rfl rfl ?_))
               first | refine xo_pickT rfl rfl rfl rfl ?_ | refine xo_pickF rfl rfl rfl rfl ?_
               with_reducible refine xo_nil ?_
               exact xq_meet (fun _ => True) _ _ () trivial ⟨(by first | rfl | exact congrArg (fun b => some (Value.bool b)) (by first | simp [h47, h56, h63, h70, h84, gateB] | simp [h47, h56, h63, h70, gateB] | simp [h47, h56, h63, gateB] | simp [h47, h56, gateB] | simp [h47, gateB] | simp [gateB])), (by first | rfl | exact congrArg (fun b => some (Value.bool b)) (by first | simp [h47, h56, h63, h70, h84, gateB] | simp [h47, h56, h63, h70, gateB] | simp [h47, h56, h63, gateB] | simp [h47, h56, gateB] | simp [h47, gateB] | simp [gateB])), (by first | rfl | exact congrArg (fun b => some (Value.bool b)) (by first | simp [h47, h56, h63, h70, h84, gateB] | simp [h47, h56, h63, h70, gateB] | simp [h47, h56, h63, gateB] | simp [h47, h56, gateB] | simp [h47, gateB] | simp [gateB])), trivial⟩ (by repeat (first | exact List.Sublist.refl _ | apply List.Sublist.cons_cons | apply List.Sublist.cons | exact List.nil_sublist _))
   with_reducible (repeat (first | refine xqT ?_ | refine xqB ?_ | refine xqS ?_))
   cases hq : gateB R g
   · have e1 : gs.all (gateB R) = false := List.all_eq_false.2 ⟨g, hmem, by rw [hq]; exact Bool.false_ne_true⟩
     rw [e1]
     with_reducible (repeat refine xc_seq ?_)
     refine xc_condT rfl ?_
     with_reducible ((repeat refine xc_seq ?_); refine xcR ?_)
     refine xo_asg rfl rfl rfl ?_
     with_reducible (refine xo_nil ?_; (repeat (first | refine xqT ?_ | refine xqB ?_ | refine xqS ?_)); (repeat refine xc_seq ?_); refine xc_ret ?_; (repeat (first | refine xq_thenR ?_ | refine xq_blockR ?_ | refine xq_scopeR ?_)))
     exact xq_ret1 rfl rfl fun w' hw => ⟨rfl, hw.kx.below⟩
   · with_reducible repeat refine xc_seq ?_
     refine xc_condF rfl ?_
     with_reducible (refine xc_skip ?_; (repeat (first | refine xqT ?_ | refine xqB ?_ | refine xqS ?_)); (repeat refine xc_seq ?_); refine xcR ?_)
     refine xo_mv rfl rfl rfl ?_
     refine xo_add rfl rfl rfl (by omega) rfl ?_
     refine xo_asg rfl rfl rfl ?_
     with_reducible (refine xo_nil ?_; (repeat (first | refine xqT ?_ | refine xqB ?_ | refine xqS ?_)))
     exact xq_again _ _ _ _ _ (k + 1) ⟨hlt, hsk hq⟩ (by omega) ⟨rfl, rfl, trivial⟩ (List.Sublist.refl _)
 have hge : k = gs.length := by have := of_decide_eq_false h; omega
 have e1 : gs.all (gateB R) = true := List.all_eq_true.2 fun g hg => by
   obtain ⟨j, hj, rfl⟩ := List.getElem_of_mem hg
   have := hall j (by omega)
   rwa [show gs.getD j zGat = gs[j] by simp [List.getD_eq_getElem?_getD, List.getElem?_eq_getElem hj]] at this
 rw [e1, Bool.true_and]
 clear e1 hall
 subst hge
 with_reducible (refine xc_exit ?_; (repeat (first | refine xq_blockX ?_ | refine xq_thenE ?_ | refine xq_blockE rfl ?_ | refine xq_scopeE ?_)); (repeat (first | refine xqT ?_ | refine xqB ?_ | refine xqS ?_)); (repeat refine xc_seq ?_); refine xcR ?_)
 refine xo_asg rfl rfl rfl ?_
 with_reducible (refine xo_nil ?_; (repeat (first | refine xqT ?_ | refine xqB ?_ | refine xqS ?_)); (repeat refine xc_seq ?_); refine xc_block ?_)
 refine xc_loop (γ := Nat) (fun k => k ≤ ms.length ∧ marksB R (-1) ms = marksB R (lastId ms k) (ms.drop k)) (fun k => [(1, .pointer (some ⟨b1, 0, none⟩)), (5, .int .i64 (k : Int))]) (fun _ => [(b1, true, cel (scnV R A gs.length c E B ms.length c2) 25)]) (fun k => ms.length - k) 0 ⟨Nat.zero_le _, rfl⟩ ⟨rfl, rfl, trivial⟩ (List.Sublist.refl _) ?_
 rintro k ⟨hk, hall⟩
 with_reducible ((repeat refine xc_seq ?_); refine xcR ?_)
 refine xo_mv rfl rfl rfl ?_
 refine xo_fa T_ rfl rfl rfl rfl rfl ?_
 refine xo_load0 T_ rfl rfl rfl (by repeat first | exact memH | apply memT | apply memA) rfl rfl ?_
 refine xo_len T_ rfl rfl rfl rfl ?_
 refine xo_lss rfl rfl rfl rfl ?_
 with_reducible (refine xo_nil ?_; (repeat (first | refine xqT ?_ | refine xqB ?_ | refine xqS ?_)); (repeat refine xc_seq ?_))
 refine xc_cond rfl (fun h => ?_) (fun h => ?_)
 · have hlt : k < ms.length := by have := of_decide_eq_true h; omega
   obtain ⟨ad, rfl, q1⟩ := hM k hlt
   rw [marksB_step R hlt] at hall
   have hnx : lastId ms (k + 1) = (ms.getD k zMar).f0 := by unfold lastId; rw [if_neg (by omega)]; rfl
   with_reducible (refine xc_skip ?_; (repeat (first | refine xqT ?_ | refine xqB ?_ | refine xqS ?_)); (repeat refine xc_seq ?_); refine xc_block ?_)
   refine xc_slots [(1, .pointer (some ⟨b1, 0, none⟩)), (5, .int .i64 (k : Int))] ⟨rfl, rfl, trivial⟩ ?_
   cases hq : markB R (ms.getD k zMar)
   · rw [hq, Bool.false_and, Bool.false_and] at hall
     rw [hall]
     generalize ms.getD k zMar = m at q1 hq
     have hq' : (!markB R m) = true := by rw [hq]; rfl
     with_reducible (repeat refine xc_seq ?_)
     apply xc_drawN
     · exact T_.mixed
     · rfl
     · rfl
     · rfl
     · rfl
     · apply DrawOps.cons
       · intro τ
         refine xo_loadN T_ rfl rfl rfl (by repeat first | exact memH | apply memT | apply memA) rfl rfl ?_
         exact xo_fin rfl
       apply DrawOps.cons
       · intro τ
         refine xo_fa T_ rfl rfl rfl rfl rfl ?_
         exact xo_fin rfl
       apply DrawOps.cons
       · intro τ
         refine xo_load0 T_ rfl rfl rfl (by repeat first | exact memH | apply memT | apply memA) rfl rfl ?_
         exact xo_fin rfl
       apply DrawOps.cons
       · intro τ
         refine xo_mv rfl rfl rfl ?_
         exact xo_fin rfl
       apply DrawOps.cons
       · intro τ
         refine xo_ia T_ rfl rfl rfl rfl rfl ⟨by omega, by omega⟩ rfl ?_
         exact xo_fin rfl
       apply DrawOps.cons
       · intro τ
         refine xo_loadRN T_ rfl rfl rfl q1 rfl rfl ?_
         exact xo_fin rfl
       apply DrawOps.cons
       · intro τ
         refine xo_callB (fs := []) (cs := []) rfl rfl rfl mark_enters rfl (fun w1 hw1 => mark_calls R E A (some ad) gs.length c ms.length c2 m w1 hR) ?_
         exact xo_fin rfl
       apply DrawOps.cons
       · intro τ
         refine xo_notOp rfl rfl rfl ?_
         first
           | exact xo_fin (congrArg Value.bool hq')
           | exact xo_fin rfl
       apply DrawOps.cons
       · intro τ
         refine xo_mv rfl rfl rfl ?_
         exact xo_fin rfl
       apply DrawOps.cons
       · intro τ
         (first | refine xo_not rfl rfl ?_ | (refine xo_mv rfl rfl rfl ?_))
         exact xo_fin rfl
       apply DrawOps.cons
       · intro τ
         (first | refine xo_not rfl rfl ?_ | (refine xo_gtr rfl rfl rfl rfl ?_))
         exact xo_fin rfl
       apply DrawOps.cons
       · intro τ
         (first | refine xo_not rfl rfl ?_ | (refine xo_mv rfl rfl rfl ?_))
         exact xo_fin rfl
       apply DrawOps.cons
       · intro τ
         (first | refine xo_not rfl rfl ?_ | (refine xo_fa T_ rfl rfl rfl rfl rfl ?_))
         exact xo_fin rfl
       apply DrawOps.cons
       · intro τ
         (first | refine xo_not rfl rfl ?_ | (refine xo_load0 T_ rfl rfl rfl (by repeat first | exact memH | apply memT | apply memA) rfl rfl ?_))
         exact xo_fin rfl
       apply DrawOps.cons
       · intro τ
         (first | refine xo_not rfl rfl ?_ | (refine xo_mv rfl rfl rfl ?_))
         exact xo_fin rfl
       apply DrawOps.cons
       · intro τ
         (first | refine xo_not rfl rfl ?_ | (refine xo_ia T_ rfl rfl rfl rfl rfl ⟨by omega, by omega⟩ rfl ?_))
         exact xo_fin rfl
       apply DrawOps.cons
       · intro τ
         (first | refine xo_not rfl rfl ?_ | (refine xo_faR T_ rfl rfl rfl rfl rfl ?_))
         exact xo_fin rfl
       apply DrawOps.cons
       · intro τ
         (first | refine xo_not rfl rfl ?_ | (refine xo_loadR0 T_ rfl rfl rfl (by first | assumption | exact RO.fld (by assumption) rfl) rfl ?_))
         exact xo_fin rfl
       apply DrawOps.cons
       · intro τ
         (first | refine xo_not rfl rfl ?_ | (refine xo_fa T_ rfl rfl rfl rfl rfl ?_))
         exact xo_fin rfl
       apply DrawOps.cons
       · intro τ
         (first | refine xo_not rfl rfl ?_ | (refine xo_load0 T_ rfl rfl rfl (by repeat first | exact memH | apply memT | apply memA) rfl rfl ?_))
         exact xo_fin rfl
       apply DrawOps.cons
       · intro τ
         (first | refine xo_not rfl rfl ?_ | (refine xo_mv rfl rfl rfl ?_))
         exact xo_fin rfl
       apply DrawOps.cons
       · intro τ
         (first | refine xo_not rfl rfl ?_ | (refine xo_sub rfl rfl rfl (by omega) rfl ?_))
         exact xo_fin rfl
       apply DrawOps.cons
       · intro τ
         (first | refine xo_not rfl rfl ?_ | (refine xo_ia T_ rfl rfl rfl rfl rfl ⟨by omega, by omega⟩ rfl ?_))
         exact xo_fin rfl
       apply DrawOps.cons
       · intro τ
         (first | refine xo_not rfl rfl ?_ | (refine xo_faR T_ rfl rfl rfl rfl rfl ?_))
         exact xo_fin rfl
       apply DrawOps.cons
       · intro τ
         (first | refine xo_not rfl rfl ?_ | (refine xo_loadR0 T_ rfl rfl rfl (by first | assumption | exact RO.fld (by assumption) rfl) rfl ?_))
         exact xo_fin rfl
       apply DrawOps.cons
       · intro τ
         (first | refine xo_not rfl rfl ?_ | (refine xo_leq rfl rfl rfl rfl ?_))
         exact xo_fin rfl
       apply DrawOps.cons
       · intro τ
         (first | refine xo_not rfl rfl ?_ | (first | refine xo_pickT rfl rfl rfl rfl ?_ | refine xo_pickF rfl rfl rfl rfl ?_))
         exact xo_fin rfl
       apply DrawOps.cons
       · intro τ
         first | refine xo_pickT rfl rfl rfl rfl ?_ | refine xo_pickF rfl rfl rfl rfl ?_
         exact xo_fin rfl
       exact DrawOps.nil
     · rfl
     with_reducible ((repeat (first | refine xqT ?_ | refine xqB ?_ | refine xqS ?_)); (repeat refine xc_seq ?_))
     refine xc_condT rfl ?_
     with_reducible ((repeat refine xc_seq ?_); refine xcR ?_)
     refine xo_asg rfl rfl rfl ?_
     with_reducible (refine xo_nil ?_; (repeat (first | refine xqT ?_ | refine xqB ?_ | refine xqS ?_)); (repeat refine xc_seq ?_); refine xc_ret ?_; (repeat (first | refine xq_thenR ?_ | refine xq_blockR ?_ | refine xq_scopeR ?_)))
     exact xq_ret1 rfl rfl fun w' hw => ⟨rfl, hw.kx.below⟩
   rw [hq, Bool.true_and] at hall
   have hq' : (!markB R (ms.getD k zMar)) = false := by rw [hq]; rfl
   have hid0 : 0 ≤ (ms.getD k zMar).f0 := by
     simp only [markB, Bool.and_eq_true] at hq
     exact (inF_iff.1 hq.1.1).1
   by_cases hk0 : k = 0
   · subst hk0
     have e2 : decide (lastId ms 0 < (ms.getD 0 zMar).f0) = true := by
       unfold lastId
       rw [if_pos rfl, decide_eq_true_eq]
       omega
     rw [e2, Bool.true_and] at hall
     generalize ms.getD 0 zMar = m at q1 hq hq' hall hnx hid0
     have hz : decide ((0 : Int) < ((0 : Nat) : Int)) = false := rfl
     with_reducible (repeat refine xc_seq ?_)
     apply xc_drawN
     · exact T_.mixed
     · rfl
     · rfl
     · rfl
     · rfl
     · apply DrawOps.cons
       · intro τ
         refine xo_loadN T_ rfl rfl rfl (by repeat first | exact memH | apply memT | apply memA) rfl rfl ?_
         exact xo_fin rfl
       apply DrawOps.cons
       · intro τ
         refine xo_fa T_ rfl rfl rfl rfl rfl ?_
         exact xo_fin rfl
       apply DrawOps.cons
       · intro τ
         refine xo_load0 T_ rfl rfl rfl (by repeat first | exact memH | apply memT | apply memA) rfl rfl ?_
         exact xo_fin rfl
       apply DrawOps.cons
       · intro τ
         refine xo_mv rfl rfl rfl ?_
         exact xo_fin rfl
       apply DrawOps.cons
       · intro τ
         refine xo_ia T_ rfl rfl rfl rfl rfl ⟨by omega, by omega⟩ rfl ?_
         exact xo_fin rfl
       apply DrawOps.cons
       · intro τ
         refine xo_loadRN T_ rfl rfl rfl q1 rfl rfl ?_
         exact xo_fin rfl
       apply DrawOps.cons
       · intro τ
         refine xo_callB (fs := []) (cs := []) rfl rfl rfl mark_enters rfl (fun w1 hw1 => mark_calls R E A (some ad) gs.length c ms.length c2 m w1 hR) ?_
         exact xo_fin rfl
       apply DrawOps.cons
       · intro τ
         refine xo_notOp rfl rfl rfl ?_
         first
           | exact xo_fin (congrArg Value.bool hq')
           | exact xo_fin rfl
       apply DrawOps.cons
       · intro τ
         refine xo_mv rfl rfl rfl ?_
         exact xo_fin rfl
       apply DrawOps.cons
       · intro τ
         (first | refine xo_not rfl rfl ?_ | (refine xo_mv rfl rfl rfl ?_))
         exact xo_fin rfl
       apply DrawOps.cons
       · intro τ
         (first | refine xo_not rfl rfl ?_ | (refine xo_gtr rfl rfl rfl rfl ?_))
         first
           | exact xo_fin (congrArg Value.bool hz)
           | exact xo_fin rfl
       apply DrawOps.cons
       · intro τ
         (first | refine xo_not rfl rfl ?_ | (refine xo_mv rfl rfl rfl ?_))
         exact xo_fin rfl
       apply DrawOps.cons
       · intro τ
         (first | refine xo_not rfl rfl ?_ | (refine xo_fa T_ rfl rfl rfl rfl rfl ?_))
         exact xo_fin rfl
       apply DrawOps.cons
       · intro τ
         (first | refine xo_not rfl rfl ?_ | (refine xo_load0 T_ rfl rfl rfl (by repeat first | exact memH | apply memT | apply memA) rfl rfl ?_))
         exact xo_fin rfl
       apply DrawOps.cons
       · intro τ
         (first | refine xo_not rfl rfl ?_ | (refine xo_mv rfl rfl rfl ?_))
         exact xo_fin rfl
       apply DrawOps.cons
       · intro τ
         (first | refine xo_not rfl rfl ?_ | (refine xo_ia T_ rfl rfl rfl rfl rfl ⟨by omega, by omega⟩ rfl ?_))
         exact xo_fin rfl
       apply DrawOps.cons
       · intro τ
         (first | refine xo_not rfl rfl ?_ | (refine xo_faR T_ rfl rfl rfl rfl rfl ?_))
         exact xo_fin rfl
       apply DrawOps.cons
       · intro τ
         (first | refine xo_not rfl rfl ?_ | (refine xo_loadR0 T_ rfl rfl rfl (by first | assumption | exact RO.fld (by assumption) rfl) rfl ?_))
         exact xo_fin rfl
       apply DrawOps.cons
       · intro τ
         (first | refine xo_not rfl rfl ?_ | (refine xo_fa T_ rfl rfl rfl rfl rfl ?_))
         exact xo_fin rfl
       apply DrawOps.cons
       · intro τ
         (first | refine xo_not rfl rfl ?_ | (refine xo_load0 T_ rfl rfl rfl (by repeat first | exact memH | apply memT | apply memA) rfl rfl ?_))
         exact xo_fin rfl
       apply DrawOps.cons
       · intro τ
         (first | refine xo_not rfl rfl ?_ | (refine xo_mv rfl rfl rfl ?_))
         exact xo_fin rfl
       apply DrawOps.cons
       · intro τ
         (first | refine xo_not rfl rfl ?_ | (refine xo_sub rfl rfl rfl (by omega) rfl ?_))
         exact xo_fin rfl
       apply DrawOps.cons
       · intro τ
         (first | refine xo_not rfl rfl ?_ | (refine xo_ia T_ rfl rfl rfl rfl rfl ⟨by omega, by omega⟩ rfl ?_))
         exact xo_fin rfl
       apply DrawOps.cons
       · intro τ
         (first | refine xo_not rfl rfl ?_ | (refine xo_faR T_ rfl rfl rfl rfl rfl ?_))
         exact xo_fin rfl
       apply DrawOps.cons
       · intro τ
         (first | refine xo_not rfl rfl ?_ | (refine xo_loadR0 T_ rfl rfl rfl (by first | assumption | exact RO.fld (by assumption) rfl) rfl ?_))
         exact xo_fin rfl
       apply DrawOps.cons
       · intro τ
         (first | refine xo_not rfl rfl ?_ | (refine xo_leq rfl rfl rfl rfl ?_))
         exact xo_fin rfl
       apply DrawOps.cons
       · intro τ
         (first | refine xo_not rfl rfl ?_ | (first | refine xo_pickT rfl rfl rfl rfl ?_ | refine xo_pickF rfl rfl rfl rfl ?_))
         exact xo_fin rfl
       apply DrawOps.cons
       · intro τ
         first | refine xo_pickT rfl rfl rfl rfl ?_ | refine xo_pickF rfl rfl rfl rfl ?_
         exact xo_fin rfl
       exact DrawOps.nil
     · rfl
     with_reducible ((repeat (first | refine xqT ?_ | refine xqB ?_ | refine xqS ?_)); (repeat refine xc_seq ?_))
     refine xc_condF rfl ?_
     with_reducible (refine xc_skip ?_; (repeat (first | refine xqT ?_ | refine xqB ?_ | refine xqS ?_)); (repeat refine xc_seq ?_); refine xcR ?_)
     refine xo_mv rfl rfl rfl ?_
     refine xo_add rfl rfl rfl (by omega) rfl ?_
     refine xo_asg rfl rfl rfl ?_
     with_reducible (refine xo_nil ?_; (repeat (first | refine xqT ?_ | refine xqB ?_ | refine xqS ?_)))
     exact xq_again _ _ _ _ _ (0 + 1) ⟨hlt, by rw [hall, hnx]⟩ (by omega) ⟨rfl, rfl, trivial⟩ (List.Sublist.refl _)
   obtain ⟨ad0, e0, q0⟩ := hM (k - 1) (by omega)
   cases e0
   rw [show ((k - 1 : Nat) : Int) = (k : Int) - 1 by omega] at q0
   have hpos : decide ((0 : Int) < (k : Int)) = true := by rw [decide_eq_true_eq]; omega
   have hli : lastId ms k = (ms.getD (k - 1) zMar).f0 := by unfold lastId; rw [if_neg hk0]
   rw [hli] at hall
   generalize ms.getD k zMar = m at q1 hq hq' hall hnx hid0
   generalize ms.getD (k - 1) zMar = m0 at q0 hall
   cases hid : decide (m0.f0 < m.f0)
   · rw [hid, Bool.false_and] at hall
     rw [hall]
     have hle : decide (m.f0 ≤ m0.f0) = true := by have := of_decide_eq_false hid; rw [decide_eq_true_eq]; omega
     with_reducible (repeat refine xc_seq ?_)
     apply xc_drawN
     · exact T_.mixed
     · rfl
     · rfl
     · rfl
     · rfl
     · apply DrawOps.cons
       · intro τ
         refine xo_loadN T_ rfl rfl rfl (by repeat first | exact memH | apply memT | apply memA) rfl rfl ?_
         exact xo_fin rfl
       apply DrawOps.cons
       · intro τ
         refine xo_fa T_ rfl rfl rfl rfl rfl ?_
         exact xo_fin rfl
       apply DrawOps.cons
       · intro τ
         refine xo_load0 T_ rfl rfl rfl (by repeat first | exact memH | apply memT | apply memA) rfl rfl ?_
         exact xo_fin rfl
       apply DrawOps.cons
       · intro τ
         refine xo_mv rfl rfl rfl ?_
         exact xo_fin rfl
       apply DrawOps.cons
       · intro τ
         refine xo_ia T_ rfl rfl rfl rfl rfl ⟨by omega, by omega⟩ rfl ?_
         exact xo_fin rfl
       apply DrawOps.cons
       · intro τ
         refine xo_loadRN T_ rfl rfl rfl q1 rfl rfl ?_
         exact xo_fin rfl
       apply DrawOps.cons
       · intro τ
         refine xo_callB (fs := []) (cs := []) rfl rfl rfl mark_enters rfl (fun w1 hw1 => mark_calls R E A (some ad) gs.length c ms.length c2 m w1 hR) ?_
         exact xo_fin rfl
       apply DrawOps.cons
       · intro τ
         refine xo_notOp rfl rfl rfl ?_
         first
           | exact xo_fin (congrArg Value.bool hq')
           | exact xo_fin rfl
       apply DrawOps.cons
       · intro τ
         refine xo_mv rfl rfl rfl ?_
         exact xo_fin rfl
       apply DrawOps.cons
       · intro τ
         (first | refine xo_not rfl rfl ?_ | (refine xo_mv rfl rfl rfl ?_))
         exact xo_fin rfl
       apply DrawOps.cons
       · intro τ
         (first | refine xo_not rfl rfl ?_ | (refine xo_gtr rfl rfl rfl rfl ?_))
         first
           | exact xo_fin (congrArg Value.bool hpos)
           | exact xo_fin rfl
       apply DrawOps.cons
       · intro τ
         (first | refine xo_not rfl rfl ?_ | (refine xo_mv rfl rfl rfl ?_))
         exact xo_fin rfl
       apply DrawOps.cons
       · intro τ
         (first | refine xo_not rfl rfl ?_ | (refine xo_fa T_ rfl rfl rfl rfl rfl ?_))
         exact xo_fin rfl
       apply DrawOps.cons
       · intro τ
         (first | refine xo_not rfl rfl ?_ | (refine xo_load0 T_ rfl rfl rfl (by repeat first | exact memH | apply memT | apply memA) rfl rfl ?_))
         exact xo_fin rfl
       apply DrawOps.cons
       · intro τ
         (first | refine xo_not rfl rfl ?_ | (refine xo_mv rfl rfl rfl ?_))
         exact xo_fin rfl
       apply DrawOps.cons
       · intro τ
         (first | refine xo_not rfl rfl ?_ | (refine xo_ia T_ rfl rfl rfl rfl rfl ⟨by omega, by omega⟩ rfl ?_))
         exact xo_fin rfl
       apply DrawOps.cons
       · intro τ
         (first | refine xo_not rfl rfl ?_ | (refine xo_faR T_ rfl rfl rfl rfl rfl ?_))
         exact xo_fin rfl
       apply DrawOps.cons
       · intro τ
         (first | refine xo_not rfl rfl ?_ | (refine xo_loadR0 T_ rfl rfl rfl (RO.fld q1 rfl) rfl ?_))
         exact xo_fin rfl
       apply DrawOps.cons
       · intro τ
         (first | refine xo_not rfl rfl ?_ | (refine xo_fa T_ rfl rfl rfl rfl rfl ?_))
         exact xo_fin rfl
       apply DrawOps.cons
       · intro τ
         (first | refine xo_not rfl rfl ?_ | (refine xo_load0 T_ rfl rfl rfl (by repeat first | exact memH | apply memT | apply memA) rfl rfl ?_))
         exact xo_fin rfl
       apply DrawOps.cons
       · intro τ
         (first | refine xo_not rfl rfl ?_ | (refine xo_mv rfl rfl rfl ?_))
         exact xo_fin rfl
       apply DrawOps.cons
       · intro τ
         (first | refine xo_not rfl rfl ?_ | (refine xo_sub rfl rfl rfl (by omega) rfl ?_))
         exact xo_fin rfl
       apply DrawOps.cons
       · intro τ
         (first | refine xo_not rfl rfl ?_ | (refine xo_ia T_ rfl rfl rfl rfl rfl ⟨by omega, by omega⟩ rfl ?_))
         exact xo_fin rfl
       apply DrawOps.cons
       · intro τ
         (first | refine xo_not rfl rfl ?_ | (refine xo_faR T_ rfl rfl rfl rfl rfl ?_))
         exact xo_fin rfl
       apply DrawOps.cons
       · intro τ
         (first | refine xo_not rfl rfl ?_ | (refine xo_loadR0 T_ rfl rfl rfl (RO.fld q0 rfl) rfl ?_))
         exact xo_fin rfl
       apply DrawOps.cons
       · intro τ
         (first | refine xo_not rfl rfl ?_ | (refine xo_leq rfl rfl rfl rfl ?_))
         first
           | exact xo_fin (congrArg Value.bool hle)
           | exact xo_fin rfl
       apply DrawOps.cons
       · intro τ
         (first | refine xo_not rfl rfl ?_ | (first | refine xo_pickT rfl rfl rfl rfl ?_ | refine xo_pickF rfl rfl rfl rfl ?_))
         exact xo_fin rfl
       apply DrawOps.cons
       · intro τ
         first | refine xo_pickT rfl rfl rfl rfl ?_ | refine xo_pickF rfl rfl rfl rfl ?_
         exact xo_fin rfl
       exact DrawOps.nil
     · rfl
     with_reducible ((repeat (first | refine xqT ?_ | refine xqB ?_ | refine xqS ?_)); (repeat refine xc_seq ?_))
     refine xc_condT rfl ?_
     with_reducible ((repeat refine xc_seq ?_); refine xcR ?_)
     refine xo_asg rfl rfl rfl ?_
     with_reducible (refine xo_nil ?_; (repeat (first | refine xqT ?_ | refine xqB ?_ | refine xqS ?_)); (repeat refine xc_seq ?_); refine xc_ret ?_; (repeat (first | refine xq_thenR ?_ | refine xq_blockR ?_ | refine xq_scopeR ?_)))
     exact xq_ret1 rfl rfl fun w' hw => ⟨rfl, hw.kx.below⟩
   · rw [hid, Bool.true_and] at hall
     have hle : decide (m.f0 ≤ m0.f0) = false := by have := of_decide_eq_true hid; rw [decide_eq_false_iff_not]; omega
     with_reducible (repeat refine xc_seq ?_)
     apply xc_drawN
     · exact T_.mixed
     · rfl
     · rfl
     · rfl
     · rfl
     · apply DrawOps.cons
       · intro τ
         refine xo_loadN T_ rfl rfl rfl (by repeat first | exact memH | apply memT | apply memA) rfl rfl ?_
         exact xo_fin rfl
       apply DrawOps.cons
       · intro τ
         refine xo_fa T_ rfl rfl rfl rfl rfl ?_
         exact xo_fin rfl
       apply DrawOps.cons
       · intro τ
         refine xo_load0 T_ rfl rfl rfl (by repeat first | exact memH | apply memT | apply memA) rfl rfl ?_
         exact xo_fin rfl
       apply DrawOps.cons
       · intro τ
         refine xo_mv rfl rfl rfl ?_
         exact xo_fin rfl
       apply DrawOps.cons
       · intro τ
         refine xo_ia T_ rfl rfl rfl rfl rfl ⟨by omega, by omega⟩ rfl ?_
         exact xo_fin rfl
       apply DrawOps.cons
       · intro τ
         refine xo_loadRN T_ rfl rfl rfl q1 rfl rfl ?_
         exact xo_fin rfl
       apply DrawOps.cons
       · intro τ
         refine xo_callB (fs := []) (cs := []) rfl rfl rfl mark_enters rfl (fun w1 hw1 => mark_calls R E A (some ad) gs.length c ms.length c2 m w1 hR) ?_
         exact xo_fin rfl
       apply DrawOps.cons
       · intro τ
         refine xo_notOp rfl rfl rfl ?_
         first
           | exact xo_fin (congrArg Value.bool hq')
           | exact xo_fin rfl
       apply DrawOps.cons
       · intro τ
         refine xo_mv rfl rfl rfl ?_
         exact xo_fin rfl
       apply DrawOps.cons
       · intro τ
         (first | refine xo_not rfl rfl ?_ | (refine xo_mv rfl rfl rfl ?_))
         exact xo_fin rfl
       apply DrawOps.cons
       · intro τ
         (first | refine xo_not rfl rfl ?_ | (refine xo_gtr rfl rfl rfl rfl ?_))
         first
           | exact xo_fin (congrArg Value.bool hpos)
           | exact xo_fin rfl
       apply DrawOps.cons
       · intro τ
         (first | refine xo_not rfl rfl ?_ | (refine xo_mv rfl rfl rfl ?_))
         exact xo_fin rfl
       apply DrawOps.cons
       · intro τ
         (first | refine xo_not rfl rfl ?_ | (refine xo_fa T_ rfl rfl rfl rfl rfl ?_))
         exact xo_fin rfl
       apply DrawOps.cons
       · intro τ
         (first | refine xo_not rfl rfl ?_ | (refine xo_load0 T_ rfl rfl rfl (by repeat first | exact memH | apply memT | apply memA) rfl rfl ?_))
         exact xo_fin rfl
       apply DrawOps.cons
       · intro τ
         (first | refine xo_not rfl rfl ?_ | (refine xo_mv rfl rfl rfl ?_))
         exact xo_fin rfl
       apply DrawOps.cons
       · intro τ
         (first | refine xo_not rfl rfl ?_ | (refine xo_ia T_ rfl rfl rfl rfl rfl ⟨by omega, by omega⟩ rfl ?_))
         exact xo_fin rfl
       apply DrawOps.cons
       · intro τ
         (first | refine xo_not rfl rfl ?_ | (refine xo_faR T_ rfl rfl rfl rfl rfl ?_))
         exact xo_fin rfl
       apply DrawOps.cons
       · intro τ
         (first | refine xo_not rfl rfl ?_ | (refine xo_loadR0 T_ rfl rfl rfl (RO.fld q1 rfl) rfl ?_))
         exact xo_fin rfl
       apply DrawOps.cons
       · intro τ
         (first | refine xo_not rfl rfl ?_ | (refine xo_fa T_ rfl rfl rfl rfl rfl ?_))
         exact xo_fin rfl
       apply DrawOps.cons
       · intro τ
         (first | refine xo_not rfl rfl ?_ | (refine xo_load0 T_ rfl rfl rfl (by repeat first | exact memH | apply memT | apply memA) rfl rfl ?_))
         exact xo_fin rfl
       apply DrawOps.cons
       · intro τ
         (first | refine xo_not rfl rfl ?_ | (refine xo_mv rfl rfl rfl ?_))
         exact xo_fin rfl
       apply DrawOps.cons
       · intro τ
         (first | refine xo_not rfl rfl ?_ | (refine xo_sub rfl rfl rfl (by omega) rfl ?_))
         exact xo_fin rfl
       apply DrawOps.cons
       · intro τ
         (first | refine xo_not rfl rfl ?_ | (refine xo_ia T_ rfl rfl rfl rfl rfl ⟨by omega, by omega⟩ rfl ?_))
         exact xo_fin rfl
       apply DrawOps.cons
       · intro τ
         (first | refine xo_not rfl rfl ?_ | (refine xo_faR T_ rfl rfl rfl rfl rfl ?_))
         exact xo_fin rfl
       apply DrawOps.cons
       · intro τ
         (first | refine xo_not rfl rfl ?_ | (refine xo_loadR0 T_ rfl rfl rfl (RO.fld q0 rfl) rfl ?_))
         exact xo_fin rfl
       apply DrawOps.cons
       · intro τ
         (first | refine xo_not rfl rfl ?_ | (refine xo_leq rfl rfl rfl rfl ?_))
         first
           | exact xo_fin (congrArg Value.bool hle)
           | exact xo_fin rfl
       apply DrawOps.cons
       · intro τ
         (first | refine xo_not rfl rfl ?_ | (first | refine xo_pickT rfl rfl rfl rfl ?_ | refine xo_pickF rfl rfl rfl rfl ?_))
         exact xo_fin rfl
       apply DrawOps.cons
       · intro τ
         first | refine xo_pickT rfl rfl rfl rfl ?_ | refine xo_pickF rfl rfl rfl rfl ?_
         exact xo_fin rfl
       exact DrawOps.nil
     · rfl
     with_reducible ((repeat (first | refine xqT ?_ | refine xqB ?_ | refine xqS ?_)); (repeat refine xc_seq ?_))
     refine xc_condF rfl ?_
     with_reducible (refine xc_skip ?_; (repeat (first | refine xqT ?_ | refine xqB ?_ | refine xqS ?_)); (repeat refine xc_seq ?_); refine xcR ?_)
     refine xo_mv rfl rfl rfl ?_
     refine xo_add rfl rfl rfl (by omega) rfl ?_
     refine xo_asg rfl rfl rfl ?_
     with_reducible (refine xo_nil ?_; (repeat (first | refine xqT ?_ | refine xqB ?_ | refine xqS ?_)))
     exact xq_again _ _ _ _ _ (k + 1) ⟨hlt, by rw [hall, hnx]⟩ (by omega) ⟨rfl, rfl, trivial⟩ (List.Sublist.refl _)
 have hge : k = ms.length := by have := of_decide_eq_false h; omega
 rw [List.drop_of_length_le (by omega), marksB] at hall
 rw [hall]
 with_reducible (refine xc_exit ?_; (repeat (first | refine xq_blockX ?_ | refine xq_thenE ?_ | refine xq_blockE rfl ?_ | refine xq_scopeE ?_)); (repeat (first | refine xqT ?_ | refine xqB ?_ | refine xqS ?_)); (repeat refine xc_seq ?_); refine xcR ?_)
 refine xo_asg rfl rfl rfl ?_
 with_reducible (refine xo_nil ?_; (repeat (first | refine xqT ?_ | refine xqB ?_ | refine xqS ?_)); (repeat refine xc_seq ?_); refine xc_ret ?_; (repeat (first | refine xq_thenR ?_ | refine xq_blockR ?_ | refine xq_scopeR ?_)))
 exact xq_ret1 rfl rfl fun w' hw => ⟨rfl, hw.kx.below⟩
theorem scene_enters : ∀ args w, (callFunc 39 args).run Tryz.prog w = .ok (.enter 39 args) w := enters_of Tryz.func39 (by kernel_rfl) rfl
theorem every_calls (R E : Int) (A B : Option Addr) (n c c2 : Nat) (ms : List MarT) (w : World) (hm8 : ms.length ≤ 8) : Calls Tryz.prog 42 #[.agg (scnV R A n c E B ms.length c2).toArray] w fun e w' => e = .returned (.int .i64 ((2 ^ ms.length - 1 : Nat) : Int)) ∧ Below w.heap.size w w' := by
 have h2 := two8 hm8
 refine x_calls (X := XNone) Tryz.func42 rfl rfl rfl ?_
 with_reducible ((repeat refine xc_seq ?_); refine xcR ?_)
 refine xo_box rfl rfl rfl rfl (fun b1 => ?_)
 refine xo_asg rfl rfl rfl ?_
 with_reducible (refine xo_nil ?_; (repeat (first | refine xqT ?_ | refine xqB ?_ | refine xqS ?_)); (repeat refine xc_seq ?_); refine xcR ?_)
 refine xo_fa T_ rfl rfl rfl rfl rfl ?_
 refine xo_load0 T_ rfl rfl rfl (by repeat first | exact memH | apply memT | apply memA) rfl rfl ?_
 refine xo_len T_ rfl rfl rfl rfl ?_
 refine xo_shl1 rfl rfl rfl (by omega) rfl ?_
 refine xo_sub rfl rfl rfl (by omega) rfl ?_
 refine xo_asg rfl rfl rfl ?_
 with_reducible (refine xo_nil ?_; (repeat (first | refine xqT ?_ | refine xqB ?_ | refine xqS ?_)); (repeat refine xc_seq ?_); refine xc_ret ?_; (repeat (first | refine xq_thenR ?_ | refine xq_blockR ?_ | refine xq_scopeR ?_)))
 exact xq_ret1 rfl rfl fun w' hw => ⟨by rw [show ((2 ^ ms.length - 1 : Nat) : Int) = ((2 ^ ms.length : Nat) : Int) - 1 by omega], hw.kx.below⟩
theorem every_enters : ∀ args w, (callFunc 42 args).run Tryz.prog w = .ok (.enter 42 args) w := enters_of Tryz.func42 (by kernel_rfl) rfl
noncomputable def sceneE (R E R' E' : Int) (gs gs' : List GatT) (ms ms' : List MarT) : Bool := eqL (R, E, gs, ms) (R', E', gs', ms')
set_option maxHeartbeats 8000000 in
theorem same_calls (R E R' E' : Int) (A B A' B' : Option Addr) (c c2 c' c2' : Nat) (gs gs' : List GatT) (ms ms' : List MarT) (w : World) (hA : RowOf gatV 4 zGat w A gs) (hM : RowOf marV 7 zMar w B ms) (hA' : RowOf gatV 4 zGat w A' gs') (hM' : RowOf marV 7 zMar w B' ms') (l1 : gs.length ≤ 1000000) (l2 : ms.length ≤ 1000000) :
   Calls Tryz.prog 19 #[.agg (scnV R A gs.length c E B ms.length c2).toArray, .agg (scnV R' A' gs'.length c' E' B' ms'.length c2').toArray] w fun e w' => e = .returned (.bool (sceneE R E R' E' gs gs' ms ms')) ∧ Below w.heap.size w w' := by
 refine x_calls (X := XNone) Tryz.func19 rfl rfl rfl ?_
 with_reducible ((repeat refine xc_seq ?_); refine xcR ?_)
 refine xo_box rfl rfl rfl rfl (fun b2 => ?_)
 refine xo_box rfl rfl rfl rfl (fun b3 => ?_)
 refine xo_asg rfl rfl rfl ?_
 with_reducible (refine xo_nil ?_; (repeat (first | refine xqT ?_ | refine xqB ?_ | refine xqS ?_)); (repeat refine xc_seq ?_))
 refine xc_meet2 (γ := Unit) (fun _ => True) (fun _ => [(2, .pointer (some ⟨b2, 0, none⟩)), (3, .pointer (some ⟨b3, 0, none⟩)), (36, .bool (!decide (R = R') || !decide (E = E') || !decide ((gs.length : Int) = gs'.length) || !decide ((ms.length : Int) = ms'.length)))]) (fun _ => [(b3, true, cel (scnV R' A' gs'.length c' E' B' ms'.length c2') 25), (b2, true, cel (scnV R A gs.length c E B ms.length c2) 25)]) ?_ (fun _ _ => ?_)
 · with_reducible refine xcR ?_
   refine xo_fa T_ rfl rfl rfl rfl rfl ?_
   refine xo_load0 T_ rfl rfl rfl (by repeat first | exact memH | apply memT | apply memA) rfl rfl ?_
   refine xo_fa T_ rfl rfl rfl rfl rfl ?_
   refine xo_load0 T_ rfl rfl rfl (by repeat first | exact memH | apply memT | apply memA) rfl rfl ?_
   refine xo_neq rfl rfl rfl rfl ?_
   refine xo_mv rfl rfl rfl ?_
   first
     | refine xo_lit (i := 12) (b := true) rfl ?_
     | refine xo_lit (i := 12) (b := false) rfl ?_
     | refine xo_split (i := 12) rfl rfl (fun h12 => ?_) (fun h12 => ?_)
   all_goals
     try simp only [decide_eq_true_eq, decide_eq_false_iff_not] at h12
     (first | refine xo_not rfl rfl ?_ | (refine xo_fa T_ rfl rfl rfl rfl rfl ?_))
     (first | refine xo_not rfl rfl ?_ | (refine xo_load0 T_ rfl rfl rfl (by repeat first | exact memH | apply memT | apply memA) rfl rfl ?_))
     (first | refine xo_not rfl rfl ?_ | (refine xo_fa T_ rfl rfl rfl rfl rfl ?_))
     (first | refine xo_not rfl rfl ?_ | (refine xo_load0 T_ rfl rfl rfl (by repeat first | exact memH | apply memT | apply memA) rfl rfl ?_))
     (first | refine xo_not rfl rfl ?_ | (refine xo_neq rfl rfl rfl rfl ?_))
     first | refine xo_pickT rfl rfl rfl rfl ?_ | refine xo_pickF rfl rfl rfl rfl ?_
     refine xo_mv rfl rfl rfl ?_
     first
       | refine xo_lit (i := 19) (b := true) rfl ?_
       | refine xo_lit (i := 19) (b := false) rfl ?_
       | refine xo_split (i := 19) rfl rfl (fun h19 => ?_) (fun h19 => ?_)
     all_goals
       try simp only [decide_eq_true_eq, decide_eq_false_iff_not] at h19
       (first | refine xo_not rfl rfl ?_ | (refine xo_fa T_ rfl rfl rfl rfl rfl ?_))
       (first | refine xo_not rfl rfl ?_ | (refine xo_load0 T_ rfl rfl rfl (by repeat first | exact memH | apply memT | apply memA) rfl rfl ?_))
       (first | refine xo_not rfl rfl ?_ | (refine xo_len T_ rfl rfl rfl rfl ?_))
       (first | refine xo_not rfl rfl ?_ | (refine xo_fa T_ rfl rfl rfl rfl rfl ?_))
       (first | refine xo_not rfl rfl ?_ | (refine xo_load0 T_ rfl rfl rfl (by repeat first | exact memH | apply memT | apply memA) rfl rfl ?_))
       (first | refine xo_not rfl rfl ?_ | (refine xo_len T_ rfl rfl rfl rfl ?_))
       (first | refine xo_not rfl rfl ?_ | (refine xo_neq rfl rfl rfl rfl ?_))
       first | refine xo_pickT rfl rfl rfl rfl ?_ | refine xo_pickF rfl rfl rfl rfl ?_
       refine xo_mv rfl rfl rfl ?_
       first
         | refine xo_lit (i := 28) (b := true) rfl ?_
         | refine xo_lit (i := 28) (b := false) rfl ?_
         | refine xo_split (i := 28) rfl rfl (fun h28 => ?_) (fun h28 => ?_)
       all_goals
         try simp only [decide_eq_true_eq, decide_eq_false_iff_not] at h28
         (first | refine xo_not rfl rfl ?_ | (refine xo_fa T_ rfl rfl rfl rfl rfl ?_))
         (first | refine xo_not rfl rfl ?_ | (refine xo_load0 T_ rfl rfl rfl (by repeat first | exact memH | apply memT | apply memA) rfl rfl ?_))
         (first | refine xo_not rfl rfl ?_ | (refine xo_len T_ rfl rfl rfl rfl ?_))
         (first | refine xo_not rfl rfl ?_ | (refine xo_fa T_ rfl rfl rfl rfl rfl ?_))
         (first | refine xo_not rfl rfl ?_ | (refine xo_load0 T_ rfl rfl rfl (by repeat first | exact memH | apply memT | apply memA) rfl rfl ?_))
         (first | refine xo_not rfl rfl ?_ | (refine xo_len T_ rfl rfl rfl rfl ?_))
         (first | refine xo_not rfl rfl ?_ | (refine xo_neq rfl rfl rfl rfl ?_))
         first | refine xo_pickT rfl rfl rfl rfl ?_ | refine xo_pickF rfl rfl rfl rfl ?_
         with_reducible refine xo_nil ?_
         exact xq_meet (fun _ => True) _ _ () trivial ⟨(by first | rfl | exact congrArg (fun b => some (Value.bool b)) (by first | simp [h12, h19, h28] | simp [h12, h19] | simp [h12] | simp [])), (by first | rfl | exact congrArg (fun b => some (Value.bool b)) (by first | simp [h12, h19, h28] | simp [h12, h19] | simp [h12] | simp [])), (by first | rfl | exact congrArg (fun b => some (Value.bool b)) (by first | simp [h12, h19, h28] | simp [h12, h19] | simp [h12] | simp [])), trivial⟩ (by repeat (first | exact List.Sublist.refl _ | apply List.Sublist.cons_cons | apply List.Sublist.cons | exact List.nil_sublist _))
 with_reducible (repeat (first | refine xqT ?_ | refine xqB ?_ | refine xqS ?_))
 cases h1 : (!decide (R = R') || !decide (E = E') || !decide ((gs.length : Int) = gs'.length) || !decide ((ms.length : Int) = ms'.length))
 rotate_left
 · have hne : ¬ (R, E, gs, ms) = (R', E', gs', ms') := fun e => by
     simp only [Prod.mk.injEq] at e
     obtain ⟨rfl, rfl, rfl, rfl⟩ := e
     simp at h1
   with_reducible (repeat refine xc_seq ?_)
   refine xc_condT rfl ?_
   with_reducible ((repeat refine xc_seq ?_); refine xcR ?_)
   refine xo_asg rfl rfl rfl ?_
   with_reducible (refine xo_nil ?_; (repeat (first | refine xqT ?_ | refine xqB ?_ | refine xqS ?_)); (repeat refine xc_seq ?_); refine xc_ret ?_; (repeat (first | refine xq_thenR ?_ | refine xq_blockR ?_ | refine xq_scopeR ?_)))
   exact xq_ret1 rfl rfl fun w' hw => ⟨by rw [sceneE, eqL_false hne], hw.kx.below⟩
 simp only [Bool.or_eq_false_iff, Bool.not_eq_false', decide_eq_true_eq] at h1
 obtain ⟨⟨⟨rfl, rfl⟩, hg⟩, hm⟩ := h1
 with_reducible (repeat refine xc_seq ?_)
 refine xc_condF rfl ?_
 with_reducible (refine xc_skip ?_; (repeat (first | refine xqT ?_ | refine xqB ?_ | refine xqS ?_)); (repeat refine xc_seq ?_); refine xcR ?_)
 refine xo_asg rfl rfl rfl ?_
 with_reducible (refine xo_nil ?_; (repeat (first | refine xqT ?_ | refine xqB ?_ | refine xqS ?_)); (repeat refine xc_seq ?_); refine xc_block ?_)
 refine xc_loop (γ := Nat) (fun k => k ≤ gs.length ∧ gs.take k = gs'.take k) (fun k => [(2, .pointer (some ⟨b2, 0, none⟩)), (3, .pointer (some ⟨b3, 0, none⟩)), (5, .int .i64 (k : Int))]) (fun _ => [(b3, true, cel (scnV R A' gs'.length c' E B' ms'.length c2') 25), (b2, true, cel (scnV R A gs.length c E B ms.length c2) 25)]) (fun k => gs.length - k) 0 ⟨Nat.zero_le _, rfl⟩ ⟨rfl, rfl, rfl, trivial⟩ (List.Sublist.refl _) ?_
 rintro k ⟨hk, heq⟩
 with_reducible ((repeat refine xc_seq ?_); refine xcR ?_)
 refine xo_mv rfl rfl rfl ?_
 refine xo_fa T_ rfl rfl rfl rfl rfl ?_
 refine xo_load0 T_ rfl rfl rfl (by repeat first | exact memH | apply memT | apply memA) rfl rfl ?_
 refine xo_len T_ rfl rfl rfl rfl ?_
 refine xo_lss rfl rfl rfl rfl ?_
 with_reducible (refine xo_nil ?_; (repeat (first | refine xqT ?_ | refine xqB ?_ | refine xqS ?_)); (repeat refine xc_seq ?_))
 refine xc_cond rfl (fun h => ?_) (fun h => ?_)
 · have hlt : k < gs.length := by have := of_decide_eq_true h; omega
   obtain ⟨ad1, rfl, q1⟩ := hA k hlt
   obtain ⟨ad2, rfl, q2⟩ := hA' k (by omega)
   with_reducible (refine xc_skip ?_; (repeat (first | refine xqT ?_ | refine xqB ?_ | refine xqS ?_)); (repeat refine xc_seq ?_); refine xc_block ?_)
   refine xc_slots [(2, .pointer (some ⟨b2, 0, none⟩)), (3, .pointer (some ⟨b3, 0, none⟩)), (5, .int .i64 (k : Int))] ⟨rfl, rfl, rfl, trivial⟩ ?_
   with_reducible (repeat refine xc_seq ?_)
   apply xc_drawN
   · exact T_.mixed
   · rfl
   · rfl
   · rfl
   · rfl
   · apply DrawOps.cons
     · intro τ
       refine xo_fa T_ rfl rfl rfl rfl rfl ?_
       exact xo_fin rfl
     apply DrawOps.cons
     · intro τ
       refine xo_load0 T_ rfl rfl rfl (by repeat first | exact memH | apply memT | apply memA) rfl rfl ?_
       exact xo_fin rfl
     apply DrawOps.cons
     · intro τ
       refine xo_mv rfl rfl rfl ?_
       exact xo_fin rfl
     apply DrawOps.cons
     · intro τ
       refine xo_ia T_ rfl rfl rfl rfl rfl ⟨by omega, by omega⟩ rfl ?_
       exact xo_fin rfl
     apply DrawOps.cons
     · intro τ
       refine xo_loadRN T_ rfl rfl rfl q1 rfl rfl ?_
       exact xo_fin rfl
     apply DrawOps.cons
     · intro τ
       refine xo_fa T_ rfl rfl rfl rfl rfl ?_
       exact xo_fin rfl
     apply DrawOps.cons
     · intro τ
       refine xo_load0 T_ rfl rfl rfl (by repeat first | exact memH | apply memT | apply memA) rfl rfl ?_
       exact xo_fin rfl
     apply DrawOps.cons
     · intro τ
       refine xo_mv rfl rfl rfl ?_
       exact xo_fin rfl
     apply DrawOps.cons
     · intro τ
       refine xo_ia T_ rfl rfl rfl rfl rfl ⟨by omega, by omega⟩ rfl ?_
       exact xo_fin rfl
     apply DrawOps.cons
     · intro τ
       refine xo_loadRN T_ rfl rfl rfl q2 rfl rfl ?_
       exact xo_fin rfl
     apply DrawOps.cons
     · intro τ
       refine xo_neqV rfl rfl rfl (fun w => gat_ne _ _ (gs.getD k zGat) (gs'.getD k zGat) w) rfl ?_
       exact xo_fin rfl
     exact DrawOps.nil
   · rfl
   with_reducible ((repeat (first | refine xqT ?_ | refine xqB ?_ | refine xqS ?_)); (repeat refine xc_seq ?_))
   refine xc_cond rfl (fun h2 => ?_) (fun h2 => ?_)
   · have hne : ¬ gs.getD k zGat = gs'.getD k zGat := fun e => by rw [gatE_iff.2 e] at h2; cases h2
     with_reducible ((repeat refine xc_seq ?_); refine xcR ?_)
     refine xo_asg rfl rfl rfl ?_
     with_reducible (refine xo_nil ?_; (repeat (first | refine xqT ?_ | refine xqB ?_ | refine xqS ?_)); (repeat refine xc_seq ?_); refine xc_ret ?_; (repeat (first | refine xq_thenR ?_ | refine xq_blockR ?_ | refine xq_scopeR ?_)))
     exact xq_ret1 rfl rfl fun w' hw => ⟨by rw [sceneE, eqL_false (fun e => hne (by simp only [Prod.mk.injEq] at e; rw [e.2.2.1]))], hw.kx.below⟩
   · have he : gs.getD k zGat = gs'.getD k zGat := gatE_iff.1 (by simpa using h2)
     with_reducible (refine xc_skip ?_; (repeat (first | refine xqT ?_ | refine xqB ?_ | refine xqS ?_)); (repeat refine xc_seq ?_); refine xcR ?_)
     refine xo_mv rfl rfl rfl ?_
     refine xo_add rfl rfl rfl (by omega) rfl ?_
     refine xo_asg rfl rfl rfl ?_
     with_reducible (refine xo_nil ?_; (repeat (first | refine xqT ?_ | refine xqB ?_ | refine xqS ?_)))
     exact xq_again _ _ _ _ _ (k + 1) ⟨hlt, take_eq_succ zGat hlt (by omega) heq he⟩ (by omega) ⟨rfl, rfl, rfl, trivial⟩ (List.Sublist.refl _)
 have hge : k = gs.length := by have := of_decide_eq_false h; omega
 have hgs : gs = gs' := by rwa [List.take_of_length_le (by omega), List.take_of_length_le (by omega)] at heq
 clear heq
 with_reducible (refine xc_exit ?_; (repeat (first | refine xq_blockX ?_ | refine xq_thenE ?_ | refine xq_blockE rfl ?_ | refine xq_scopeE ?_)); (repeat (first | refine xqT ?_ | refine xqB ?_ | refine xqS ?_)); (repeat refine xc_seq ?_); refine xcR ?_)
 refine xo_asg rfl rfl rfl ?_
 with_reducible (refine xo_nil ?_; (repeat (first | refine xqT ?_ | refine xqB ?_ | refine xqS ?_)); (repeat refine xc_seq ?_); refine xc_block ?_)
 refine xc_loop (γ := Nat) (fun k => k ≤ ms.length ∧ ms.take k = ms'.take k) (fun k => [(2, .pointer (some ⟨b2, 0, none⟩)), (3, .pointer (some ⟨b3, 0, none⟩)), (6, .int .i64 (k : Int))]) (fun _ => [(b3, true, cel (scnV R A' gs'.length c' E B' ms'.length c2') 25), (b2, true, cel (scnV R A gs.length c E B ms.length c2) 25)]) (fun k => ms.length - k) 0 ⟨Nat.zero_le _, rfl⟩ ⟨rfl, rfl, rfl, trivial⟩ (List.Sublist.refl _) ?_
 rintro k ⟨hk, heq⟩
 with_reducible ((repeat refine xc_seq ?_); refine xcR ?_)
 refine xo_mv rfl rfl rfl ?_
 refine xo_fa T_ rfl rfl rfl rfl rfl ?_
 refine xo_load0 T_ rfl rfl rfl (by repeat first | exact memH | apply memT | apply memA) rfl rfl ?_
 refine xo_len T_ rfl rfl rfl rfl ?_
 refine xo_lss rfl rfl rfl rfl ?_
 with_reducible (refine xo_nil ?_; (repeat (first | refine xqT ?_ | refine xqB ?_ | refine xqS ?_)); (repeat refine xc_seq ?_))
 refine xc_cond rfl (fun h => ?_) (fun h => ?_)
 · have hlt : k < ms.length := by have := of_decide_eq_true h; omega
   obtain ⟨ad1, rfl, q1⟩ := hM k hlt
   obtain ⟨ad2, rfl, q2⟩ := hM' k (by omega)
   with_reducible (refine xc_skip ?_; (repeat (first | refine xqT ?_ | refine xqB ?_ | refine xqS ?_)); (repeat refine xc_seq ?_); refine xc_block ?_)
   refine xc_slots [(2, .pointer (some ⟨b2, 0, none⟩)), (3, .pointer (some ⟨b3, 0, none⟩)), (6, .int .i64 (k : Int))] ⟨rfl, rfl, rfl, trivial⟩ ?_
   with_reducible (repeat refine xc_seq ?_)
   apply xc_drawN
   · exact T_.mixed
   · rfl
   · rfl
   · rfl
   · rfl
   · apply DrawOps.cons
     · intro τ
       refine xo_fa T_ rfl rfl rfl rfl rfl ?_
       exact xo_fin rfl
     apply DrawOps.cons
     · intro τ
       refine xo_load0 T_ rfl rfl rfl (by repeat first | exact memH | apply memT | apply memA) rfl rfl ?_
       exact xo_fin rfl
     apply DrawOps.cons
     · intro τ
       refine xo_mv rfl rfl rfl ?_
       exact xo_fin rfl
     apply DrawOps.cons
     · intro τ
       refine xo_ia T_ rfl rfl rfl rfl rfl ⟨by omega, by omega⟩ rfl ?_
       exact xo_fin rfl
     apply DrawOps.cons
     · intro τ
       refine xo_loadRN T_ rfl rfl rfl q1 rfl rfl ?_
       exact xo_fin rfl
     apply DrawOps.cons
     · intro τ
       refine xo_fa T_ rfl rfl rfl rfl rfl ?_
       exact xo_fin rfl
     apply DrawOps.cons
     · intro τ
       refine xo_load0 T_ rfl rfl rfl (by repeat first | exact memH | apply memT | apply memA) rfl rfl ?_
       exact xo_fin rfl
     apply DrawOps.cons
     · intro τ
       refine xo_mv rfl rfl rfl ?_
       exact xo_fin rfl
     apply DrawOps.cons
     · intro τ
       refine xo_ia T_ rfl rfl rfl rfl rfl ⟨by omega, by omega⟩ rfl ?_
       exact xo_fin rfl
     apply DrawOps.cons
     · intro τ
       refine xo_loadRN T_ rfl rfl rfl q2 rfl rfl ?_
       exact xo_fin rfl
     apply DrawOps.cons
     · intro τ
       refine xo_neqV rfl rfl rfl (fun w => mar_ne _ _ (ms.getD k zMar) (ms'.getD k zMar) w) rfl ?_
       exact xo_fin rfl
     exact DrawOps.nil
   · rfl
   with_reducible ((repeat (first | refine xqT ?_ | refine xqB ?_ | refine xqS ?_)); (repeat refine xc_seq ?_))
   refine xc_cond rfl (fun h2 => ?_) (fun h2 => ?_)
   · have hne : ¬ ms.getD k zMar = ms'.getD k zMar := fun e => by rw [marE_iff.2 e] at h2; cases h2
     with_reducible ((repeat refine xc_seq ?_); refine xcR ?_)
     refine xo_asg rfl rfl rfl ?_
     with_reducible (refine xo_nil ?_; (repeat (first | refine xqT ?_ | refine xqB ?_ | refine xqS ?_)); (repeat refine xc_seq ?_); refine xc_ret ?_; (repeat (first | refine xq_thenR ?_ | refine xq_blockR ?_ | refine xq_scopeR ?_)))
     exact xq_ret1 rfl rfl fun w' hw => ⟨by rw [sceneE, eqL_false (fun e => hne (by simp only [Prod.mk.injEq] at e; rw [e.2.2.2]))], hw.kx.below⟩
   · have he : ms.getD k zMar = ms'.getD k zMar := marE_iff.1 (by simpa using h2)
     with_reducible (refine xc_skip ?_; (repeat (first | refine xqT ?_ | refine xqB ?_ | refine xqS ?_)); (repeat refine xc_seq ?_); refine xcR ?_)
     refine xo_mv rfl rfl rfl ?_
     refine xo_add rfl rfl rfl (by omega) rfl ?_
     refine xo_asg rfl rfl rfl ?_
     with_reducible (refine xo_nil ?_; (repeat (first | refine xqT ?_ | refine xqB ?_ | refine xqS ?_)))
     exact xq_again _ _ _ _ _ (k + 1) ⟨hlt, take_eq_succ zMar hlt (by omega) heq he⟩ (by omega) ⟨rfl, rfl, rfl, trivial⟩ (List.Sublist.refl _)
 have hge : k = ms.length := by have := of_decide_eq_false h; omega
 have hms : ms = ms' := by rwa [List.take_of_length_le (by omega), List.take_of_length_le (by omega)] at heq
 with_reducible (refine xc_exit ?_; (repeat (first | refine xq_blockX ?_ | refine xq_thenE ?_ | refine xq_blockE rfl ?_ | refine xq_scopeE ?_)); (repeat (first | refine xqT ?_ | refine xqB ?_ | refine xqS ?_)); (repeat refine xc_seq ?_); refine xcR ?_)
 refine xo_asg rfl rfl rfl ?_
 with_reducible (refine xo_nil ?_; (repeat (first | refine xqT ?_ | refine xqB ?_ | refine xqS ?_)); (repeat refine xc_seq ?_); refine xc_ret ?_; (repeat (first | refine xq_thenR ?_ | refine xq_blockR ?_ | refine xq_scopeR ?_)))
 exact xq_ret1 rfl rfl fun w' hw => ⟨by rw [sceneE, eqL_true (by rw [hgs, hms])], hw.kx.below⟩
theorem same_enters : ∀ args w, (callFunc 19 args).run Tryz.prog w = .ok (.enter 19 args) w := enters_of Tryz.func19 (by kernel_rfl) rfl
/-! ### Twin -/
def gatL (l : List GatT) : List Value := (l.map gatV).flatten
theorem gatL_len (l : List GatT) : (gatL l).length = l.length * 4 := by
 unfold gatL
 rw [flat_len 4 _ (by intro c hc; obtain ⟨x, _, rfl⟩ := List.mem_map.1 hc; rfl), List.length_map]
theorem flat_row {α : Type} (V : α → List Value) (sz : Nat) (z : α) (hV : ∀ x, (V x).length = sz) (hsz : szN sz = sz) (h0 : 0 < sz) {w : World} {A : Option Addr} {xs : List α} (h : RowOf V sz z w A xs) {p : Addr} (hp : A = some p) {j : Nat} {u : Value} (hj : ((xs.map V).flatten)[j]? = some u) : w.cell? (p.add j) = some u := by
 obtain ⟨h1, h2⟩ := flat_split (α := Value) h0 j
 rw [h1, flat_at sz _ (j / sz) (j % sz) (by intro c hc; obtain ⟨x, _, rfl⟩ := List.mem_map.1 hc; exact hV x) h2, List.getElem?_map] at hj
 have hlt : j / sz < xs.length := by
   apply Classical.byContradiction
   intro hn
   rw [List.getElem?_eq_none (by omega)] at hj
   cases hj
 obtain ⟨ad, e, hR⟩ := h (j / sz) hlt
 rw [hp] at e
 cases e
 rw [List.getElem?_eq_getElem hlt] at hj
 have hg : xs.getD (j / sz) z = xs[j / sz] := by simp [List.getD_eq_getElem?_getD, List.getElem?_eq_getElem hlt]
 have := (hR (j % sz) u (by rw [hg]; exact hj)).1
 rw [add_add, Int.toNat_natCast, hsz, ← h1] at this
 exact this
theorem one_flat {α : Type} (V : α → List Value) (hV : ∀ x, ∀ u ∈ V x, u.oneCell' = true) (xs : List α) : ∀ u ∈ (xs.map V).flatten, u.oneCell' = true := by
 intro u hu
 obtain ⟨c, hc, hu⟩ := List.mem_flatten.1 hu
 obtain ⟨x, _, rfl⟩ := List.mem_map.1 hc
 exact hV x u hu
theorem gatV_ones (x : GatT) : ∀ u ∈ gatV x, u.oneCell' = true := by
 intro u hu
 have : (gatV x).all (·.oneCell') = true := rfl
 exact List.all_eq_true.1 this u hu
theorem marV_ones (x : MarT) : ∀ u ∈ marV x, u.oneCell' = true := by
 intro u hu
 exact List.all_eq_true.1 (marV_one x) u hu
set_option maxHeartbeats 4000000 in
theorem twin_calls (R E : Int) (A B : Option Addr) (c c2 : Nat) (gs : List GatT) (ms : List MarT) (w : World) (hA : RowOf gatV 4 zGat w A gs) (hM : RowOf marV 7 zMar w B ms) (hA0 : A = none → gs.length = 0) (hB0 : B = none → ms.length = 0) (l1 : gs.length ≤ 1000000) (l2 : ms.length ≤ 1000000) :
   Calls Tryz.prog 13 #[.agg (scnV R A gs.length c E B ms.length c2).toArray] w fun e w' => ∃ b1 k1 b2 k2, e = .returned (.agg (scnV R (some ⟨b1, 0, none⟩) gs.length k1 E (some ⟨b2, 0, none⟩) ms.length k2).toArray) ∧ WOK w XNone [(b2, true, orow 56 7 ms.length k2 (marL ms)), (b1, true, orow 52 4 gs.length k1 (gatL gs))] w' := by
 refine x_calls (X := XNone) Tryz.func13 rfl rfl rfl ?_
 with_reducible ((repeat refine xc_seq ?_); refine xcR ?_)
 refine xo_box rfl rfl rfl rfl (fun b1 => ?_)
 refine xo_alloc T_ rfl rfl rfl rfl (fun b2 => ?_)
 with_reducible (refine xo_nil ?_; (repeat (first | refine xqT ?_ | refine xqB ?_ | refine xqS ?_)); (repeat refine xc_seq ?_); refine xcR ?_)
 refine xo_bs0 T_ 4 rfl rfl rfl rfl (fun b0 => ?_)
 refine xo_fa T_ rfl rfl rfl rfl rfl ?_
 refine xo_load0 T_ rfl rfl rfl (by repeat first | exact memH | apply memT | apply memA) rfl rfl ?_
 refine xo_appE TR_ rfl rfl rfl rfl rfl rfl rfl rfl (gatL_len gs) hA0 (fun p e w1 hw1 j u hj => hw1.kx.cell (flat_row gatV 4 zGat (fun _ => rfl) rfl (by omega) hA e hj) (fun h => h)) (one_flat gatV gatV_ones gs) (by omega) rfl rfl (fun b6 cap6 => ?_)
 refine xo_fa T_ rfl rfl rfl rfl rfl ?_
 refine xo_store T_ rfl rfl rfl rfl (by repeat first | exact memH | apply memT | apply memA) rfl rfl rfl rfl (by repeat (first | exact Upd.head | apply Upd.tail | apply Upd.app)) rfl ?_
 with_reducible (refine xo_nil ?_; (repeat (first | refine xqT ?_ | refine xqB ?_ | refine xqS ?_)); (repeat refine xc_seq ?_); refine xcR ?_)
 refine xo_bs0 T_ 7 rfl rfl rfl rfl (fun b0 => ?_)
 refine xo_fa T_ rfl rfl rfl rfl rfl ?_
 refine xo_load0 T_ rfl rfl rfl (by repeat first | exact memH | apply memT | apply memA) rfl rfl ?_
 refine xo_appE TR_ rfl rfl rfl rfl rfl rfl rfl rfl (marL_len ms) hB0 (fun p e w1 hw1 j u hj => hw1.kx.cell (flat_row marV 7 zMar (fun _ => rfl) rfl (by omega) hM e hj) (fun h => h)) (one_flat marV marV_ones ms) (by omega) rfl rfl (fun b11 cap11 => ?_)
 refine xo_fa T_ rfl rfl rfl rfl rfl ?_
 refine xo_store T_ rfl rfl rfl rfl (by repeat first | exact memH | apply memT | apply memA) rfl rfl rfl rfl (by repeat (first | exact Upd.head | apply Upd.tail | apply Upd.app)) rfl ?_
 with_reducible (refine xo_nil ?_; (repeat (first | refine xqT ?_ | refine xqB ?_ | refine xqS ?_)); (repeat refine xc_seq ?_); refine xcR ?_)
 refine xo_loadN T_ rfl rfl rfl (by repeat first | exact memH | apply memT | apply memA) rfl rfl ?_
 refine xo_store T_ rfl rfl rfl rfl (by repeat first | exact memH | apply memT | apply memA) rfl rfl rfl rfl (by repeat (first | exact Upd.head | apply Upd.tail | apply Upd.app)) rfl ?_
 with_reducible (refine xo_nil ?_; (repeat (first | refine xqT ?_ | refine xqB ?_ | refine xqS ?_)); (repeat refine xc_seq ?_); refine xc_ret ?_; (repeat (first | refine xq_thenR ?_ | refine xq_blockR ?_ | refine xq_scopeR ?_)))
 exact xq_retC T_ rfl rfl rfl (by repeat first | exact memH | apply memT | apply memA) rfl fun w' hw => ⟨b6, cap6, b11, cap11, rfl, hw.sub (List.Sublist.cons_cons _ (List.Sublist.cons_cons _ (List.nil_sublist _)))⟩
theorem twin_enters : ∀ args w, (callFunc 13 args).run Tryz.prog w = .ok (.enter 13 args) w := enters_of Tryz.func13 (by kernel_rfl) rfl
/-! ### members, shorter -/
theorem members_calls (R E : Int) (A B : Option Addr) (n c c2 : Nat) (ms : List MarT) (s : Nat) (w : World) (hM : RowOf marV 7 zMar w B ms) (hm8 : ms.length ≤ 8) (hs8 : s ≤ 256) :
   Calls Tryz.prog 43 #[.agg (scnV R A n c E B ms.length c2).toArray, .int .i64 (s : Int)] w fun e w' => ∃ rr : RowR, e = .returned (valR rr (idsL (setOf ms s)).length) ∧ RowAt 3 w.heap.size w' rr (idsL (setOf ms s)) ∧ Below w.heap.size w w' := by
 refine x_calls (X := XNone) Tryz.func43 rfl rfl rfl ?_
 with_reducible ((repeat refine xc_seq ?_); refine xcR ?_)
 refine xo_box rfl rfl rfl rfl (fun b2 => ?_)
 refine xo_asg rfl rfl rfl ?_
 with_reducible (refine xo_nil ?_; (repeat (first | refine xqT ?_ | refine xqB ?_ | refine xqS ?_)); (repeat refine xc_seq ?_); refine xcR ?_)
 refine xo_asg rfl rfl rfl ?_
 with_reducible (refine xo_nil ?_; (repeat (first | refine xqT ?_ | refine xqB ?_ | refine xqS ?_)); (repeat refine xc_seq ?_); refine xcR ?_)
 refine xo_asg rfl rfl rfl ?_
 with_reducible (refine xo_nil ?_; (repeat (first | refine xqT ?_ | refine xqB ?_ | refine xqS ?_)); (repeat refine xc_seq ?_); refine xc_block ?_)
 refine xc_loop (γ := Nat × RowR) (fun q => q.1 ≤ ms.length ∧ (q.2 = none → (idsL (chosenL s ms q.1)).length = 0)) (fun q => [(1, .int .i64 (s : Int)), (2, .pointer (some ⟨b2, 0, none⟩)), (5, valR q.2 (idsL (chosenL s ms q.1)).length), (6, .int .i64 (q.1 : Int))])
   (fun q => hpR 3 1 q.2 (idsL (chosenL s ms q.1)).length ((idsL (chosenL s ms q.1)).map (.int .i64)) ++ [(b2, true, cel (scnV R A n c E B ms.length c2) 25)]) (fun q => ms.length - q.1) (0, none) ⟨Nat.zero_le _, fun _ => rfl⟩ ⟨rfl, rfl, rfl, rfl, trivial⟩ (by repeat (first | exact List.Sublist.refl _ | apply List.Sublist.cons_cons | apply List.Sublist.cons | exact List.nil_sublist _)) ?_
 rintro ⟨k, rr⟩ ⟨hk, hrr⟩
 simp only at hk hrr
 have hcl := chosenL_len s ms k
 with_reducible ((repeat refine xc_seq ?_); refine xcR ?_)
 refine xo_mv rfl rfl rfl ?_
 refine xo_fa T_ rfl rfl rfl rfl rfl ?_
 refine xo_load0 T_ (b := b2) (wr := true) (cs := scnV R A n c E B ms.length c2) (te := 25) rfl rfl rfl (by repeat first | exact memH | apply memT | apply memA) rfl rfl ?_
 refine xo_len T_ rfl rfl rfl rfl ?_
 refine xo_lss rfl rfl rfl rfl ?_
 with_reducible (refine xo_nil ?_; (repeat (first | refine xqT ?_ | refine xqB ?_ | refine xqS ?_)); (repeat refine xc_seq ?_))
 refine xc_cond rfl (fun h => ?_) (fun h => ?_)
 · have hlt : k < ms.length := by have := of_decide_eq_true h; omega
   obtain ⟨ad, rfl, q1⟩ := hM k hlt
   have hst : chosenL s ms (k + 1) = if bitN s k = true then chosenL s ms k ++ [ms.getD k zMar] else chosenL s ms k := rfl
   have hil : (idsL (chosenL s ms k)).length = (chosenL s ms k).length := by simp [idsL]
   generalize chosenL s ms k = l at hrr hcl hst hil ⊢
   generalize ms.getD k zMar = m at q1 hst
   with_reducible (refine xc_skip ?_; (repeat (first | refine xqT ?_ | refine xqB ?_ | refine xqS ?_)); (repeat refine xc_seq ?_); refine xc_block ?_)
   cases hb : bitN s k
   · rw [hb, if_neg Bool.false_ne_true] at hst
     with_reducible ((repeat refine xc_seq ?_); refine xcR ?_)
     refine xo_mv rfl rfl rfl ?_
     refine xo_mv rfl rfl rfl ?_
     refine xo_shr rfl rfl rfl (by omega) rfl ?_
     refine xo_and1 rfl rfl rfl (Nat.lt_of_le_of_lt (Nat.div_le_self _ _) (by omega)) rfl ?_
     refine xo_eql rfl rfl rfl rfl ?_
     refine xo_as (i := 18) rfl (congrArg Value.bool hb) ?_
     with_reducible (refine xo_nil ?_; (repeat (first | refine xqT ?_ | refine xqB ?_ | refine xqS ?_)); (repeat refine xc_seq ?_))
     refine xc_condF rfl ?_
     with_reducible (refine xc_skip ?_; (repeat (first | refine xqT ?_ | refine xqB ?_ | refine xqS ?_)); (repeat refine xc_seq ?_); refine xcR ?_)
     refine xo_mv rfl rfl rfl ?_
     refine xo_add rfl rfl rfl (by omega) rfl ?_
     refine xo_asg rfl rfl rfl ?_
     with_reducible (refine xo_nil ?_; (repeat (first | refine xqT ?_ | refine xqB ?_ | refine xqS ?_)))
     exact xq_again _ _ _ _ _ (k + 1, rr) ⟨hlt, fun q => by rw [hst]; exact hrr q⟩ (by simp only; omega) ⟨rfl, rfl, by rw [hst]; rfl, rfl, trivial⟩ (by rw [hst]; exact List.Sublist.refl _)
   · rw [hb, if_pos rfl] at hst
     have hap : idsL (l ++ [m]) = idsL l ++ [m.f0] := by simp [idsL]
     with_reducible ((repeat refine xc_seq ?_); refine xcR ?_)
     refine xo_mv rfl rfl rfl ?_
     refine xo_mv rfl rfl rfl ?_
     refine xo_shr rfl rfl rfl (by omega) rfl ?_
     refine xo_and1 rfl rfl rfl (Nat.lt_of_le_of_lt (Nat.div_le_self _ _) (by omega)) rfl ?_
     refine xo_eql rfl rfl rfl rfl ?_
     refine xo_as (i := 18) rfl (congrArg Value.bool hb) ?_
     with_reducible (refine xo_nil ?_; (repeat (first | refine xqT ?_ | refine xqB ?_ | refine xqS ?_)); (repeat refine xc_seq ?_))
     refine xc_condT rfl ?_
     with_reducible ((repeat refine xc_seq ?_); refine xcR ?_)
     refine xo_mv rfl rfl rfl ?_
     refine xo_fa T_ rfl rfl rfl rfl rfl ?_
     refine xo_load0 T_ (b := b2) (wr := true) (cs := scnV R (A) n c E (some ad) ms.length c2) (te := 25) rfl rfl rfl (by repeat first | exact memH | apply memT | apply memA) rfl rfl ?_
     refine xo_mv rfl rfl rfl ?_
     refine xo_ia T_ rfl rfl rfl rfl rfl ⟨by omega, by omega⟩ rfl ?_
     refine xo_faR T_ rfl rfl rfl rfl rfl ?_
     refine xo_loadR0 T_ rfl rfl rfl (RO.fld q1 rfl) rfl ?_
     refine xo_bs1 T_ rfl rfl rfl rfl rfl rfl rfl rfl (fun b26 => ?_)
     refine xo_app TR_ rfl rfl rfl rfl rfl rfl rfl rfl (by rw [List.length_map, Nat.mul_one]) rfl rfl hrr (by omega) rfl rfl (fun r' hr' => ?_)
     refine xo_asg rfl rfl rfl ?_
     with_reducible (refine xo_nil ?_; (repeat (first | refine xqT ?_ | refine xqB ?_ | refine xqS ?_)); (repeat refine xc_seq ?_); refine xcR ?_)
     refine xo_mv rfl rfl rfl ?_
     refine xo_add rfl rfl rfl (by omega) rfl ?_
     refine xo_asg rfl rfl rfl ?_
     with_reducible (refine xo_nil ?_; (repeat (first | refine xqT ?_ | refine xqB ?_ | refine xqS ?_)))
     exact xq_again _ _ _ _ _ (k + 1, r') ⟨hlt, fun q => absurd q hr'⟩ (by simp only; omega) ⟨rfl, rfl, by rw [hst, hap, List.length_append]; rfl, rfl, trivial⟩ (by rw [hst, hap, List.length_append, List.map_append]; exact List.Sublist.refl _)
 have hge : k = ms.length := by have := of_decide_eq_false h; omega
 subst hge
 with_reducible (refine xc_exit ?_; (repeat (first | refine xq_blockX ?_ | refine xq_thenE ?_ | refine xq_blockE rfl ?_ | refine xq_scopeE ?_)); (repeat (first | refine xqT ?_ | refine xqB ?_ | refine xqS ?_)); (repeat refine xc_seq ?_); refine xcR ?_)
 refine xo_mv rfl rfl rfl ?_
 refine xo_asg rfl rfl rfl ?_
 with_reducible (refine xo_nil ?_; (repeat (first | refine xqT ?_ | refine xqB ?_ | refine xqS ?_)); (repeat refine xc_seq ?_); refine xc_ret ?_; (repeat (first | refine xq_thenR ?_ | refine xq_blockR ?_ | refine xq_scopeR ?_)))
 exact xq_ret1 rfl rfl fun w' hw => ⟨rr, rfl, RowAt.of hw (fun q => List.eq_nil_of_length_eq_zero (hrr q)), hw.kx.below⟩
theorem members_enters : ∀ args w, (callFunc 43 args).run Tryz.prog w = .ok (.enter 43 args) w := enters_of Tryz.func43 (by kernel_rfl) rfl
def lessL : List Int → List Int → Bool
 | x :: xs, y :: ys => if x = y then lessL xs ys else decide (x < y)
 | _, _ => false
def shorterF (xs ys : List Int) : Bool := if (xs.length : Int) = ys.length then lessL xs ys else decide ((xs.length : Int) < ys.length)
theorem shorter_calls (A1 A2 : Option Addr) (c1 c2 : Nat) (xs ys : List Int) (w : World) (r1 : IntsAt w A1 xs) (r2 : IntsAt w A2 ys) (l1 : xs.length ≤ 1000000) :
   Calls Tryz.prog 44 #[.slice A1 xs.length c1, .slice A2 ys.length c2] w fun e w' => e = .returned (.bool (shorterF xs ys)) ∧ Below w.heap.size w w' := by
 refine x_calls (X := XNone) Tryz.func44 rfl rfl rfl ?_
 with_reducible ((repeat refine xc_seq ?_); refine xcR ?_)
 refine xo_asg rfl rfl rfl ?_
 with_reducible (refine xo_nil ?_; (repeat (first | refine xqT ?_ | refine xqB ?_ | refine xqS ?_)))
 unfold shorterF
 cases hl : decide ((xs.length : Int) = ys.length)
 · rw [if_neg (of_decide_eq_false hl)]
   with_reducible ((repeat refine xc_seq ?_); refine xcR ?_)
   refine xo_mv rfl rfl rfl ?_
   refine xo_len T_ rfl rfl rfl rfl ?_
   refine xo_mv rfl rfl rfl ?_
   refine xo_len T_ rfl rfl rfl rfl ?_
   refine xo_neq rfl rfl rfl rfl ?_
   refine xo_as (i := 10) rfl (congrArg (fun b => Value.bool !b) hl) ?_
   with_reducible (refine xo_nil ?_; (repeat (first | refine xqT ?_ | refine xqB ?_ | refine xqS ?_)); (repeat refine xc_seq ?_))
   refine xc_condT rfl ?_
   with_reducible ((repeat refine xc_seq ?_); refine xcR ?_)
   refine xo_mv rfl rfl rfl ?_
   refine xo_len T_ rfl rfl rfl rfl ?_
   refine xo_mv rfl rfl rfl ?_
   refine xo_len T_ rfl rfl rfl rfl ?_
   refine xo_lss rfl rfl rfl rfl ?_
   refine xo_asg rfl rfl rfl ?_
   with_reducible (refine xo_nil ?_; (repeat (first | refine xqT ?_ | refine xqB ?_ | refine xqS ?_)); (repeat refine xc_seq ?_); refine xc_ret ?_; (repeat (first | refine xq_thenR ?_ | refine xq_blockR ?_ | refine xq_scopeR ?_)))
   exact xq_ret1 rfl rfl fun w' hw => ⟨rfl, hw.kx.below⟩
 have hlen : xs.length = ys.length := by have := of_decide_eq_true hl; omega
 rw [if_pos (of_decide_eq_true hl)]
 with_reducible ((repeat refine xc_seq ?_); refine xcR ?_)
 refine xo_mv rfl rfl rfl ?_
 refine xo_len T_ rfl rfl rfl rfl ?_
 refine xo_mv rfl rfl rfl ?_
 refine xo_len T_ rfl rfl rfl rfl ?_
 refine xo_neq rfl rfl rfl rfl ?_
 refine xo_as (i := 10) rfl (congrArg (fun b => Value.bool !b) hl) ?_
 with_reducible (refine xo_nil ?_; (repeat (first | refine xqT ?_ | refine xqB ?_ | refine xqS ?_)); (repeat refine xc_seq ?_))
 refine xc_condF rfl ?_
 with_reducible (refine xc_skip ?_; (repeat (first | refine xqT ?_ | refine xqB ?_ | refine xqS ?_)); (repeat refine xc_seq ?_); refine xcR ?_)
 refine xo_asg rfl rfl rfl ?_
 with_reducible (refine xo_nil ?_; (repeat (first | refine xqT ?_ | refine xqB ?_ | refine xqS ?_)); (repeat refine xc_seq ?_); refine xc_block ?_)
 refine xc_loop (γ := Nat) (fun k => k ≤ xs.length ∧ lessL xs ys = lessL (xs.drop k) (ys.drop k)) (fun k => [(0, .slice A1 xs.length c1), (1, .slice A2 ys.length c2), (5, .int .i64 (k : Int))]) (fun _ => []) (fun k => xs.length - k) 0 ⟨Nat.zero_le _, rfl⟩ ⟨rfl, rfl, rfl, trivial⟩ (List.nil_sublist _) ?_
 rintro k ⟨hk, heq⟩
 with_reducible ((repeat refine xc_seq ?_); refine xcR ?_)
 refine xo_mv rfl rfl rfl ?_
 refine xo_mv rfl rfl rfl ?_
 refine xo_len T_ rfl rfl rfl rfl ?_
 refine xo_lss rfl rfl rfl rfl ?_
 with_reducible (refine xo_nil ?_; (repeat (first | refine xqT ?_ | refine xqB ?_ | refine xqS ?_)); (repeat refine xc_seq ?_))
 refine xc_cond rfl (fun h => ?_) (fun h => ?_)
 · have hlt : k < xs.length := by have := of_decide_eq_true h; omega
   obtain ⟨ad1, rfl, q1⟩ := r1 k hlt
   obtain ⟨ad2, rfl, q2⟩ := r2 k (by omega)
   rw [drop_at xs 0 k hlt, drop_at ys 0 k (by omega), lessL] at heq
   with_reducible (refine xc_skip ?_; (repeat (first | refine xqT ?_ | refine xqB ?_ | refine xqS ?_)); (repeat refine xc_seq ?_); refine xc_block ?_)
   refine xc_slots [(0, .slice (some ad1) xs.length c1), (1, .slice (some ad2) ys.length c2), (5, .int .i64 (k : Int))] ⟨rfl, rfl, rfl, trivial⟩ ?_
   with_reducible (repeat refine xc_seq ?_)
   apply xc_drawN
   · exact T_.mixed
   · rfl
   · rfl
   · rfl
   · rfl
   · apply DrawOps.cons
     · intro τ
       refine xo_mv rfl rfl rfl ?_
       exact xo_fin rfl
     apply DrawOps.cons
     · intro τ
       refine xo_mv rfl rfl rfl ?_
       exact xo_fin rfl
     apply DrawOps.cons
     · intro τ
       refine xo_ia T_ rfl rfl rfl rfl rfl ⟨by omega, by omega⟩ rfl ?_
       exact xo_fin rfl
     apply DrawOps.cons
     · intro τ
       refine xo_loadR0 T_ rfl rfl rfl q1 rfl ?_
       exact xo_fin rfl
     apply DrawOps.cons
     · intro τ
       refine xo_mv rfl rfl rfl ?_
       exact xo_fin rfl
     apply DrawOps.cons
     · intro τ
       refine xo_mv rfl rfl rfl ?_
       exact xo_fin rfl
     apply DrawOps.cons
     · intro τ
       refine xo_ia T_ rfl rfl rfl rfl rfl ⟨by omega, by omega⟩ rfl ?_
       exact xo_fin rfl
     apply DrawOps.cons
     · intro τ
       refine xo_loadR0 T_ rfl rfl rfl q2 rfl ?_
       exact xo_fin rfl
     apply DrawOps.cons
     · intro τ
       refine xo_neq rfl rfl rfl rfl ?_
       exact xo_fin rfl
     exact DrawOps.nil
   · rfl
   with_reducible ((repeat (first | refine xqT ?_ | refine xqB ?_ | refine xqS ?_)); (repeat refine xc_seq ?_))
   refine xc_cond rfl (fun h2 => ?_) (fun h2 => ?_)
   · have hne : xs.getD k 0 ≠ ys.getD k 0 := by simpa using h2
     rw [if_neg hne] at heq
     refine xc_slots [(0, .slice (some ad1) xs.length c1), (1, .slice (some ad2) ys.length c2), (5, .int .i64 (k : Int))] ⟨rfl, rfl, rfl, trivial⟩ ?_
     with_reducible (repeat refine xc_seq ?_)
     apply xc_drawN
     · exact T_.mixed
     · rfl
     · rfl
     · rfl
     · rfl
     · apply DrawOps.cons
       · intro τ
         refine xo_mv rfl rfl rfl ?_
         exact xo_fin rfl
       apply DrawOps.cons
       · intro τ
         refine xo_mv rfl rfl rfl ?_
         exact xo_fin rfl
       apply DrawOps.cons
       · intro τ
         refine xo_ia T_ rfl rfl rfl rfl rfl ⟨by omega, by omega⟩ rfl ?_
         exact xo_fin rfl
       apply DrawOps.cons
       · intro τ
         refine xo_loadR0 T_ rfl rfl rfl q1 rfl ?_
         exact xo_fin rfl
       apply DrawOps.cons
       · intro τ
         refine xo_mv rfl rfl rfl ?_
         exact xo_fin rfl
       apply DrawOps.cons
       · intro τ
         refine xo_mv rfl rfl rfl ?_
         exact xo_fin rfl
       apply DrawOps.cons
       · intro τ
         refine xo_ia T_ rfl rfl rfl rfl rfl ⟨by omega, by omega⟩ rfl ?_
         exact xo_fin rfl
       apply DrawOps.cons
       · intro τ
         refine xo_loadR0 T_ rfl rfl rfl q2 rfl ?_
         exact xo_fin rfl
       apply DrawOps.cons
       · intro τ
         refine xo_lss rfl rfl rfl rfl ?_
         exact xo_fin rfl
       apply DrawOps.cons
       · intro τ
         refine xo_asg rfl rfl rfl ?_
         exact xo_fin rfl
       exact DrawOps.nil
     · rfl
     with_reducible ((repeat (first | refine xqT ?_ | refine xqB ?_ | refine xqS ?_)); (repeat refine xc_seq ?_); refine xc_ret ?_; (repeat (first | refine xq_thenR ?_ | refine xq_blockR ?_ | refine xq_scopeR ?_)))
     exact xq_ret1 rfl rfl fun w' hw => ⟨by rw [heq], hw.kx.below⟩
   · have he : xs.getD k 0 = ys.getD k 0 := by simpa using h2
     rw [if_pos he] at heq
     with_reducible (refine xc_skip ?_; (repeat (first | refine xqT ?_ | refine xqB ?_ | refine xqS ?_)); (repeat refine xc_seq ?_); refine xcR ?_)
     refine xo_mv rfl rfl rfl ?_
     refine xo_add rfl rfl rfl (by omega) rfl ?_
     refine xo_asg rfl rfl rfl ?_
     with_reducible (refine xo_nil ?_; (repeat (first | refine xqT ?_ | refine xqB ?_ | refine xqS ?_)))
     exact xq_again _ _ _ _ _ (k + 1) ⟨hlt, heq⟩ (by omega) ⟨rfl, rfl, rfl, trivial⟩ (List.nil_sublist _)
 have hge : k = xs.length := by have := of_decide_eq_false h; omega
 have hz : lessL (xs.drop k) (ys.drop k) = false := by
   rw [List.drop_of_length_le (l := xs) (by omega)]
   cases ys.drop k <;> rfl
 rw [hz] at heq
 with_reducible (refine xc_exit ?_; (repeat (first | refine xq_blockX ?_ | refine xq_thenE ?_ | refine xq_blockE rfl ?_ | refine xq_scopeE ?_)); (repeat (first | refine xqT ?_ | refine xqB ?_ | refine xqS ?_)); (repeat refine xc_seq ?_); refine xcR ?_)
 refine xo_asg rfl rfl rfl ?_
 with_reducible (refine xo_nil ?_; (repeat (first | refine xqT ?_ | refine xqB ?_ | refine xqS ?_)); (repeat refine xc_seq ?_); refine xc_ret ?_; (repeat (first | refine xq_thenR ?_ | refine xq_blockR ?_ | refine xq_scopeR ?_)))
 exact xq_ret1 rfl rfl fun w' hw => ⟨by rw [heq], hw.kx.below⟩
theorem shorter_enters : ∀ args w, (callFunc 44 args).run Tryz.prog w = .ok (.enter 44 args) w := enters_of Tryz.func44 (by kernel_rfl) rfl
end Go.Proofs.YtommeljlfkmpjaaGreatDoor
