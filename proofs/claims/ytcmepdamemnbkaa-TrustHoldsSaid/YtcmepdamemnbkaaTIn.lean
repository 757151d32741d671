/- trust.in: all numbers of a list are from lo to hi; slices.IndexFunc, ContainsFunc, Index, Contains over whole numbers. -/
import Derived.Test.YtcmepdamemnbkaaTys
import Derived.Test.YtcmepdamemnbkaaWWords
namespace Go.Proofs.Ytcmepdamemnbkaa
open Go.RowKit Go.Proofs.YtcmepdamemnbkaaW.PrintWords
set_option linter.unusedVariables false
set_option linter.unusedSimpArgs false

theorem ro1 {w : World} {p : Addr} {v : Value} (h : w.cell? p = some v) : RO w XNone p [v] := fun j u hj => by
  cases j with
  | zero => simp at hj; subst hj; rw [Addr.add_zero']; exact ⟨h, fun x => x⟩
  | succ j => simp at hj
theorem int_at {w : World} {A : Option Addr} {n : Nat} {zs : List Int} (h : Kd.C (Kd.int .i64) w A n zs) (k : Nat) (hk : k < n) : ∃ ad, A = some ad ∧ RO w XNone (ad.add ((k : Int).toNat * szN 0)) [.int .i64 (zs.getD k 0)] := by
  obtain ⟨ad, e, hc⟩ := Kd.at_int h (k : Int) (by omega) (by omega)
  refine ⟨ad, e, ro1 ?_⟩
  have : (k : Int).toNat * szN 0 = (k : Int).toNat := by simp [szN]
  rw [this, hc]
  simp [rd]
theorem in1_calls (x lo hi : Int) (B C : Nat) (w : World) (hB : w.cell? ⟨B, 0, none⟩ = some (.int .i64 lo)) (hC : w.cell? ⟨C, 0, none⟩ = some (.int .i64 hi)) :
    Calls Try.prog 52 #[.int .i64 x, .pointer (some ⟨B, 0, none⟩), .pointer (some ⟨C, 0, none⟩)] w fun e w' => e = .returned (.bool (decide (x < lo) || decide (hi < x))) ∧ Below w.heap.size w w' := by
  have r1 := ro1 hB
  have r2 := ro1 hC
  refine x_calls (X := XNone) Try.func52 rfl rfl rfl ?_
  with_reducible repeat refine xc_seq ?_
  with_reducible refine xc_region ?_
  refine xo_asg rfl rfl rfl ?_
  with_reducible refine xo_nil ?_
  with_reducible repeat (first | refine xq_then ?_ | refine xq_blockN ?_ | refine xq_scopeN ?_)
  cases h : decide (x < lo)
  all_goals
    with_reducible repeat refine xc_seq ?_
    with_reducible refine xc_region ?_
    refine xo_mv rfl rfl rfl ?_
    refine xo_loadR0 T_ rfl rfl rfl (by assumption) rfl ?_
    refine xo_lss rfl rfl rfl rfl ?_
    refine xo_mv rfl rfl rfl ?_
    refine xo_as (i := 8) rfl (congrArg Value.bool h) ?_
    first
      | refine xo_not rfl rfl ?_
      | (refine xo_mv rfl rfl rfl ?_)
    first
      | refine xo_not rfl rfl ?_
      | (refine xo_loadR0 T_ rfl rfl rfl (by assumption) rfl ?_)
    first
      | refine xo_not rfl rfl ?_
      | (refine xo_gtr rfl rfl rfl rfl ?_)
    first | refine xo_pickT rfl rfl rfl rfl ?_ | refine xo_pickF rfl rfl rfl rfl ?_
    refine xo_asg rfl rfl rfl ?_
    with_reducible refine xo_nil ?_
    with_reducible repeat (first | refine xq_then ?_ | refine xq_blockN ?_ | refine xq_scopeN ?_)
    with_reducible repeat refine xc_seq ?_
    with_reducible refine xc_ret ?_
    with_reducible repeat (first | refine xq_thenR ?_ | refine xq_blockR ?_ | refine xq_scopeR ?_)
    exact (xq_ret1 rfl rfl fun w' hw => ⟨rfl, hw.kx.below⟩)

/-- the place of the first element of which something is so, -1 if there is none -/
def idxF {α : Type} (p : α → Bool) : List α → Nat → Int
  | [], _ => -1
  | x :: r, i => if p x then (i : Int) else idxF p r (i + 1)
theorem idxF_hit {α : Type} (p : α → Bool) (z : α) : ∀ (zs : List α) (k i : Nat), k < zs.length → p (zs.getD k z) = true → (∀ j, j < k → p (zs.getD j z) = false) → idxF p zs i = ((i + k : Nat) : Int)
  | [], k, i, h, _, _ => absurd h (by simp)
  | x :: r, 0, i, _, h, _ => by simp [idxF] at h ⊢; simp [h]
  | x :: r, k + 1, i, hk, h, hn => by
    have h0 := hn 0 (by omega)
    simp at h0
    have := idxF_hit p z r k (i + 1) (by simpa using hk) (by simpa using h) (fun j hj => by simpa using hn (j + 1) (by omega))
    simp [idxF, h0, this]
    omega
theorem idxF_miss {α : Type} (p : α → Bool) (z : α) : ∀ (zs : List α) (i : Nat), (∀ j, j < zs.length → p (zs.getD j z) = false) → idxF p zs i = -1
  | [], _, _ => rfl
  | x :: r, i, h => by
    have h0 := h 0 (by simp)
    simp at h0
    simp [idxF, h0, idxF_miss p z r (i + 1) (fun j hj => by simpa using h (j + 1) (by simpa using hj))]
theorem idxF_any {α : Type} (p : α → Bool) : ∀ (zs : List α) (i : Nat), decide (0 ≤ idxF p zs i) = zs.any p
  | [], _ => rfl
  | x :: r, i => by
    by_cases h : p x = true
    · simp [idxF, h]
    · have h' : p x = false := by simpa using h
      simp [idxF, h', ← idxF_any p r (i + 1)]

/-- a closure over whole numbers that answers p, in whatever world that is as w is below its own blocks -/
def Asks (P : Program) (w : World) (g : Nat) (cs : List Value) (enc : Int → Value) (p : Int → Bool) : Prop :=
  ∀ (x : Int) (W : World), Below w.heap.size w W → Calls P g ([enc x] ++ cs).toArray W fun e W' => e = .returned (.bool (p x)) ∧ Below W.heap.size W W'
theorem indexFunc_calls (p : Int → Bool) (g : Nat) (cs : List Value) (eg : ∀ args w, (callFunc g args).run Try.prog w = .ok (.enter g args) w) (A : Option Addr) (c : Nat) (zs : List Int) (w : World)
    (hr : Kd.C (Kd.int .i64) w A zs.length zs) (hp : Asks Try.prog w g cs (.int .i64) p) :
    Calls Try.prog 49 #[.slice A zs.length c, .func (.func g) #[] cs.toArray] w fun e w' => e = .returned (.int .i64 (idxF p zs 0)) ∧ Below w.heap.size w w' := by
  have hn := hr.2.1
  refine x_calls (X := XNone) Try.func49 rfl rfl rfl ?_
  with_reducible repeat refine xc_seq ?_
  with_reducible refine xc_region ?_
  refine xo_asg rfl rfl rfl ?_
  with_reducible refine xo_nil ?_
  with_reducible repeat (first | refine xq_then ?_ | refine xq_blockN ?_ | refine xq_scopeN ?_)
  with_reducible repeat refine xc_seq ?_
  with_reducible refine xc_region ?_
  refine xo_mv rfl rfl rfl ?_
  refine xo_len T_ rfl rfl rfl rfl ?_
  refine xo_mv rfl rfl rfl ?_
  with_reducible refine xo_nil ?_
  with_reducible repeat (first | refine xq_then ?_ | refine xq_blockN ?_ | refine xq_scopeN ?_)
  with_reducible repeat refine xc_seq ?_
  with_reducible refine xc_block ?_
  refine xc_loop (γ := Nat) (fun k => k ≤ zs.length ∧ ∀ j, j < k → p (zs.getD j 0) = false) (fun k => [(0, .slice A zs.length c), (1, .func (.func g) #[] cs.toArray), (6, .slice A zs.length c), (7, .int .i64 (zs.length : Int)), (8, .int .i64 (k : Int))]) (fun _ => []) (fun k => zs.length - k) 0
    ⟨Nat.zero_le _, fun j hj => absurd hj (Nat.not_lt_zero _)⟩ ⟨rfl, rfl, rfl, rfl, rfl, trivial⟩ (List.Sublist.refl _) ?_
  rintro k ⟨hk, hno⟩
  with_reducible repeat refine xc_seq ?_
  with_reducible refine xc_region ?_
  refine xo_lss rfl rfl rfl rfl ?_
  with_reducible refine xo_nil ?_
  with_reducible repeat (first | refine xq_then ?_ | refine xq_blockN ?_ | refine xq_scopeN ?_)
  with_reducible repeat refine xc_seq ?_
  refine xc_cond rfl (fun h => ?_) (fun h => ?_)
  · have hlt : k < zs.length := by have := of_decide_eq_true h; omega
    obtain ⟨ad, rfl, r1⟩ := int_at hr k hlt
    with_reducible refine xc_skip ?_
    with_reducible repeat (first | refine xq_then ?_ | refine xq_blockN ?_ | refine xq_scopeN ?_)
    with_reducible repeat refine xc_seq ?_
    with_reducible refine xc_block ?_
    with_reducible repeat refine xc_seq ?_
    with_reducible refine xc_region ?_
    refine xo_mv rfl rfl rfl ?_
    refine xo_asg rfl rfl rfl ?_
    with_reducible refine xo_nil ?_
    with_reducible repeat (first | refine xq_then ?_ | refine xq_blockN ?_ | refine xq_scopeN ?_)
    with_reducible repeat refine xc_seq ?_
    with_reducible refine xc_region ?_
    refine xo_mv rfl rfl rfl ?_
    refine xo_mv rfl rfl rfl ?_
    refine xo_mv rfl rfl rfl ?_
    refine xo_ia T_ rfl rfl rfl rfl rfl ⟨by omega, by omega⟩ rfl ?_
    refine xo_loadR0 T_ rfl rfl rfl (by assumption) rfl ?_
    refine xo_callB (fs := []) rfl rfl rfl eg rfl (fun w1 hw1 => hp _ _ hw1.kx.below) ?_
    with_reducible refine xo_nil ?_
    with_reducible repeat (first | refine xq_then ?_ | refine xq_blockN ?_ | refine xq_scopeN ?_)
    with_reducible repeat refine xc_seq ?_
    refine xc_cond rfl (fun h2 => ?_) (fun h2 => ?_)
    · with_reducible repeat refine xc_seq ?_
      with_reducible refine xc_region ?_
      refine xo_mv rfl rfl rfl ?_
      refine xo_asg rfl rfl rfl ?_
      with_reducible refine xo_nil ?_
      with_reducible repeat (first | refine xq_then ?_ | refine xq_blockN ?_ | refine xq_scopeN ?_)
      with_reducible repeat refine xc_seq ?_
      with_reducible refine xc_ret ?_
      with_reducible repeat (first | refine xq_thenR ?_ | refine xq_blockR ?_ | refine xq_scopeR ?_)
      exact (xq_ret1 rfl rfl fun w' hw => ⟨by rw [idxF_hit p 0 zs k 0 hlt h2 hno]; simp, hw.kx.below⟩)
    · with_reducible refine xc_skip ?_
      with_reducible repeat (first | refine xq_then ?_ | refine xq_blockN ?_ | refine xq_scopeN ?_)
      with_reducible repeat refine xc_seq ?_
      with_reducible refine xc_region ?_
      refine xo_add rfl rfl rfl (by omega) rfl ?_
      refine xo_mv rfl rfl rfl ?_
      with_reducible refine xo_nil ?_
      with_reducible repeat (first | refine xq_then ?_ | refine xq_blockN ?_ | refine xq_scopeN ?_)
      refine xq_again _ _ _ _ _ (k + 1) ⟨by omega, fun j hj => ?_⟩ (by omega) ⟨rfl, rfl, rfl, rfl, rfl, trivial⟩ (List.Sublist.refl _)
      by_cases e : j = k
      · subst e; exact h2
      · exact hno j (by omega)
  · have hge : ¬ k < zs.length := by have := of_decide_eq_false h; omega
    with_reducible refine xc_exit ?_
    with_reducible repeat (first | refine xq_blockX ?_ | refine xq_thenE ?_ | refine xq_blockE rfl ?_ | refine xq_scopeE ?_)
    with_reducible repeat (first | refine xq_then ?_ | refine xq_blockN ?_ | refine xq_scopeN ?_)
    with_reducible repeat refine xc_seq ?_
    with_reducible refine xc_region ?_
    refine xo_asg rfl rfl rfl ?_
    with_reducible refine xo_nil ?_
    with_reducible repeat (first | refine xq_then ?_ | refine xq_blockN ?_ | refine xq_scopeN ?_)
    with_reducible repeat refine xc_seq ?_
    with_reducible refine xc_ret ?_
    with_reducible repeat (first | refine xq_thenR ?_ | refine xq_blockR ?_ | refine xq_scopeR ?_)
    refine xq_ret1 rfl rfl fun w' hw => ⟨?_, hw.kx.below⟩
    rw [idxF_miss p 0 zs 0 (fun j hj => hno j (by omega))]
theorem containsFunc_calls (p : Int → Bool) (g : Nat) (cs : List Value) (eg : ∀ args w, (callFunc g args).run Try.prog w = .ok (.enter g args) w) (A : Option Addr) (c : Nat) (zs : List Int) (w : World)
    (hr : Kd.C (Kd.int .i64) w A zs.length zs) (hp : Asks Try.prog w g cs (.int .i64) p) :
    Calls Try.prog 51 #[.slice A zs.length c, .func (.func g) #[] cs.toArray] w fun e w' => e = .returned (.bool (zs.any p)) ∧ Below w.heap.size w w' := by
  rw [← idxF_any p zs 0]
  have eg2 := enters_of Try.func49 (by kernel_rfl) rfl
  refine x_calls (X := XNone) Try.func51 rfl rfl rfl ?_
  with_reducible repeat refine xc_seq ?_
  with_reducible refine xc_region ?_
  refine xo_asg rfl rfl rfl ?_
  with_reducible refine xo_nil ?_
  with_reducible repeat (first | refine xq_then ?_ | refine xq_blockN ?_ | refine xq_scopeN ?_)
  with_reducible repeat refine xc_seq ?_
  with_reducible refine xc_region ?_
  refine xo_mv rfl rfl rfl ?_
  refine xo_mv rfl rfl rfl ?_
  refine xo_callB (fs := []) (cs := []) rfl rfl rfl eg2 rfl (fun w1 hw1 => indexFunc_calls p g cs eg A c zs w1 (Kd.C_below hr hw1.kx.below) (fun x W hW => hp x W (below_step hw1.kx.below hW))) ?_
  refine xo_geq rfl rfl rfl rfl ?_
  refine xo_asg rfl rfl rfl ?_
  with_reducible refine xo_nil ?_
  with_reducible repeat (first | refine xq_then ?_ | refine xq_blockN ?_ | refine xq_scopeN ?_)
  with_reducible repeat refine xc_seq ?_
  with_reducible refine xc_ret ?_
  with_reducible repeat (first | refine xq_thenR ?_ | refine xq_blockR ?_ | refine xq_scopeR ?_)
  exact (xq_ret1 rfl rfl fun w' hw => ⟨rfl, hw.kx.below⟩)
def trust_in.f (a0 : Int) (a1 : Int) (l2 : List Int) : Option Bool := some (!l2.any fun x => decide (x < a0) || decide (a1 < x))
theorem trust_in.calls (a0 : Int) (a1 : Int) (A2 : Option Addr) (c2 : Nat) (l2 : List Int) (r : Bool) (w : World) (hr2 : Kd.C (Kd.int .i64) w A2 l2.length l2) (hc2 : l2.length ≤ c2) (h : trust_in.f a0 a1 l2 = some r) :
    Calls Try.prog 32 #[.int .i64 a0, .int .i64 a1, .slice A2 l2.length c2] w fun e w' => e = .returned (.bool r) ∧ Below w.heap.size w w' := by
  obtain rfl := Option.some.inj h
  have eg : ∀ args w, (callFunc 52 args).run Try.prog w = .ok (.enter 52 args) w := enters_of Try.func52 (by kernel_rfl) rfl
  have eg2 := enters_of Try.func51 (by kernel_rfl) rfl
  refine x_calls (X := XNone) Try.func32 rfl rfl rfl ?_
  with_reducible repeat refine xc_seq ?_
  with_reducible refine xc_region ?_
  refine xo_box rfl rfl rfl rfl (fun b3 => ?_)
  refine xo_box rfl rfl rfl rfl (fun b4 => ?_)
  refine xo_asg rfl rfl rfl ?_
  with_reducible refine xo_nil ?_
  with_reducible repeat (first | refine xq_then ?_ | refine xq_blockN ?_ | refine xq_scopeN ?_)
  with_reducible repeat refine xc_seq ?_
  with_reducible refine xc_region ?_
  refine xo_mv rfl rfl rfl ?_
  refine xo_mkf rfl rfl rfl rfl ?_
  refine xo_callB (fs := []) (cs := []) rfl rfl rfl eg2 rfl (fun w1 hw1 => containsFunc_calls (fun x => decide (x < a0) || decide (a1 < x)) _ [.pointer (some ⟨b3, 0, none⟩), .pointer (some ⟨b4, 0, none⟩)] eg A2 c2 l2 w1 (Kd.C_below hr2 hw1.kx.below)
    (fun x W hW => in1_calls x a0 a1 b3 b4 W ((hw1.below hW).cell (t := 3) (List.Mem.tail _ (List.Mem.head _)) 0 rfl) ((hw1.below hW).cell (List.Mem.head _) 0 rfl))) ?_
  refine xo_notOp rfl rfl rfl ?_
  refine xo_asg rfl rfl rfl ?_
  with_reducible refine xo_nil ?_
  with_reducible repeat (first | refine xq_then ?_ | refine xq_blockN ?_ | refine xq_scopeN ?_)
  with_reducible repeat refine xc_seq ?_
  with_reducible refine xc_ret ?_
  with_reducible repeat (first | refine xq_thenR ?_ | refine xq_blockR ?_ | refine xq_scopeR ?_)
  exact (xq_ret1 rfl rfl fun w' hw => ⟨rfl, hw.kx.below⟩)
end Go.Proofs.Ytcmepdamemnbkaa
