/- trust.known, trust.Check. -/
import Derived.Test.YtcmepdamemnbkaaTRec
namespace Go.Proofs.Ytcmepdamemnbkaa
open Go.RowKit Go.Proofs.YtcmepdamemnbkaaW.PrintWords
set_option linter.unusedVariables false
set_option linter.unusedSimpArgs false
theorem known1_calls (x : RecT) (A2 : Option Addr) (c2 : Nat) (id : Int) (B : Nat) (w : World) (hB : w.cell? ⟨B, 0, none⟩ = some (.int .i64 id)) :
    Calls Try.prog 54 #[.agg (recV x A2 c2).toArray, .pointer (some ⟨B, 0, none⟩)] w fun e w' => e = .returned (.bool (decide (x.f0 = id))) ∧ Below w.heap.size w w' := by
  have r1 := ro1 hB
  refine x_calls (X := XNone) Try.func54 rfl rfl rfl ?_
  with_reducible repeat refine xc_seq ?_
  with_reducible refine xc_region ?_
  refine xo_box rfl rfl rfl rfl (fun b2 => ?_)
  refine xo_asg rfl rfl rfl ?_
  with_reducible refine xo_nil ?_
  with_reducible repeat (first | refine xq_then ?_ | refine xq_blockN ?_ | refine xq_scopeN ?_)
  with_reducible repeat refine xc_seq ?_
  with_reducible refine xc_region ?_
  refine xo_fa T_ rfl rfl rfl rfl rfl ?_
  refine xo_load0 T_ rfl rfl rfl (by repeat (first | exact List.Mem.head _ | apply List.Mem.tail | apply List.mem_append_right)) rfl rfl ?_
  refine xo_loadR0 T_ rfl rfl rfl (by assumption) rfl ?_
  refine xo_eql rfl rfl rfl rfl ?_
  refine xo_asg rfl rfl rfl ?_
  with_reducible refine xo_nil ?_
  with_reducible repeat (first | refine xq_then ?_ | refine xq_blockN ?_ | refine xq_scopeN ?_)
  with_reducible repeat refine xc_seq ?_
  with_reducible refine xc_ret ?_
  with_reducible repeat (first | refine xq_thenR ?_ | refine xq_blockR ?_ | refine xq_scopeR ?_)
  exact xq_ret1 rfl rfl fun w' hw => ⟨rfl, hw.kx.below⟩
/-- a closure over records that answers p -/
def AsksR (P : Program) (w : World) (g : Nat) (cs : List Value) (p : RecT → Bool) : Prop :=
  ∀ (x : RecT) (A2 : Option Addr) (c2 : Nat) (W : World), Below w.heap.size w W → Calls P g ([Value.agg (recV x A2 c2).toArray] ++ cs).toArray W fun e W' => e = .returned (.bool (p x)) ∧ Below W.heap.size W W'
theorem indexR_calls (p : RecT → Bool) (g : Nat) (cs : List Value) (eg : ∀ args w, (callFunc g args).run Try.prog w = .ok (.enter g args) w) (A : Option Addr) (c : Nat) (zs : List RecT) (w : World)
    (hr : Kd.C recK w A zs.length zs) (hp : AsksR Try.prog w g cs p) :
    Calls Try.prog 62 #[.slice A zs.length c, .func (.func g) #[] cs.toArray] w fun e w' => e = .returned (.int .i64 (idxF p zs 0)) ∧ Below w.heap.size w w' := by
  have hn := hr.2.1
  refine x_calls (X := XNone) Try.func62 rfl rfl rfl ?_
  with_reducible repeat refine xc_seq ?_
  with_reducible refine xc_region ?_
  refine xo_asg rfl rfl rfl ?_
  with_reducible refine xo_nil ?_
  with_reducible repeat (first | refine xq_then ?_ | refine xq_blockN ?_ | refine xq_scopeN ?_)
  with_reducible repeat refine xc_seq ?_
  with_reducible refine xc_region ?_
  refine xo_mv rfl rfl rfl ?_
  refine xo_len T_ rfl rfl rfl rfl ?_
  refine xo_mv rfl rfl rfl ?_
  with_reducible refine xo_nil ?_
  with_reducible repeat (first | refine xq_then ?_ | refine xq_blockN ?_ | refine xq_scopeN ?_)
  with_reducible repeat refine xc_seq ?_
  with_reducible refine xc_block ?_
  refine xc_loop (γ := Nat) (fun k => k ≤ zs.length ∧ ∀ j, j < k → p (zs.getD j zRec) = false) (fun k => [(0, .slice A zs.length c), (1, .func (.func g) #[] cs.toArray), (6, .slice A zs.length c), (7, .int .i64 (zs.length : Int)), (8, .int .i64 (k : Int))]) (fun _ => []) (fun k => zs.length - k) 0
    ⟨Nat.zero_le _, fun j hj => absurd hj (Nat.not_lt_zero _)⟩ ⟨rfl, rfl, rfl, rfl, rfl, trivial⟩ (by repeat (first | exact List.Sublist.refl _ | apply List.Sublist.cons₂ | apply List.Sublist.cons | exact List.nil_sublist _)) ?_
  rintro k ⟨hk, hno⟩
  with_reducible repeat refine xc_seq ?_
  with_reducible refine xc_region ?_
  refine xo_lss rfl rfl rfl rfl ?_
  with_reducible refine xo_nil ?_
  with_reducible repeat (first | refine xq_then ?_ | refine xq_blockN ?_ | refine xq_scopeN ?_)
  with_reducible repeat refine xc_seq ?_
  refine xc_cond rfl (fun h => ?_) (fun h => ?_)
  · have hlt : k < zs.length := by have := of_decide_eq_true h; omega
    obtain ⟨ad, A2, c2, rfl, r1, _, _⟩ := rec_at hr k hlt
    with_reducible refine xc_skip ?_
    with_reducible repeat (first | refine xq_then ?_ | refine xq_blockN ?_ | refine xq_scopeN ?_)
    with_reducible repeat refine xc_seq ?_
    with_reducible refine xc_block ?_
    with_reducible repeat refine xc_seq ?_
    with_reducible refine xc_region ?_
    refine xo_mv rfl rfl rfl ?_
    refine xo_asg rfl rfl rfl ?_
    with_reducible refine xo_nil ?_
    with_reducible repeat (first | refine xq_then ?_ | refine xq_blockN ?_ | refine xq_scopeN ?_)
    with_reducible repeat refine xc_seq ?_
    with_reducible refine xc_region ?_
    refine xo_mv rfl rfl rfl ?_
    refine xo_mv rfl rfl rfl ?_
    refine xo_mv rfl rfl rfl ?_
    refine xo_ia T_ rfl rfl rfl rfl rfl ⟨by omega, by omega⟩ rfl ?_
    refine xo_loadRN T_ rfl rfl rfl (by assumption) rfl rfl ?_
    refine xo_callB (fs := []) rfl rfl rfl eg rfl (fun w1 hw1 => hp _ _ _ _ hw1.kx.below) ?_
    with_reducible refine xo_nil ?_
    with_reducible repeat (first | refine xq_then ?_ | refine xq_blockN ?_ | refine xq_scopeN ?_)
    with_reducible repeat refine xc_seq ?_
    refine xc_cond rfl (fun h2 => ?_) (fun h2 => ?_)
    · with_reducible repeat refine xc_seq ?_
      with_reducible refine xc_region ?_
      refine xo_mv rfl rfl rfl ?_
      refine xo_asg rfl rfl rfl ?_
      with_reducible refine xo_nil ?_
      with_reducible repeat (first | refine xq_then ?_ | refine xq_blockN ?_ | refine xq_scopeN ?_)
      with_reducible repeat refine xc_seq ?_
      with_reducible refine xc_ret ?_
      with_reducible repeat (first | refine xq_thenR ?_ | refine xq_blockR ?_ | refine xq_scopeR ?_)
      exact xq_ret1 rfl rfl fun w' hw => ⟨by rw [idxF_hit p zRec zs k 0 hlt h2 hno]; simp, hw.kx.below⟩
    · with_reducible refine xc_skip ?_
      with_reducible repeat (first | refine xq_then ?_ | refine xq_blockN ?_ | refine xq_scopeN ?_)
      with_reducible repeat refine xc_seq ?_
      with_reducible refine xc_region ?_
      refine xo_add rfl rfl rfl (by omega) rfl ?_
      refine xo_mv rfl rfl rfl ?_
      with_reducible refine xo_nil ?_
      with_reducible repeat (first | refine xq_then ?_ | refine xq_blockN ?_ | refine xq_scopeN ?_)
      refine xq_again _ _ _ _ _ (k + 1) ⟨by omega, fun j hj => ?_⟩ (by omega) ⟨rfl, rfl, rfl, rfl, rfl, trivial⟩ (by repeat (first | exact List.Sublist.refl _ | apply List.Sublist.cons₂ | apply List.Sublist.cons | exact List.nil_sublist _))
      by_cases e : j = k
      · subst e; exact h2
      · exact hno j (by omega)
  · have hge : ¬ k < zs.length := by have := of_decide_eq_false h; omega
    with_reducible refine xc_exit ?_
    with_reducible repeat (first | refine xq_blockX ?_ | refine xq_thenE ?_ | refine xq_blockE rfl ?_ | refine xq_scopeE ?_)
    with_reducible repeat (first | refine xq_then ?_ | refine xq_blockN ?_ | refine xq_scopeN ?_)
    with_reducible repeat refine xc_seq ?_
    with_reducible refine xc_region ?_
    refine xo_asg rfl rfl rfl ?_
    with_reducible refine xo_nil ?_
    with_reducible repeat (first | refine xq_then ?_ | refine xq_blockN ?_ | refine xq_scopeN ?_)
    with_reducible repeat refine xc_seq ?_
    with_reducible refine xc_ret ?_
    with_reducible repeat (first | refine xq_thenR ?_ | refine xq_blockR ?_ | refine xq_scopeR ?_)
    refine xq_ret1 rfl rfl fun w' hw => ⟨?_, hw.kx.below⟩
    rw [idxF_miss p zRec zs 0 (fun j hj => hno j (by omega))]
theorem containsR_calls (p : RecT → Bool) (g : Nat) (cs : List Value) (eg : ∀ args w, (callFunc g args).run Try.prog w = .ok (.enter g args) w) (A : Option Addr) (c : Nat) (zs : List RecT) (w : World)
    (hr : Kd.C recK w A zs.length zs) (hp : AsksR Try.prog w g cs p) :
    Calls Try.prog 53 #[.slice A zs.length c, .func (.func g) #[] cs.toArray] w fun e w' => e = .returned (.bool (zs.any p)) ∧ Below w.heap.size w w' := by
  rw [← idxF_any p zs 0]
  have eg2 := enters_of Try.func62 (by kernel_rfl) rfl
  refine x_calls (X := XNone) Try.func53 rfl rfl rfl ?_
  with_reducible repeat refine xc_seq ?_
  with_reducible refine xc_region ?_
  refine xo_asg rfl rfl rfl ?_
  with_reducible refine xo_nil ?_
  with_reducible repeat (first | refine xq_then ?_ | refine xq_blockN ?_ | refine xq_scopeN ?_)
  with_reducible repeat refine xc_seq ?_
  with_reducible refine xc_region ?_
  refine xo_mv rfl rfl rfl ?_
  refine xo_mv rfl rfl rfl ?_
  refine xo_callB (fs := []) (cs := []) rfl rfl rfl eg2 rfl (fun w1 hw1 => indexR_calls p g cs eg A c zs w1 (Kd.C_below hr hw1.kx.below) (fun x A2 c2 W hW => hp x A2 c2 W (below_step hw1.kx.below hW))) ?_
  refine xo_geq rfl rfl rfl rfl ?_
  refine xo_asg rfl rfl rfl ?_
  with_reducible refine xo_nil ?_
  with_reducible repeat (first | refine xq_then ?_ | refine xq_blockN ?_ | refine xq_scopeN ?_)
  with_reducible repeat refine xc_seq ?_
  with_reducible refine xc_ret ?_
  with_reducible repeat (first | refine xq_thenR ?_ | refine xq_blockR ?_ | refine xq_scopeR ?_)
  exact (xq_ret1 rfl rfl fun w' hw => ⟨rfl, hw.kx.below⟩)
theorem known_calls (A : Option Addr) (c : Nat) (r : List RecT) (id : Int) (w : World) (hr : Kd.C recK w A r.length r) :
    Calls Try.prog 33 #[.slice A r.length c, .int .i64 id] w fun e w' => e = .returned (.bool (knownF r id)) ∧ Below w.heap.size w w' := by
  have eg : ∀ args w, (callFunc 54 args).run Try.prog w = .ok (.enter 54 args) w := enters_of Try.func54 (by kernel_rfl) rfl
  have eg2 := enters_of Try.func53 (by kernel_rfl) rfl
  refine x_calls (X := XNone) Try.func33 rfl rfl rfl ?_
  with_reducible repeat refine xc_seq ?_
  with_reducible refine xc_region ?_
  refine xo_box rfl rfl rfl rfl (fun b3 => ?_)
  refine xo_asg rfl rfl rfl ?_
  with_reducible refine xo_nil ?_
  with_reducible repeat (first | refine xq_then ?_ | refine xq_blockN ?_ | refine xq_scopeN ?_)
  with_reducible repeat refine xc_seq ?_
  with_reducible refine xc_region ?_
  refine xo_mv rfl rfl rfl ?_
  refine xo_mkf rfl rfl rfl rfl ?_
  refine xo_callB (fs := []) (cs := []) rfl rfl rfl eg2 rfl (fun w1 hw1 => containsR_calls (fun x => decide (x.f0 = id)) _ [.pointer (some ⟨b3, 0, none⟩)] eg A c r w1 (Kd.C_below hr hw1.kx.below)
    (fun x A2 c2 W hW => known1_calls x A2 c2 id b3 W ((hw1.below hW).cell (List.Mem.head _) 0 rfl))) ?_
  refine xo_asg rfl rfl rfl ?_
  with_reducible refine xo_nil ?_
  with_reducible repeat (first | refine xq_then ?_ | refine xq_blockN ?_ | refine xq_scopeN ?_)
  with_reducible repeat refine xc_seq ?_
  with_reducible refine xc_ret ?_
  with_reducible repeat (first | refine xq_thenR ?_ | refine xq_blockR ?_ | refine xq_scopeR ?_)
  exact (xq_ret1 rfl rfl fun w' hw => ⟨rfl, hw.kx.below⟩)
theorem known_enters : ∀ args w, (callFunc 33 args).run Try.prog w = .ok (.enter 33 args) w := enters_of Try.func33 (by kernel_rfl) rfl
theorem recorded_enters : ∀ args w, (callFunc 31 args).run Try.prog w = .ok (.enter 31 args) w := enters_of Try.func31 (by kernel_rfl) rfl

def lettersF (r : List RecT) : Int → Int → List LetT → Bool
  | _, _, [] => true
  | last, i, x :: l => (inF (last + 1) 9999 x.f0 && inF 0 100000 x.f1 && knownF r x.f2 && inF 1 2 x.f3 && !decide (20 ≤ i)) && lettersF r x.f0 (i + 1) l
def checkF (r : List RecT) (l : List LetT) : Int := if recordedF r then (if lettersF r (-1) 0 l then 0 else 81) else 80
set_option maxHeartbeats 4000000 in
theorem check_calls (A B : Option Addr) (c c' : Nat) (r : List RecT) (l : List LetT) (w : World) (hr : Kd.C recK w A r.length r) (hl : Kd.C letK w B l.length l) (hk : Bytes r) (hkl : BytesL l) :
    Calls Try.prog 11 #[.slice A r.length c, .slice B l.length c'] w fun e w' => e = .returned (.int .i64 (checkF r l)) ∧ Below w.heap.size w w' := by
  have hn := hl.2.1
  refine x_calls (X := XNone) Try.func11 rfl rfl rfl ?_
  with_reducible repeat refine xc_seq ?_
  with_reducible refine xc_region ?_
  refine xo_asg rfl rfl rfl ?_
  with_reducible refine xo_nil ?_
  with_reducible repeat (first | refine xq_then ?_ | refine xq_blockN ?_ | refine xq_scopeN ?_)
  with_reducible repeat refine xc_seq ?_
  with_reducible refine xc_region ?_
  refine xo_mv rfl rfl rfl ?_
  refine xo_callB (fs := []) (cs := []) rfl rfl rfl recorded_enters rfl (fun w1 hw1 => recorded_calls A c r w1 (Kd.C_below hr hw1.kx.below) hk) ?_
  refine xo_notOp rfl rfl rfl ?_
  with_reducible refine xo_nil ?_
  with_reducible repeat (first | refine xq_then ?_ | refine xq_blockN ?_ | refine xq_scopeN ?_)
  with_reducible repeat refine xc_seq ?_
  refine xc_cond rfl (fun hrec => ?_) (fun hrec => ?_)
  · with_reducible repeat refine xc_seq ?_
    with_reducible refine xc_region ?_
    refine xo_asg rfl rfl rfl ?_
    with_reducible refine xo_nil ?_
    with_reducible repeat (first | refine xq_then ?_ | refine xq_blockN ?_ | refine xq_scopeN ?_)
    with_reducible repeat refine xc_seq ?_
    with_reducible refine xc_ret ?_
    with_reducible repeat (first | refine xq_thenR ?_ | refine xq_blockR ?_ | refine xq_scopeR ?_)
    refine xq_ret1 rfl rfl fun w' hw => ⟨?_, hw.kx.below⟩
    simp only [Bool.not_eq_true'] at hrec
    rw [checkF, hrec]
    rfl
  with_reducible refine xc_skip ?_
  with_reducible repeat (first | refine xq_then ?_ | refine xq_blockN ?_ | refine xq_scopeN ?_)
  simp only [Bool.not_eq_false'] at hrec
  with_reducible repeat refine xc_seq ?_
  with_reducible refine xc_region ?_
  refine xo_asg rfl rfl rfl ?_
  with_reducible refine xo_nil ?_
  with_reducible repeat (first | refine xq_then ?_ | refine xq_blockN ?_ | refine xq_scopeN ?_)
  with_reducible repeat refine xc_seq ?_
  with_reducible refine xc_region ?_
  refine xo_mv rfl rfl rfl ?_
  refine xo_len T_ rfl rfl rfl rfl ?_
  refine xo_mv rfl rfl rfl ?_
  with_reducible refine xo_nil ?_
  with_reducible repeat (first | refine xq_then ?_ | refine xq_blockN ?_ | refine xq_scopeN ?_)
  with_reducible repeat refine xc_seq ?_
  with_reducible refine xc_block ?_
  refine xc_loop (γ := Nat × Int) (fun q => q.1 ≤ l.length ∧ -1 ≤ q.2 ∧ q.2 ≤ 9999 ∧ lettersF r (-1) 0 l = lettersF r q.2 (q.1 : Int) (l.drop q.1)) (fun q => [(0, .slice A r.length c), (5, .int .i64 q.2), (11, .slice B l.length c'), (12, .int .i64 (l.length : Int)), (13, .int .i64 (q.1 : Int))]) (fun q => []) (fun q => l.length - q.1) (0, -1)
    ⟨Nat.zero_le _, by simp, by simp, rfl⟩ ⟨rfl, rfl, rfl, rfl, rfl, trivial⟩ (by repeat (first | exact List.Sublist.refl _ | apply List.Sublist.cons₂ | apply List.Sublist.cons | exact List.nil_sublist _)) ?_
  rintro ⟨k, last⟩ ⟨hk1, hl0, hl1, hlet⟩
  simp only at hk1 hl0 hl1 hlet ⊢
  with_reducible repeat refine xc_seq ?_
  with_reducible refine xc_region ?_
  refine xo_lss rfl rfl rfl rfl ?_
  with_reducible refine xo_nil ?_
  with_reducible repeat (first | refine xq_then ?_ | refine xq_blockN ?_ | refine xq_scopeN ?_)
  with_reducible repeat refine xc_seq ?_
  refine xc_cond rfl (fun h => ?_) (fun h => ?_)
  · have hlt : k < l.length := by have := of_decide_eq_true h; omega
    obtain ⟨ad, rfl, r1⟩ := let_at hl k hlt
    have hby := hkl _ (getD_mem l zLet k hlt)
    rw [drop_at l zLet k hlt] at hlet
    generalize l.getD k zLet = x at *
    with_reducible refine xc_skip ?_
    with_reducible repeat (first | refine xq_then ?_ | refine xq_blockN ?_ | refine xq_scopeN ?_)
    with_reducible repeat refine xc_seq ?_
    with_reducible refine xc_block ?_
    with_reducible repeat refine xc_seq ?_
    with_reducible refine xc_region ?_
    refine xo_mv rfl rfl rfl ?_
    refine xo_ia T_ rfl rfl rfl rfl rfl ⟨by omega, by omega⟩ rfl ?_
    refine xo_loadRN T_ rfl rfl rfl (by assumption) rfl rfl ?_
    refine xo_alloc T_ rfl rfl rfl rfl (fun b7 => ?_)
    refine xo_asg rfl rfl rfl ?_
    refine xo_store T_ rfl rfl rfl rfl (by repeat (first | exact List.Mem.head _ | apply List.Mem.tail | apply List.mem_append_right)) rfl rfl rfl rfl (by repeat (first | exact Upd.head | apply Upd.tail | apply Upd.app)) rfl ?_
    with_reducible refine xo_nil ?_
    with_reducible repeat (first | refine xq_then ?_ | refine xq_blockN ?_ | refine xq_scopeN ?_)
    cases h1 : !inF (last + 1) 9999 x.f0 <;> cases h2 : !inF 0 100000 x.f1 <;> cases h3 : !knownF r x.f2 <;> cases h4 : !inF 1 2 x.f3 <;> cases h5 : decide (20 ≤ (k : Int))
    all_goals
      with_reducible repeat refine xc_seq ?_
      with_reducible refine xc_region ?_
      refine xo_mv rfl rfl rfl ?_
      refine xo_add rfl rfl rfl (by omega) rfl ?_
      refine xo_fa T_ rfl rfl rfl rfl rfl ?_
      refine xo_load0 T_ rfl rfl rfl (by repeat (first | exact List.Mem.head _ | apply List.Mem.tail | apply List.mem_append_right)) rfl rfl ?_
      refine xo_bs1 T_ rfl rfl rfl rfl rfl rfl rfl rfl (fun b22 => ?_)
      refine xo_callB (fs := []) (cs := []) rfl rfl rfl in_enters rfl (fun w1 hw1 => in_calls hw1 _ _ _ (by repeat (first | exact List.Mem.head _ | apply List.Mem.tail | apply List.mem_append_right))) ?_
      refine xo_notOp rfl rfl rfl ?_
      refine xo_mv rfl rfl rfl ?_
      refine xo_as (i := 25) rfl (congrArg Value.bool h1) ?_
      first
        | refine xo_not rfl rfl ?_
        | (refine xo_fa T_ rfl rfl rfl rfl rfl ?_)
      first
        | refine xo_not rfl rfl ?_
        | (refine xo_load0 T_ rfl rfl rfl (by repeat (first | exact List.Mem.head _ | apply List.Mem.tail | apply List.mem_append_right)) rfl rfl ?_)
      first
        | refine xo_not rfl rfl ?_
        | (refine xo_bs1 T_ rfl rfl rfl rfl rfl rfl rfl rfl (fun b28 => ?_))
      first
        | refine xo_not rfl rfl ?_
        | (refine xo_callB (fs := []) (cs := []) rfl rfl rfl in_enters rfl (fun w1 hw1 => in_calls hw1 _ _ _ (by repeat (first | exact List.Mem.head _ | apply List.Mem.tail | apply List.mem_append_right))) ?_)
      first
        | refine xo_not rfl rfl ?_
        | (refine xo_notOp rfl rfl rfl ?_)
      first | refine xo_pickT rfl rfl rfl rfl ?_ | refine xo_pickF rfl rfl rfl rfl ?_
      refine xo_mv rfl rfl rfl ?_
      first | refine xo_as (i := 32) rfl (congrArg Value.bool h2) ?_ | skip
      first
        | refine xo_not rfl rfl ?_
        | (refine xo_mv rfl rfl rfl ?_)
      first
        | refine xo_not rfl rfl ?_
        | (refine xo_fa T_ rfl rfl rfl rfl rfl ?_)
      first
        | refine xo_not rfl rfl ?_
        | (refine xo_load0 T_ rfl rfl rfl (by repeat (first | exact List.Mem.head _ | apply List.Mem.tail | apply List.mem_append_right)) rfl rfl ?_)
      first
        | refine xo_not rfl rfl ?_
        | (refine xo_callB (fs := []) (cs := []) rfl rfl rfl known_enters rfl (fun w1 hw1 => known_calls A c r _ w1 (Kd.C_below hr hw1.kx.below)) ?_)
      first
        | refine xo_not rfl rfl ?_
        | (refine xo_notOp rfl rfl rfl ?_)
      first | refine xo_pickT rfl rfl rfl rfl ?_ | refine xo_pickF rfl rfl rfl rfl ?_
      refine xo_mv rfl rfl rfl ?_
      first | refine xo_as (i := 39) rfl (congrArg Value.bool h3) ?_ | skip
      first
        | refine xo_not rfl rfl ?_
        | (refine xo_fa T_ rfl rfl rfl rfl rfl ?_)
      first
        | refine xo_not rfl rfl ?_
        | (refine xo_load0 T_ rfl rfl rfl (by repeat (first | exact List.Mem.head _ | apply List.Mem.tail | apply List.mem_append_right)) rfl rfl ?_)
      first
        | refine xo_not rfl rfl ?_
        | (refine xo_conv T_ rfl rfl rfl rfl (IntWalk.i64_in _ ⟨by omega, by omega⟩) rfl ?_)
      first
        | refine xo_not rfl rfl ?_
        | (refine xo_bs1 T_ rfl rfl rfl rfl rfl rfl rfl rfl (fun b43 => ?_))
      first
        | refine xo_not rfl rfl ?_
        | (refine xo_callB (fs := []) (cs := []) rfl rfl rfl in_enters rfl (fun w1 hw1 => in_calls hw1 _ _ _ (by repeat (first | exact List.Mem.head _ | apply List.Mem.tail | apply List.mem_append_right))) ?_)
      first
        | refine xo_not rfl rfl ?_
        | (refine xo_notOp rfl rfl rfl ?_)
      first | refine xo_pickT rfl rfl rfl rfl ?_ | refine xo_pickF rfl rfl rfl rfl ?_
      refine xo_mv rfl rfl rfl ?_
      first | refine xo_as (i := 47) rfl (congrArg Value.bool h4) ?_ | skip
      first
        | refine xo_not rfl rfl ?_
        | (refine xo_mv rfl rfl rfl ?_)
      first
        | refine xo_not rfl rfl ?_
        | (refine xo_geq rfl rfl rfl rfl ?_)
      first | refine xo_pickT rfl rfl rfl rfl ?_ | refine xo_pickF rfl rfl rfl rfl ?_
      first | refine xo_as (i := 50) rfl (congrArg Value.bool h5) ?_ | skip
      with_reducible refine xo_nil ?_
      with_reducible repeat (first | refine xq_then ?_ | refine xq_blockN ?_ | refine xq_scopeN ?_)
      with_reducible repeat refine xc_seq ?_
      first | refine xc_condT rfl ?_ | refine xc_condF rfl ?_
    rotate_left
    iterate 31
      · with_reducible repeat refine xc_seq ?_
        with_reducible refine xc_region ?_
        refine xo_asg rfl rfl rfl ?_
        with_reducible refine xo_nil ?_
        with_reducible repeat (first | refine xq_then ?_ | refine xq_blockN ?_ | refine xq_scopeN ?_)
        with_reducible repeat refine xc_seq ?_
        with_reducible refine xc_ret ?_
        with_reducible repeat (first | refine xq_thenR ?_ | refine xq_blockR ?_ | refine xq_scopeR ?_)
        refine xq_ret1 rfl rfl fun w' hw => ⟨?_, hw.kx.below⟩
        rw [checkF, hrec, hlet, lettersF]
        simp only [Bool.not_eq_true', Bool.not_eq_false'] at h1 h2 h3 h4
        simp only [h1, h2, h3, h4, h5, Bool.false_and, Bool.and_false, Bool.not_true, Bool.not_false, Bool.true_and, Bool.and_true]
        rfl
    simp only [Bool.not_eq_true', Bool.not_eq_false'] at h1 h2 h3 h4
    have hx0 : last + 1 ≤ x.f0 ∧ x.f0 ≤ 9999 := by simpa [inF] using h1
    with_reducible refine xc_skip ?_
    with_reducible repeat (first | refine xq_then ?_ | refine xq_blockN ?_ | refine xq_scopeN ?_)
    with_reducible repeat refine xc_seq ?_
    with_reducible refine xc_region ?_
    refine xo_fa T_ rfl rfl rfl rfl rfl ?_
    refine xo_load0 T_ rfl rfl rfl (by repeat (first | exact List.Mem.head _ | apply List.Mem.tail | apply List.mem_append_right)) rfl rfl ?_
    refine xo_asg rfl rfl rfl ?_
    with_reducible refine xo_nil ?_
    with_reducible repeat (first | refine xq_then ?_ | refine xq_blockN ?_ | refine xq_scopeN ?_)
    with_reducible repeat refine xc_seq ?_
    with_reducible refine xc_region ?_
    refine xo_add rfl rfl rfl (by omega) rfl ?_
    refine xo_mv rfl rfl rfl ?_
    with_reducible refine xo_nil ?_
    with_reducible repeat (first | refine xq_then ?_ | refine xq_blockN ?_ | refine xq_scopeN ?_)
    refine xq_again _ _ _ _ _ (k + 1, x.f0) ⟨hlt, by simp only; omega, hx0.2, ?_⟩ (by first | omega | (simp only; omega)) ⟨rfl, rfl, rfl, rfl, rfl, trivial⟩ (by repeat (first | exact List.Sublist.refl _ | apply List.Sublist.cons₂ | apply List.Sublist.cons | exact List.nil_sublist _))
    rw [hlet, lettersF]
    simp only [h1, h2, h3, h4, h5, Bool.not_false, Bool.true_and, Bool.and_self]
    rfl
  · have hge : ¬ k < l.length := by have := of_decide_eq_false h; omega
    rw [List.drop_of_length_le (by omega)] at hlet
    with_reducible refine xc_exit ?_
    with_reducible repeat (first | refine xq_blockX ?_ | refine xq_thenE ?_ | refine xq_blockE rfl ?_ | refine xq_scopeE ?_)
    with_reducible repeat (first | refine xq_then ?_ | refine xq_blockN ?_ | refine xq_scopeN ?_)
    with_reducible repeat refine xc_seq ?_
    with_reducible refine xc_region ?_
    refine xo_asg rfl rfl rfl ?_
    with_reducible refine xo_nil ?_
    with_reducible repeat (first | refine xq_then ?_ | refine xq_blockN ?_ | refine xq_scopeN ?_)
    with_reducible repeat refine xc_seq ?_
    with_reducible refine xc_ret ?_
    with_reducible repeat (first | refine xq_thenR ?_ | refine xq_blockR ?_ | refine xq_scopeR ?_)
    refine xq_ret1 rfl rfl fun w' hw => ⟨?_, hw.kx.below⟩
    rw [checkF, hrec, hlet]
    rfl
theorem check_enters : ∀ args w, (callFunc 11 args).run Try.prog w = .ok (.enter 11 args) w := enters_of Try.func11 (by kernel_rfl) rfl
end Go.Proofs.Ytcmepdamemnbkaa
