/- trust.known, trust.Check. / SX: a region that draws its order, each of whose operations answers the same whatever has been done beside it. No program in sight. / SX: iterators: one that yields, and a range over one. No program in sight. / SX: a drawn region whose values the steps themselves find. No program in sight. / SX: append of a whole row. No program in sight. / SX: a drawn region some of whose operations make blocks or write: their values and blocks are a ghost that the steps choose. No program in sight. / SX: a drawn region whose operations that make blocks come one after the other (each waits for the one before): the rest may come at any time. No program in sight. / SX: rows of several cells an element, of the call's own: read, written, copied. No program in sight. / SX: shifts and single bits; rows of whatever cells, of a call's results. No program in sight. / SX: delete out of a map with whole-number keys. No program in sight. / SX: a range over an iterator of whole numbers that yields one of several lists (as a map's keys, in whatever order). No program in sight. / SX: a range over a map with whole-number keys. No program in sight. / SX: how many a set holds. No program in sight. / SX: nil checks, places in arrays, look-ups that tell whether there is one, blocks that a call has laid, parts of memory that a call has changed. No program in sight. / trust: moves and what batches hold, in plain Lean. / trust.adds: what each kind of move adds to a store, and where the table lies. -/
import Derived.Test.YtcmepdamemnbkaaDoorPkLawTrustExamples2
import Derived.RangeFuncNested
import Derived.RangeFuncLeaves
import Derived.Deep.Upon
import Derived.Test.YtcmepdamemnbkaaDoorPkLawTrustExamples1
namespace Go.Proofs.YtcmepdamemnbkaaDoor
open Go.RowKit Go.Proofs.YtcmepdamemnbkaaDoorW.PrintWords
set_option linter.unusedVariables false
set_option linter.unusedSimpArgs false
theorem known1_calls (x : RecT) (A2 : Option Addr) (c2 : Nat) (id : Int) (B : Nat) (w : World) (hB : w.cell? ⟨B, 0, none⟩ = some (.int .i64 id)) :
    Calls Tryd.prog 67 #[.agg (recV x A2 c2).toArray, .pointer (some ⟨B, 0, none⟩)] w fun e w' => e = .returned (.bool (decide (x.f0 = id))) ∧ Below w.heap.size w w' := by
  have r1 := ro1 hB
  refine x_calls (X := XNone) Tryd.func67 rfl rfl rfl ?_
  with_reducible repeat refine xc_seq ?_
  with_reducible refine xc_region ?_
  refine xo_box rfl rfl rfl rfl (fun b2 => ?_)
  refine xo_asg rfl rfl rfl ?_
  with_reducible refine xo_nil ?_
  with_reducible repeat (first | refine xq_then ?_ | refine xq_blockN ?_ | refine xq_scopeN ?_)
  with_reducible repeat refine xc_seq ?_
  with_reducible refine xc_region ?_
  refine xo_fa T_ rfl rfl rfl rfl rfl ?_
  refine xo_load0 T_ rfl rfl rfl (by repeat (first | exact List.Mem.head _ | apply List.Mem.tail | apply List.mem_append_right)) rfl rfl ?_
  refine xo_loadR0 T_ rfl rfl rfl (by first | assumption | exact RO.fld (by assumption) rfl) rfl ?_
  refine xo_eql rfl rfl rfl rfl ?_
  refine xo_asg rfl rfl rfl ?_
  with_reducible refine xo_nil ?_
  with_reducible repeat (first | refine xq_then ?_ | refine xq_blockN ?_ | refine xq_scopeN ?_)
  with_reducible repeat refine xc_seq ?_
  with_reducible refine xc_ret ?_
  with_reducible repeat (first | refine xq_thenR ?_ | refine xq_blockR ?_ | refine xq_scopeR ?_)
  exact xq_ret1 rfl rfl fun w' hw => ⟨rfl, hw.kx.below⟩
/-- a closure over records that answers p -/
def AsksR (P : Program) (w : World) (g : Nat) (cs : List Value) (p : RecT → Bool) : Prop :=
  ∀ (x : RecT) (A2 : Option Addr) (c2 : Nat) (W : World), Below w.heap.size w W → Calls P g ([Value.agg (recV x A2 c2).toArray] ++ cs).toArray W fun e W' => e = .returned (.bool (p x)) ∧ Below W.heap.size W W'
theorem indexR_calls (p : RecT → Bool) (g : Nat) (cs : List Value) (eg : ∀ args w, (callFunc g args).run Tryd.prog w = .ok (.enter g args) w) (A : Option Addr) (c : Nat) (zs : List RecT) (w : World)
    (hr : Kd.C recK w A zs.length zs) (hp : AsksR Tryd.prog w g cs p) :
    Calls Tryd.prog 80 #[.slice A zs.length c, .func (.func g) #[] cs.toArray] w fun e w' => e = .returned (.int .i64 (idxF p zs 0)) ∧ Below w.heap.size w w' := by
  have hn := hr.2.1
  refine x_calls (X := XNone) Tryd.func80 rfl rfl rfl ?_
  with_reducible repeat refine xc_seq ?_
  with_reducible refine xc_region ?_
  refine xo_asg rfl rfl rfl ?_
  with_reducible refine xo_nil ?_
  with_reducible repeat (first | refine xq_then ?_ | refine xq_blockN ?_ | refine xq_scopeN ?_)
  with_reducible repeat refine xc_seq ?_
  with_reducible refine xc_region ?_
  refine xo_mv rfl rfl rfl ?_
  refine xo_len T_ rfl rfl rfl rfl ?_
  refine xo_mv rfl rfl rfl ?_
  with_reducible refine xo_nil ?_
  with_reducible repeat (first | refine xq_then ?_ | refine xq_blockN ?_ | refine xq_scopeN ?_)
  with_reducible repeat refine xc_seq ?_
  with_reducible refine xc_block ?_
  refine xc_loop (γ := Nat) (fun k => k ≤ zs.length ∧ ∀ j, j < k → p (zs.getD j zRec) = false) (fun k => [(0, .slice A zs.length c), (1, .func (.func g) #[] cs.toArray), (6, .slice A zs.length c), (7, .int .i64 (zs.length : Int)), (8, .int .i64 (k : Int))]) (fun _ => []) (fun k => zs.length - k) 0
    ⟨Nat.zero_le _, fun j hj => absurd hj (Nat.not_lt_zero _)⟩ ⟨rfl, rfl, rfl, rfl, rfl, trivial⟩ (by repeat (first | exact List.Sublist.refl _ | apply List.Sublist.cons_cons | apply List.Sublist.cons | exact List.nil_sublist _)) ?_
  rintro k ⟨hk, hno⟩
  with_reducible repeat refine xc_seq ?_
  with_reducible refine xc_region ?_
  refine xo_lss rfl rfl rfl rfl ?_
  with_reducible refine xo_nil ?_
  with_reducible repeat (first | refine xq_then ?_ | refine xq_blockN ?_ | refine xq_scopeN ?_)
  with_reducible repeat refine xc_seq ?_
  refine xc_cond rfl (fun h => ?_) (fun h => ?_)
  · have hlt : k < zs.length := by have := of_decide_eq_true h; omega
    obtain ⟨ad, A2, c2, rfl, r1, _, _⟩ := rec_at hr k hlt
    with_reducible refine xc_skip ?_
    with_reducible repeat (first | refine xq_then ?_ | refine xq_blockN ?_ | refine xq_scopeN ?_)
    with_reducible repeat refine xc_seq ?_
    with_reducible refine xc_block ?_
    with_reducible repeat refine xc_seq ?_
    with_reducible refine xc_region ?_
    refine xo_mv rfl rfl rfl ?_
    refine xo_asg rfl rfl rfl ?_
    with_reducible refine xo_nil ?_
    with_reducible repeat (first | refine xq_then ?_ | refine xq_blockN ?_ | refine xq_scopeN ?_)
    with_reducible repeat refine xc_seq ?_
    with_reducible refine xc_region ?_
    refine xo_mv rfl rfl rfl ?_
    refine xo_mv rfl rfl rfl ?_
    refine xo_mv rfl rfl rfl ?_
    refine xo_ia T_ rfl rfl rfl rfl rfl ⟨by omega, by omega⟩ rfl ?_
    refine xo_loadRN T_ rfl rfl rfl (by assumption) rfl rfl ?_
    refine xo_callB (fs := []) rfl rfl rfl eg rfl (fun w1 hw1 => hp _ _ _ _ hw1.kx.below) ?_
    with_reducible refine xo_nil ?_
    with_reducible repeat (first | refine xq_then ?_ | refine xq_blockN ?_ | refine xq_scopeN ?_)
    with_reducible repeat refine xc_seq ?_
    refine xc_cond rfl (fun h2 => ?_) (fun h2 => ?_)
    · with_reducible repeat refine xc_seq ?_
      with_reducible refine xc_region ?_
      refine xo_mv rfl rfl rfl ?_
      refine xo_asg rfl rfl rfl ?_
      with_reducible refine xo_nil ?_
      with_reducible repeat (first | refine xq_then ?_ | refine xq_blockN ?_ | refine xq_scopeN ?_)
      with_reducible repeat refine xc_seq ?_
      with_reducible refine xc_ret ?_
      with_reducible repeat (first | refine xq_thenR ?_ | refine xq_blockR ?_ | refine xq_scopeR ?_)
      exact xq_ret1 rfl rfl fun w' hw => ⟨by rw [idxF_hit p zRec zs k 0 hlt h2 hno]; simp, hw.kx.below⟩
    · with_reducible refine xc_skip ?_
      with_reducible repeat (first | refine xq_then ?_ | refine xq_blockN ?_ | refine xq_scopeN ?_)
      with_reducible repeat refine xc_seq ?_
      with_reducible refine xc_region ?_
      refine xo_add rfl rfl rfl (by omega) rfl ?_
      refine xo_mv rfl rfl rfl ?_
      with_reducible refine xo_nil ?_
      with_reducible repeat (first | refine xq_then ?_ | refine xq_blockN ?_ | refine xq_scopeN ?_)
      refine xq_again _ _ _ _ _ (k + 1) ⟨by omega, fun j hj => ?_⟩ (by omega) ⟨rfl, rfl, rfl, rfl, rfl, trivial⟩ (by repeat (first | exact List.Sublist.refl _ | apply List.Sublist.cons_cons | apply List.Sublist.cons | exact List.nil_sublist _))
      by_cases e : j = k
      · subst e; exact h2
      · exact hno j (by omega)
  · have hge : ¬ k < zs.length := by have := of_decide_eq_false h; omega
    with_reducible refine xc_exit ?_
    with_reducible repeat (first | refine xq_blockX ?_ | refine xq_thenE ?_ | refine xq_blockE rfl ?_ | refine xq_scopeE ?_)
    with_reducible repeat (first | refine xq_then ?_ | refine xq_blockN ?_ | refine xq_scopeN ?_)
    with_reducible repeat refine xc_seq ?_
    with_reducible refine xc_region ?_
    refine xo_asg rfl rfl rfl ?_
    with_reducible refine xo_nil ?_
    with_reducible repeat (first | refine xq_then ?_ | refine xq_blockN ?_ | refine xq_scopeN ?_)
    with_reducible repeat refine xc_seq ?_
    with_reducible refine xc_ret ?_
    with_reducible repeat (first | refine xq_thenR ?_ | refine xq_blockR ?_ | refine xq_scopeR ?_)
    refine xq_ret1 rfl rfl fun w' hw => ⟨?_, hw.kx.below⟩
    rw [idxF_miss p zRec zs 0 (fun j hj => hno j (by omega))]
theorem containsR_calls (p : RecT → Bool) (g : Nat) (cs : List Value) (eg : ∀ args w, (callFunc g args).run Tryd.prog w = .ok (.enter g args) w) (A : Option Addr) (c : Nat) (zs : List RecT) (w : World)
    (hr : Kd.C recK w A zs.length zs) (hp : AsksR Tryd.prog w g cs p) :
    Calls Tryd.prog 66 #[.slice A zs.length c, .func (.func g) #[] cs.toArray] w fun e w' => e = .returned (.bool (zs.any p)) ∧ Below w.heap.size w w' := by
  rw [← idxF_any p zs 0]
  have eg2 := enters_of Tryd.func80 (by kernel_rfl) rfl
  refine x_calls (X := XNone) Tryd.func66 rfl rfl rfl ?_
  with_reducible repeat refine xc_seq ?_
  with_reducible refine xc_region ?_
  refine xo_asg rfl rfl rfl ?_
  with_reducible refine xo_nil ?_
  with_reducible repeat (first | refine xq_then ?_ | refine xq_blockN ?_ | refine xq_scopeN ?_)
  with_reducible repeat refine xc_seq ?_
  with_reducible refine xc_region ?_
  refine xo_mv rfl rfl rfl ?_
  refine xo_mv rfl rfl rfl ?_
  refine xo_callB (fs := []) (cs := []) rfl rfl rfl eg2 rfl (fun w1 hw1 => indexR_calls p g cs eg A c zs w1 (Kd.C_below hr hw1.kx.below) (fun x A2 c2 W hW => hp x A2 c2 W (below_step hw1.kx.below hW))) ?_
  refine xo_geq rfl rfl rfl rfl ?_
  refine xo_asg rfl rfl rfl ?_
  with_reducible refine xo_nil ?_
  with_reducible repeat (first | refine xq_then ?_ | refine xq_blockN ?_ | refine xq_scopeN ?_)
  with_reducible repeat refine xc_seq ?_
  with_reducible refine xc_ret ?_
  with_reducible repeat (first | refine xq_thenR ?_ | refine xq_blockR ?_ | refine xq_scopeR ?_)
  exact (xq_ret1 rfl rfl fun w' hw => ⟨rfl, hw.kx.below⟩)
theorem known_calls (A : Option Addr) (c : Nat) (r : List RecT) (id : Int) (w : World) (hr : Kd.C recK w A r.length r) :
    Calls Tryd.prog 43 #[.slice A r.length c, .int .i64 id] w fun e w' => e = .returned (.bool (knownF r id)) ∧ Below w.heap.size w w' := by
  have eg : ∀ args w, (callFunc 67 args).run Tryd.prog w = .ok (.enter 67 args) w := enters_of Tryd.func67 (by kernel_rfl) rfl
  have eg2 := enters_of Tryd.func66 (by kernel_rfl) rfl
  refine x_calls (X := XNone) Tryd.func43 rfl rfl rfl ?_
  with_reducible repeat refine xc_seq ?_
  with_reducible refine xc_region ?_
  refine xo_box rfl rfl rfl rfl (fun b3 => ?_)
  refine xo_asg rfl rfl rfl ?_
  with_reducible refine xo_nil ?_
  with_reducible repeat (first | refine xq_then ?_ | refine xq_blockN ?_ | refine xq_scopeN ?_)
  with_reducible repeat refine xc_seq ?_
  with_reducible refine xc_region ?_
  refine xo_mv rfl rfl rfl ?_
  refine xo_mkf rfl rfl rfl rfl ?_
  refine xo_callB (fs := []) (cs := []) rfl rfl rfl eg2 rfl (fun w1 hw1 => containsR_calls (fun x => decide (x.f0 = id)) _ [.pointer (some ⟨b3, 0, none⟩)] eg A c r w1 (Kd.C_below hr hw1.kx.below)
    (fun x A2 c2 W hW => known1_calls x A2 c2 id b3 W ((hw1.below hW).cell (List.Mem.head _) 0 rfl))) ?_
  refine xo_asg rfl rfl rfl ?_
  with_reducible refine xo_nil ?_
  with_reducible repeat (first | refine xq_then ?_ | refine xq_blockN ?_ | refine xq_scopeN ?_)
  with_reducible repeat refine xc_seq ?_
  with_reducible refine xc_ret ?_
  with_reducible repeat (first | refine xq_thenR ?_ | refine xq_blockR ?_ | refine xq_scopeR ?_)
  exact (xq_ret1 rfl rfl fun w' hw => ⟨rfl, hw.kx.below⟩)
theorem known_enters : ∀ args w, (callFunc 43 args).run Tryd.prog w = .ok (.enter 43 args) w := enters_of Tryd.func43 (by kernel_rfl) rfl
theorem recorded_enters : ∀ args w, (callFunc 41 args).run Tryd.prog w = .ok (.enter 41 args) w := enters_of Tryd.func41 (by kernel_rfl) rfl
def lettersF (r : List RecT) : Int → Int → List LetT → Bool
  | _, _, [] => true
  | last, i, x :: l => (inF (last + 1) 9999 x.f0 && inF 0 100000 x.f1 && knownF r x.f2 && inF 1 2 x.f3 && !decide (20 ≤ i)) && lettersF r x.f0 (i + 1) l
def checkF (r : List RecT) (l : List LetT) : Int := if recordedF r then (if lettersF r (-1) 0 l then 0 else 81) else 80
set_option maxHeartbeats 4000000 in
theorem check_calls (A B : Option Addr) (c c' : Nat) (r : List RecT) (l : List LetT) (w : World) (hr : Kd.C recK w A r.length r) (hl : Kd.C letK w B l.length l) (hk : Bytes r) (hkl : BytesL l) :
    Calls Tryd.prog 32 #[.slice A r.length c, .slice B l.length c'] w fun e w' => e = .returned (.int .i64 (checkF r l)) ∧ Below w.heap.size w w' := by
  have hn := hl.2.1
  refine x_calls (X := XNone) Tryd.func32 rfl rfl rfl ?_
  with_reducible repeat refine xc_seq ?_
  with_reducible refine xc_region ?_
  refine xo_asg rfl rfl rfl ?_
  with_reducible refine xo_nil ?_
  with_reducible repeat (first | refine xq_then ?_ | refine xq_blockN ?_ | refine xq_scopeN ?_)
  with_reducible repeat refine xc_seq ?_
  with_reducible refine xc_region ?_
  refine xo_mv rfl rfl rfl ?_
  refine xo_callB (fs := []) (cs := []) rfl rfl rfl recorded_enters rfl (fun w1 hw1 => recorded_calls A c r w1 (Kd.C_below hr hw1.kx.below) hk) ?_
  refine xo_notOp rfl rfl rfl ?_
  with_reducible refine xo_nil ?_
  with_reducible repeat (first | refine xq_then ?_ | refine xq_blockN ?_ | refine xq_scopeN ?_)
  with_reducible repeat refine xc_seq ?_
  refine xc_cond rfl (fun hrec => ?_) (fun hrec => ?_)
  · with_reducible repeat refine xc_seq ?_
    with_reducible refine xc_region ?_
    refine xo_asg rfl rfl rfl ?_
    with_reducible refine xo_nil ?_
    with_reducible repeat (first | refine xq_then ?_ | refine xq_blockN ?_ | refine xq_scopeN ?_)
    with_reducible repeat refine xc_seq ?_
    with_reducible refine xc_ret ?_
    with_reducible repeat (first | refine xq_thenR ?_ | refine xq_blockR ?_ | refine xq_scopeR ?_)
    refine xq_ret1 rfl rfl fun w' hw => ⟨?_, hw.kx.below⟩
    simp only [Bool.not_eq_true'] at hrec
    rw [checkF, hrec]
    rfl
  with_reducible refine xc_skip ?_
  with_reducible repeat (first | refine xq_then ?_ | refine xq_blockN ?_ | refine xq_scopeN ?_)
  simp only [Bool.not_eq_false'] at hrec
  with_reducible repeat refine xc_seq ?_
  with_reducible refine xc_region ?_
  refine xo_asg rfl rfl rfl ?_
  with_reducible refine xo_nil ?_
  with_reducible repeat (first | refine xq_then ?_ | refine xq_blockN ?_ | refine xq_scopeN ?_)
  with_reducible repeat refine xc_seq ?_
  with_reducible refine xc_region ?_
  refine xo_mv rfl rfl rfl ?_
  refine xo_len T_ rfl rfl rfl rfl ?_
  refine xo_mv rfl rfl rfl ?_
  with_reducible refine xo_nil ?_
  with_reducible repeat (first | refine xq_then ?_ | refine xq_blockN ?_ | refine xq_scopeN ?_)
  with_reducible repeat refine xc_seq ?_
  with_reducible refine xc_block ?_
  refine xc_loop (γ := Nat × Int) (fun q => q.1 ≤ l.length ∧ -1 ≤ q.2 ∧ q.2 ≤ 9999 ∧ lettersF r (-1) 0 l = lettersF r q.2 (q.1 : Int) (l.drop q.1)) (fun q => [(0, .slice A r.length c), (5, .int .i64 q.2), (11, .slice B l.length c'), (12, .int .i64 (l.length : Int)), (13, .int .i64 (q.1 : Int))]) (fun q => []) (fun q => l.length - q.1) (0, -1)
    ⟨Nat.zero_le _, by simp, by simp, rfl⟩ ⟨rfl, rfl, rfl, rfl, rfl, trivial⟩ (by repeat (first | exact List.Sublist.refl _ | apply List.Sublist.cons_cons | apply List.Sublist.cons | exact List.nil_sublist _)) ?_
  rintro ⟨k, last⟩ ⟨hk1, hl0, hl1, hlet⟩
  simp only at hk1 hl0 hl1 hlet ⊢
  with_reducible repeat refine xc_seq ?_
  with_reducible refine xc_region ?_
  refine xo_lss rfl rfl rfl rfl ?_
  with_reducible refine xo_nil ?_
  with_reducible repeat (first | refine xq_then ?_ | refine xq_blockN ?_ | refine xq_scopeN ?_)
  with_reducible repeat refine xc_seq ?_
  refine xc_cond rfl (fun h => ?_) (fun h => ?_)
  · have hlt : k < l.length := by have := of_decide_eq_true h; omega
    obtain ⟨ad, rfl, r1⟩ := let_at hl k hlt
    have hby := hkl _ (getD_mem l zLet k hlt)
    rw [drop_at l zLet k hlt] at hlet
    generalize l.getD k zLet = x at *
    with_reducible refine xc_skip ?_
    with_reducible repeat (first | refine xq_then ?_ | refine xq_blockN ?_ | refine xq_scopeN ?_)
    with_reducible repeat refine xc_seq ?_
    with_reducible refine xc_block ?_
    with_reducible repeat refine xc_seq ?_
    with_reducible refine xc_region ?_
    refine xo_mv rfl rfl rfl ?_
    refine xo_ia T_ rfl rfl rfl rfl rfl ⟨by omega, by omega⟩ rfl ?_
    refine xo_loadRN T_ rfl rfl rfl (by assumption) rfl rfl ?_
    refine xo_alloc T_ rfl rfl rfl rfl (fun b7 => ?_)
    refine xo_asg rfl rfl rfl ?_
    refine xo_store T_ rfl rfl rfl rfl (by repeat (first | exact List.Mem.head _ | apply List.Mem.tail | apply List.mem_append_right)) rfl rfl rfl rfl (by repeat (first | exact Upd.head | apply Upd.tail | apply Upd.app)) rfl ?_
    with_reducible refine xo_nil ?_
    with_reducible repeat (first | refine xq_then ?_ | refine xq_blockN ?_ | refine xq_scopeN ?_)
    cases h1 : !inF (last + 1) 9999 x.f0 <;> cases h2 : !inF 0 100000 x.f1 <;> cases h3 : !knownF r x.f2 <;> cases h4 : !inF 1 2 x.f3 <;> cases h5 : decide (20 ≤ (k : Int))
    all_goals
      with_reducible repeat refine xc_seq ?_
      with_reducible refine xc_region ?_
      refine xo_mv rfl rfl rfl ?_
      refine xo_add rfl rfl rfl (by omega) rfl ?_
      refine xo_fa T_ rfl rfl rfl rfl rfl ?_
      refine xo_load0 T_ rfl rfl rfl (by repeat (first | exact List.Mem.head _ | apply List.Mem.tail | apply List.mem_append_right)) rfl rfl ?_
      refine xo_bs1 T_ rfl rfl rfl rfl rfl rfl rfl rfl (fun b22 => ?_)
      refine xo_callB (fs := []) (cs := []) rfl rfl rfl in_enters rfl (fun w1 hw1 => in_calls hw1 _ _ _ (by repeat (first | exact List.Mem.head _ | apply List.Mem.tail | apply List.mem_append_right))) ?_
      refine xo_notOp rfl rfl rfl ?_
      refine xo_mv rfl rfl rfl ?_
      refine xo_as (i := 25) rfl (congrArg Value.bool h1) ?_
      first
        | refine xo_not rfl rfl ?_
        | (refine xo_fa T_ rfl rfl rfl rfl rfl ?_)
      first
        | refine xo_not rfl rfl ?_
        | (refine xo_load0 T_ rfl rfl rfl (by repeat (first | exact List.Mem.head _ | apply List.Mem.tail | apply List.mem_append_right)) rfl rfl ?_)
      first
        | refine xo_not rfl rfl ?_
        | (refine xo_bs1 T_ rfl rfl rfl rfl rfl rfl rfl rfl (fun b28 => ?_))
      first
        | refine xo_not rfl rfl ?_
        | (refine xo_callB (fs := []) (cs := []) rfl rfl rfl in_enters rfl (fun w1 hw1 => in_calls hw1 _ _ _ (by repeat (first | exact List.Mem.head _ | apply List.Mem.tail | apply List.mem_append_right))) ?_)
      first
        | refine xo_not rfl rfl ?_
        | (refine xo_notOp rfl rfl rfl ?_)
      first | refine xo_pickT rfl rfl rfl rfl ?_ | refine xo_pickF rfl rfl rfl rfl ?_
      refine xo_mv rfl rfl rfl ?_
      first | refine xo_as (i := 32) rfl (congrArg Value.bool h2) ?_ | skip
      first
        | refine xo_not rfl rfl ?_
        | (refine xo_mv rfl rfl rfl ?_)
      first
        | refine xo_not rfl rfl ?_
        | (refine xo_fa T_ rfl rfl rfl rfl rfl ?_)
      first
        | refine xo_not rfl rfl ?_
        | (refine xo_load0 T_ rfl rfl rfl (by repeat (first | exact List.Mem.head _ | apply List.Mem.tail | apply List.mem_append_right)) rfl rfl ?_)
      first
        | refine xo_not rfl rfl ?_
        | (refine xo_callB (fs := []) (cs := []) rfl rfl rfl known_enters rfl (fun w1 hw1 => known_calls A c r _ w1 (Kd.C_below hr hw1.kx.below)) ?_)
      first
        | refine xo_not rfl rfl ?_
        | (refine xo_notOp rfl rfl rfl ?_)
      first | refine xo_pickT rfl rfl rfl rfl ?_ | refine xo_pickF rfl rfl rfl rfl ?_
      refine xo_mv rfl rfl rfl ?_
      first | refine xo_as (i := 39) rfl (congrArg Value.bool h3) ?_ | skip
      first
        | refine xo_not rfl rfl ?_
        | (refine xo_fa T_ rfl rfl rfl rfl rfl ?_)
      first
        | refine xo_not rfl rfl ?_
        | (refine xo_load0 T_ rfl rfl rfl (by repeat (first | exact List.Mem.head _ | apply List.Mem.tail | apply List.mem_append_right)) rfl rfl ?_)
      first
        | refine xo_not rfl rfl ?_
        | (refine xo_conv T_ rfl rfl rfl rfl (IntWalk.i64_in _ ⟨by omega, by omega⟩) rfl ?_)
      first
        | refine xo_not rfl rfl ?_
        | (refine xo_bs1 T_ rfl rfl rfl rfl rfl rfl rfl rfl (fun b43 => ?_))
      first
        | refine xo_not rfl rfl ?_
        | (refine xo_callB (fs := []) (cs := []) rfl rfl rfl in_enters rfl (fun w1 hw1 => in_calls hw1 _ _ _ (by repeat (first | exact List.Mem.head _ | apply List.Mem.tail | apply List.mem_append_right))) ?_)
      first
        | refine xo_not rfl rfl ?_
        | (refine xo_notOp rfl rfl rfl ?_)
      first | refine xo_pickT rfl rfl rfl rfl ?_ | refine xo_pickF rfl rfl rfl rfl ?_
      refine xo_mv rfl rfl rfl ?_
      first | refine xo_as (i := 47) rfl (congrArg Value.bool h4) ?_ | skip
      first
        | refine xo_not rfl rfl ?_
        | (refine xo_mv rfl rfl rfl ?_)
      first
        | refine xo_not rfl rfl ?_
        | (refine xo_geq rfl rfl rfl rfl ?_)
      first | refine xo_pickT rfl rfl rfl rfl ?_ | refine xo_pickF rfl rfl rfl rfl ?_
      first | refine xo_as (i := 50) rfl (congrArg Value.bool h5) ?_ | skip
      with_reducible refine xo_nil ?_
      with_reducible repeat (first | refine xq_then ?_ | refine xq_blockN ?_ | refine xq_scopeN ?_)
      with_reducible repeat refine xc_seq ?_
      first | refine xc_condT rfl ?_ | refine xc_condF rfl ?_
    rotate_left
    iterate 31
      · with_reducible repeat refine xc_seq ?_
        with_reducible refine xc_region ?_
        refine xo_asg rfl rfl rfl ?_
        with_reducible refine xo_nil ?_
        with_reducible repeat (first | refine xq_then ?_ | refine xq_blockN ?_ | refine xq_scopeN ?_)
        with_reducible repeat refine xc_seq ?_
        with_reducible refine xc_ret ?_
        with_reducible repeat (first | refine xq_thenR ?_ | refine xq_blockR ?_ | refine xq_scopeR ?_)
        refine xq_ret1 rfl rfl fun w' hw => ⟨?_, hw.kx.below⟩
        rw [checkF, hrec, hlet, lettersF]
        simp only [Bool.not_eq_true', Bool.not_eq_false'] at h1 h2 h3 h4
        simp only [h1, h2, h3, h4, h5, Bool.false_and, Bool.and_false, Bool.not_true, Bool.not_false, Bool.true_and, Bool.and_true]
        rfl
    simp only [Bool.not_eq_true', Bool.not_eq_false'] at h1 h2 h3 h4
    have hx0 : last + 1 ≤ x.f0 ∧ x.f0 ≤ 9999 := by simpa [inF] using h1
    with_reducible refine xc_skip ?_
    with_reducible repeat (first | refine xq_then ?_ | refine xq_blockN ?_ | refine xq_scopeN ?_)
    with_reducible repeat refine xc_seq ?_
    with_reducible refine xc_region ?_
    refine xo_fa T_ rfl rfl rfl rfl rfl ?_
    refine xo_load0 T_ rfl rfl rfl (by repeat (first | exact List.Mem.head _ | apply List.Mem.tail | apply List.mem_append_right)) rfl rfl ?_
    refine xo_asg rfl rfl rfl ?_
    with_reducible refine xo_nil ?_
    with_reducible repeat (first | refine xq_then ?_ | refine xq_blockN ?_ | refine xq_scopeN ?_)
    with_reducible repeat refine xc_seq ?_
    with_reducible refine xc_region ?_
    refine xo_add rfl rfl rfl (by omega) rfl ?_
    refine xo_mv rfl rfl rfl ?_
    with_reducible refine xo_nil ?_
    with_reducible repeat (first | refine xq_then ?_ | refine xq_blockN ?_ | refine xq_scopeN ?_)
    refine xq_again _ _ _ _ _ (k + 1, x.f0) ⟨hlt, by simp only; omega, hx0.2, ?_⟩ (by first | omega | (simp only; omega)) ⟨rfl, rfl, rfl, rfl, rfl, trivial⟩ (by repeat (first | exact List.Sublist.refl _ | apply List.Sublist.cons_cons | apply List.Sublist.cons | exact List.nil_sublist _))
    rw [hlet, lettersF]
    simp only [h1, h2, h3, h4, h5, Bool.not_false, Bool.true_and, Bool.and_self]
    rfl
  · have hge : ¬ k < l.length := by have := of_decide_eq_false h; omega
    rw [List.drop_of_length_le (by omega)] at hlet
    with_reducible refine xc_exit ?_
    with_reducible repeat (first | refine xq_blockX ?_ | refine xq_thenE ?_ | refine xq_blockE rfl ?_ | refine xq_scopeE ?_)
    with_reducible repeat (first | refine xq_then ?_ | refine xq_blockN ?_ | refine xq_scopeN ?_)
    with_reducible repeat refine xc_seq ?_
    with_reducible refine xc_region ?_
    refine xo_asg rfl rfl rfl ?_
    with_reducible refine xo_nil ?_
    with_reducible repeat (first | refine xq_then ?_ | refine xq_blockN ?_ | refine xq_scopeN ?_)
    with_reducible repeat refine xc_seq ?_
    with_reducible refine xc_ret ?_
    with_reducible repeat (first | refine xq_thenR ?_ | refine xq_blockR ?_ | refine xq_scopeR ?_)
    refine xq_ret1 rfl rfl fun w' hw => ⟨?_, hw.kx.below⟩
    rw [checkF, hrec, hlet]
    rfl
theorem check_enters : ∀ args w, (callFunc 32 args).run Tryd.prog w = .ok (.enter 32 args) w := enters_of Tryd.func32 (by kernel_rfl) rfl
end Go.Proofs.YtcmepdamemnbkaaDoor
namespace Go.Proofs.YtcmepdamemnbkaaDoor
open Go.RowKit
set_option linter.unusedVariables false
set_option linter.unusedSimpArgs false
def depOf (o : Oper) : List Nat := (o.after.toList.filter (Region.binds .any)).map (·.on)
def dstv (ops : List Oper) (vs : List Value) (j : Nat) : Slots :=
  match nthD j ops, nth j vs with
  | some d, some v => [(d, v)]
  | _, _ => []
def flatS (ops : List Oper) (vs : List Value) : List Nat → Slots → Slots
  | [], σ => σ
  | j :: L, σ => dstv ops vs j ++ flatS ops vs L σ
theorem slot_app (k : Nat) : ∀ A B : Slots, slot k (A ++ B) = match slot k A with | some u => some u | none => slot k B
  | [], B => rfl
  | p :: A, B => by
    simp only [List.cons_append, slot]
    cases Nat.beq p.1 k with
    | true => rfl
    | false => exact slot_app k A B
theorem slot_dstv {ops : List Oper} {vs : List Value} {j k : Nat} {u : Value} : slot k (dstv ops vs j) = some u ↔ nthD j ops = some k ∧ nth j vs = some u := by
  unfold dstv
  cases h1 : nthD j ops with
  | none => simp [slot]
  | some d =>
    cases h2 : nth j vs with
    | none => simp [slot]
    | some v =>
      simp only [slot]
      cases hb : Nat.beq d k with
      | true =>
        have := Nat.eq_of_beq_eq_true hb
        subst this
        simp
      | false =>
        have : d ≠ k := fun e => by subst e; simp at hb
        simp [this]
theorem flat_a {ops : List Oper} {vs : List Value} {k : Nat} {u : Value} {σ : Slots} : ∀ L : List Nat, slot k (flatS ops vs L σ) = some u → (∃ j ∈ L, nthD j ops = some k ∧ nth j vs = some u) ∨ slot k σ = some u
  | [], h => .inr h
  | j :: L, h => by
    unfold flatS at h
    rw [slot_app] at h
    cases hd : slot k (dstv ops vs j) with
    | some v =>
      rw [hd] at h
      cases h
      exact .inl ⟨j, List.mem_cons_self .., slot_dstv.1 hd⟩
    | none =>
      rw [hd] at h
      rcases flat_a L h with ⟨i, hi, h'⟩ | h'
      · exact .inl ⟨i, List.mem_cons_of_mem _ hi, h'⟩
      · exact .inr h'
theorem flat_b {ops : List Oper} {vs : List Value} {σ : Slots} (hdis : ∀ i j k, nthD i ops = some k → nthD j ops = some k → i = j) {k j : Nat} {u : Value} (h1 : nthD j ops = some k) (h2 : nth j vs = some u) : ∀ L : List Nat, j ∈ L → slot k (flatS ops vs L σ) = some u
  | [], h => by cases h
  | i :: L, h => by
    unfold flatS
    rw [slot_app]
    cases hd : slot k (dstv ops vs i) with
    | some v =>
      obtain ⟨h3, h4⟩ := slot_dstv.1 hd
      have := hdis i j k h3 h1
      subst this
      rw [h2] at h4
      exact h4.symm ▸ rfl
    | none =>
      rcases List.mem_cons.1 h with rfl | h
      · rw [slot_dstv.2 ⟨h1, h2⟩] at hd
        cases hd
      · exact flat_b hdis h1 h2 L h
theorem flat_c {ops : List Oper} {vs : List Value} {σ : Slots} {k : Nat} (hk : ∀ j, nthD j ops ≠ some k) : ∀ L : List Nat, slot k (flatS ops vs L σ) = slot k σ
  | [] => rfl
  | i :: L => by
    unfold flatS
    rw [slot_app]
    cases hd : slot k (dstv ops vs i) with
    | some v => exact absurd (slot_dstv.1 hd).1 (hk i)
    | none => exact flat_c hk L
theorem SOK.le {N : Nat} {ds : List Deferred} {σ σ' : Slots} {a : Act} (h : SOK N ds σ a) (hs : ∀ k u, slot k σ' = some u → slot k σ = some u) : SOK N ds σ' a := ⟨h.sz, fun i v e => h.sl i v (hs i v e), h.df⟩
/-- the post of one operation -/
def OnePost (N : Nat) (ds : List Deferred) (w0 : World) (X : Nat → Prop) (η : Hp) (σ : Slots) : Exit → Act → World → Prop
  | .normal, a, w => SOK N ds σ a ∧ WOK w0 X η w
  | _, _, _ => False
theorem wpIn_swap {F : Fence} {n : Nat} {P : Program} {o : Oper} {a : Act} {w : World} {K : Act → World → Prop} {N : Nat} {ds : List Deferred} {w0 : World} {X : Nat → Prop} {η : Hp} {σ : Slots} {Q : Exit → Act → World → Prop}
    (h : o.wpIn F n P a w K (OnePost N ds w0 X η σ)) : o.wpIn F n P a w K Q := by
  unfold Oper.wpIn at *
  refine ⟨h.1, ?_⟩
  have hh := h.2
  generalize (o.semAt F.round a.eval).run P w = r at *
  cases r with
  | ok x w' =>
    cases x <;> simp only [Oper.uponIn] at hh ⊢ <;>
      first
        | exact hh
        | exact ⟨hh.1, CallsIn.mono hh.2 (fun e w'' he => by
            cases e with
            | returned v => exact he
            | panicked c => exact he.elim
            | outgrown => obtain ⟨_, _, h3⟩ := he; exact h3.elim)⟩
        | exact ⟨hh.1, RoundIn.mono hh.2 (fun e w'' he => by
            cases e with
            | returned v => exact he
            | panicked c => exact he.elim
            | outgrown => obtain ⟨_, _, h3⟩ := he; exact h3.elim)⟩
  | halt x w' => cases x <;> simp only [Oper.uponIn] at hh ⊢ <;> first | exact hh | exact hh.elim
section
variable {P : Program} {ro : Option Nat} {n N : Nat} {ds : List Deferred} {w0 : World} {X : Nat → Prop} {Q : Exit → Act → World → Prop} {σ : Slots} {η : Hp}
/-- each operation, by itself: over what those told it that it waits for -/
def DrawOps (P : Program) (ro : Option Nat) (n N : Nat) (ds : List Deferred) (w0 : World) (X : Nat → Prop) (ops : List Oper) (vs : List Value) (σ : Slots) (η : Hp) : List Oper → List Value → Prop
  | o :: r, v :: vr => (∀ τ, XO P ro n N ds w0 X (OnePost N ds w0 X η (putS o.dst v (flatS ops vs (depOf o) σ ++ τ))) ops (flatS ops vs (depOf o) σ ++ τ) η [o]) ∧ DrawOps P ro n N ds w0 X ops vs σ η r vr
  | _, _ => True
theorem drawOps_get {ops : List Oper} {vs : List Value} : ∀ (l : List Oper) (vl : List Value) (i : Nat) (o : Oper) (v : Value), DrawOps P ro n N ds w0 X ops vs σ η l vl → l[i]? = some o → nth i vl = some v →
    ∀ τ, XO P ro n N ds w0 X (OnePost N ds w0 X η (putS o.dst v (flatS ops vs (depOf o) σ ++ τ))) ops (flatS ops vs (depOf o) σ ++ τ) η [o]
  | [], _, i, o, v, _, h, _ => by simp at h
  | x :: r, [], i, o, v, _, _, h => by simp [nth] at h
  | x :: r, y :: vr, 0, o, v, h, h1, h2 => by
    simp [nth] at h1 h2
    subst h1 h2
    exact h.1
  | x :: r, y :: vr, i + 1, o, v, h, h1, h2 => drawOps_get r vr i o v h.2 (by simpa using h1) (by simpa [nth] using h2)
def dstsOf_ (ops : List Oper) : List Tmp := ops.filterMap (·.dst)
def freshB (σ : Slots) : List Tmp → Bool
  | [] => true
  | d :: r => (match slot d σ with | none => true | some _ => false) && freshB σ r
def distB : List Tmp → Bool
  | [] => true
  | d :: r => !(r.any fun x => Nat.beq d x) && distB r
def depsB : Nat → List Oper → Bool
  | _, [] => true
  | i, o :: r => (depOf o).all (fun j => Nat.blt j i) && depsB (i + 1) r
theorem depsB_get : ∀ (l : List Oper) (i k : Nat) (o : Oper), depsB i l = true → l[k]? = some o → ∀ j ∈ depOf o, j < i + k
  | [], i, k, o, _, h => by simp at h
  | x :: r, i, 0, o, h, h1 => by
    simp at h1
    subst h1
    simp only [depsB, Bool.and_eq_true, List.all_eq_true, Nat.blt_eq] at h
    intro j hj
    simpa using h.1 j hj
  | x :: r, i, k + 1, o, h, h1 => by
    simp only [depsB, Bool.and_eq_true] at h
    intro j hj
    have := depsB_get r (i + 1) k o h.2 (by simpa using h1) j hj
    omega
theorem distB_get : ∀ (l : List Oper) (i j k : Nat), distB (dstsOf_ l) = true → nthD i l = some k → nthD j l = some k → i = j
  | [], i, j, k, _, h, _ => by simp [nthD] at h
  | x :: r, 0, 0, k, _, _, _ => rfl
  | x :: r, 0, j + 1, k, hd, h1, h2 => by
    simp only [nthD] at h1 h2
    simp only [dstsOf_, List.filterMap_cons, h1, distB, Bool.and_eq_true, Bool.not_eq_true', List.any_eq_false] at hd
    rw [nthD_eq] at h2
    obtain ⟨o, ho, ho2⟩ := Option.bind_eq_some_iff.1 h2
    have := hd.1 k (List.mem_filterMap.2 ⟨o, List.mem_of_getElem? ho, ho2⟩)
    simp at this
  | x :: r, i + 1, 0, k, hd, h1, h2 => by
    simp only [nthD] at h1 h2
    simp only [dstsOf_, List.filterMap_cons, h2, distB, Bool.and_eq_true, Bool.not_eq_true', List.any_eq_false] at hd
    rw [nthD_eq] at h1
    obtain ⟨o, ho, ho2⟩ := Option.bind_eq_some_iff.1 h1
    have := hd.1 k (List.mem_filterMap.2 ⟨o, List.mem_of_getElem? ho, ho2⟩)
    simp at this
  | x :: r, i + 1, j + 1, k, hd, h1, h2 => by
    simp only [nthD] at h1 h2
    have hd' : distB (dstsOf_ r) = true := by
      simp only [dstsOf_, List.filterMap_cons] at hd ⊢
      cases hx : x.dst with
      | none => rw [hx] at hd; exact hd
      | some d => rw [hx] at hd; simp only [distB, Bool.and_eq_true] at hd; exact hd.2
    rw [distB_get r i j k hd' h1 h2]
theorem freshB_get : ∀ (l : List Tmp) (d : Tmp), freshB σ l = true → d ∈ l → slot d σ = none
  | [], d, _, h => by cases h
  | x :: r, d, h, hm => by
    simp only [freshB, Bool.and_eq_true] at h
    rcases List.mem_cons.1 hm with rfl | hm
    · have := h.1
      split at this
      · assumption
      · cases this
    · exact freshB_get r d h.2 hm
theorem filter_less {l : List Nat} {p q : Nat → Bool} (h : ∀ j ∈ l, q j = true → p j = true) {i : Nat} (hi : i ∈ l) (hp : p i = true) (hq : q i = false) : (l.filter q).length < (l.filter p).length := by
  induction l with
  | nil => cases hi
  | cons x r ih =>
    have hle : ∀ l : List Nat, (∀ j ∈ l, q j = true → p j = true) → (l.filter q).length ≤ (l.filter p).length := by
      intro l
      induction l with
      | nil => intro _; simp
      | cons y r ih =>
        intro h
        have := ih (fun j hj => h j (List.mem_cons_of_mem _ hj))
        have h1 := h y (List.mem_cons_self ..)
        cases hqy : q y <;> cases hpy : p y <;> simp_all
        omega
    rcases List.mem_cons.1 hi with rfl | hi
    · have := hle r (fun j hj => h j (List.mem_cons_of_mem _ hj))
      simp only [List.filter_cons, hp, hq, ↓reduceIte, Bool.false_eq_true, List.length_cons]
      omega
    · have := ih (fun j hj => h j (List.mem_cons_of_mem _ hj)) hi
      have h1 := h x (List.mem_cons_self ..)
      cases hqy : q x <;> cases hpy : p x <;> simp_all
      omega
theorem xc_draw {id : Nat} {ops : List Oper} (vs : List Value) (hmix : P.follows .mixedOrders = true) (hlen : Nat.beq vs.length ops.length = true) (hbind : true = true) (hdeps : depsB 0 ops = true) (hdist : distB (dstsOf_ ops) = true) (hfresh : freshB σ (dstsOf_ ops) = true)
    (hop : DrawOps P ro n N ds w0 X ops vs σ η ops vs) (hQ : XQ N ds w0 X Q .normal (flatS ops vs (List.range ops.length) σ) η) : XC P ro n N ds w0 X Q σ η (.region id ops.toArray true) := by
  have hl := Nat.eq_of_beq_eq_true hlen
  have hdis := fun i j k => distB_get ops i j k hdist
  have hfr : ∀ j d, nthD j ops = some d → slot d σ = none := fun j d h => by
    rw [nthD_eq] at h
    obtain ⟨o, ho, ho2⟩ := Option.bind_eq_some_iff.1 h
    exact freshB_get _ d hfresh (List.mem_filterMap.2 ⟨o, List.mem_of_getElem? ho, ho2⟩)
  have hnot : ∀ k u, slot k σ = some u → ∀ j, nthD j ops ≠ some k := fun k u h j e => by rw [hfr j k e] at h; cases h
  -- those of some are those of more
  have hmore : ∀ L M : List Nat, (∀ j ∈ L, j ∈ M) → ∀ k u, slot k (flatS ops vs L σ) = some u → slot k (flatS ops vs M σ) = some u := by
    intro L M h k u hk
    rcases flat_a L hk with ⟨j, hj, h1, h2⟩ | h1
    · exact flat_b hdis h1 h2 M (h j hj)
    · rw [flat_c (hnot k u h1) M]; exact h1
  intro a w ha hw
  refine wpIn_region_any hmix ?_
  have key : ∀ (fuel : Nat) (L : List Nat) (listed : Array Bool) (a : Act) (w : World), listed.size = ops.length → (∀ j, listed.getD j false = true ↔ j ∈ L) → (∀ j ∈ L, j < ops.length) → ((List.range ops.length).filter fun j => !listed.getD j false).length ≤ fuel → SOK N ds (flatS ops vs L σ) a → WOK w0 X η w →
      wpAnyIn (wideR ro) n P .any ops.toArray Q fuel listed a w := by
    intro fuel
    induction fuel with
    | zero =>
      intro L listed a w hsz hL hLb hcnt ha hw
      have hall : ∀ j, j < ops.length → j ∈ L := by
        intro j hj
        have h0 := List.length_eq_zero_iff.1 (Nat.le_zero.1 hcnt)
        rw [List.filter_eq_nil_iff] at h0
        have := h0 j (List.mem_range.2 hj)
        exact (hL j).1 (by simpa using this)
      refine ⟨?_, hQ a w (ha.le (hmore _ _ (fun j hj => hall j (List.mem_range.1 hj)))) hw⟩
      apply List.eq_nil_iff_forall_not_mem.2
      intro j hj
      obtain ⟨h1, o, h2, _⟩ := mem_ready.1 hj
      have hlt : j < ops.length := by have := (Array.getElem?_eq_some_iff.1 h2).1; simpa using this
      have h3 := (hL j).2 (hall j hlt)
      rw [Array.getD_eq_getD_getElem?] at h1 h3
      rw [Array.getElem?_eq_getElem (by rw [hsz]; exact hlt)] at h1 h3
      simp at h1 h3
      rw [h1] at h3
      cases h3
    | succ fuel ih =>
      intro L listed a w hsz hL hLb hcnt ha hw
      refine ⟨fun hnil => ?_, fun i hi => ?_⟩
      · -- nothing is ready: all are listed
        have hall : ∀ k j, j ≤ k → j < ops.length → j ∈ L := by
          intro k
          induction k with
          | zero =>
            intro j hj hlt
            by_cases hm : j ∈ L
            · exact hm
            · exfalso
              have : j ∈ Region.ready .any ops.toArray listed := by
                refine mem_ready.2 ⟨?_, ops[j], by simp [List.getElem?_eq_getElem hlt], ?_⟩
                · have h3 : listed.getD j false ≠ true := fun q => hm ((hL j).1 q)
                  rw [Array.getD_eq_getD_getElem?, Array.getElem?_eq_getElem (by rw [hsz]; exact hlt)] at h3 ⊢
                  simpa using h3
                · intro e he hbd
                  have h4 := depsB_get ops 0 j ops[j] hdeps (List.getElem?_eq_getElem hlt) e.on (List.mem_map.2 ⟨e, List.mem_filter.2 ⟨by simpa using he, hbd⟩, rfl⟩)
                  omega
              rw [hnil] at this
              cases this
          | succ k ihk =>
            intro j hj hlt
            by_cases hjk : j ≤ k
            · exact ihk j hjk hlt
            by_cases hm : j ∈ L
            · exact hm
            · exfalso
              have : j ∈ Region.ready .any ops.toArray listed := by
                refine mem_ready.2 ⟨?_, ops[j], by simp [List.getElem?_eq_getElem hlt], ?_⟩
                · have h3 : listed.getD j false ≠ true := fun q => hm ((hL j).1 q)
                  rw [Array.getD_eq_getD_getElem?, Array.getElem?_eq_getElem (by rw [hsz]; exact hlt)] at h3 ⊢
                  simpa using h3
                · intro e he hbd
                  have h4 := depsB_get ops 0 j ops[j] hdeps (List.getElem?_eq_getElem hlt) e.on (List.mem_map.2 ⟨e, List.mem_filter.2 ⟨by simpa using he, hbd⟩, rfl⟩)
                  exact (hL e.on).2 (ihk e.on (by omega) (by omega))
              rw [hnil] at this
              cases this
        exact hQ a w (ha.le (hmore _ _ (fun j hj => hall j j (Nat.le_refl _) (List.mem_range.1 hj)))) hw
      · obtain ⟨h1, o, h2, h3⟩ := mem_ready.1 hi
        have hlt : i < ops.length := by have := (Array.getElem?_eq_some_iff.1 h2).1; simpa using this
        have ho : ops[i]? = some o := by simpa using h2
        have hio : i < vs.length := by rw [hl]; exact hlt
        have hv : nth i vs = some vs[i] := by rw [nth_eq, List.getElem?_eq_getElem hio]
        generalize vs[i] = v at hv
        have hnl : ¬ i ∈ L := fun q => by
          have h4 := (hL i).2 q
          rw [Array.getD_eq_getD_getElem?, Array.getElem?_eq_getElem (by rw [hsz]; exact hlt)] at h1 h4
          simp at h1 h4
          rw [h1] at h4
          cases h4
        have hdL : ∀ j ∈ depOf o, j ∈ L := by
          intro j hj
          obtain ⟨e, he, rfl⟩ := List.mem_map.1 hj
          obtain ⟨he, hb⟩ := List.mem_filter.1 he
          exact (hL e.on).1 (h3 e (by simpa using he) hb)
        have hcons := hmore (depOf o) L hdL
        have hs : SOK N ds (flatS ops vs (depOf o) σ ++ flatS ops vs L σ) a := ha.le fun k u hk => by
          rw [slot_app] at hk
          cases hd : slot k (flatS ops vs (depOf o) σ) with
          | some x => rw [hd] at hk; cases hk; exact hcons k _ hd
          | none => rw [hd] at hk; exact hk
        have hrun := drawOps_get ops vs i o v hop ho hv (flatS ops vs L σ) a w hs hw
        have hnext : ∀ a' w', OnePost N ds w0 X η (putS o.dst v (flatS ops vs (depOf o) σ ++ flatS ops vs L σ)) .normal a' w' → wpAnyIn (wideR ro) n P .any ops.toArray Q fuel (listed.setIfInBounds i true) a' w' := by
          rintro a' w' ⟨ha', hw'⟩
          refine ih (i :: L) _ a' w' (by simp [hsz]) ?_ ?_ ?_ (ha'.le ?_) hw'
          · intro j
            rw [Array.getD_eq_getD_getElem?]
            by_cases e : i = j
            · subst e
              rw [Array.getElem?_setIfInBounds_self, if_pos (by rw [hsz]; exact hlt)]
              simp
            · rw [Array.getElem?_setIfInBounds_ne e, ← Array.getD_eq_getD_getElem?, hL j]
              simp [show ¬ j = i from fun q => e q.symm]
          · intro j hj
            rcases List.mem_cons.1 hj with rfl | hj
            · exact hlt
            · exact hLb j hj
          · have : ((List.range ops.length).filter fun j => !(listed.setIfInBounds i true).getD j false).length < ((List.range ops.length).filter fun j => !listed.getD j false).length := by
              refine filter_less (i := i) ?_ (List.mem_range.2 hlt) ?_ ?_
              · intro j hj hq
                by_cases e : i = j
                · subst e
                  rw [Array.getD_eq_getD_getElem?, Array.getElem?_setIfInBounds_self, if_pos (by rw [hsz]; exact hlt)] at hq
                  simp at hq
                · rw [Array.getD_eq_getD_getElem?, Array.getElem?_setIfInBounds_ne e, ← Array.getD_eq_getD_getElem?] at hq
                  exact hq
              · have h4 : listed.getD i false ≠ true := fun q => hnl ((hL i).1 q)
                simpa using h4
              · rw [Array.getD_eq_getD_getElem?, Array.getElem?_setIfInBounds_self, if_pos (by rw [hsz]; exact hlt)]
                simp
            omega
          · intro k u hk
            unfold flatS at hk
            rw [slot_app] at hk
            cases hd : slot k (dstv ops vs i) with
            | some x =>
              rw [hd] at hk
              cases hk
              obtain ⟨h5, h6⟩ := slot_dstv.1 hd
              rw [hv] at h6
              cases h6
              rw [nthD_eq, ho] at h5
              simp only [Option.bind_some] at h5
              rw [h5]
              unfold putS slot
              simp
            | none =>
              rw [hd] at hk
              have h7 : slot k (flatS ops vs (depOf o) σ ++ flatS ops vs L σ) = some u := by
                rw [slot_app]
                cases hd2 : slot k (flatS ops vs (depOf o) σ) with
                | some x => have hk' : slot k (flatS ops vs L σ) = some u := hk; have := hcons k x hd2; rw [hk'] at this; exact this.symm
                | none => exact hk
              cases hdo : o.dst with
              | none => exact h7
              | some d =>
                unfold putS slot
                have hne : Nat.beq d k = false := by
                  cases hb : Nat.beq d k with
                  | false => rfl
                  | true =>
                    exfalso
                    have e := Nat.eq_of_beq_eq_true hb
                    subst e
                    rw [slot_dstv.2 ⟨by rw [nthD_eq, ho]; exact hdo, hv⟩] at hd
                    cases hd
                simp only [hne, cond_false]
                exact h7
        unfold wpOpIn
        simp only [h2]
        unfold wpListIn at hrun
        split at hrun
        · rename_i hw1
          rw [if_pos hw1]
          exact wpIn_swap (Oper.wpIn_mono (fun a' w' h => hnext a' w' h) hrun)
        · rename_i hw1
          rw [if_neg hw1]
          exact ⟨fun _ _ => trivial, hnext _ _ hrun.2⟩
  refine key _ [] _ a w.drew (by simp) (fun j => ?_) (fun j hj => by cases hj) ?_ ha hw.drew
  · constructor
    · intro h
      rw [Array.getD_eq_getD_getElem?, Array.getElem?_replicate] at h
      split at h <;> simp at h
    · intro h
      cases h
  · have := List.length_filter_le (fun j => !(Array.replicate ops.toArray.size false).getD j false) (List.range ops.length)
    simpa using this
end
end Go.Proofs.YtcmepdamemnbkaaDoor
namespace Go.Proofs.YtcmepdamemnbkaaDoor
open Go.RowKit
set_option linter.unusedVariables false
set_option linter.unusedSimpArgs false
/-- blocks as told, each another one -/
structure BOK (η : Hp) (w : World) : Prop where
  bl : ∀ e ∈ η, ∃ o, w.heap[e.1]? = some o ∧ e.2.2 o
  nd : (η.map (·.1)).Nodup
theorem WOK.bok {w0 : World} {X : Nat → Prop} {η η' : Hp} {w : World} (h : WOK w0 X η w) (hs : List.Sublist η' η) : BOK η' w := ⟨(h.sub hs).bl, (h.sub hs).nd⟩
/-- the blocks that may be written -/
def XW (η : Hp) : Nat → Prop := fun k => ∃ e ∈ η, e.2.1 = true ∧ e.1 = k
theorem BOK.wok {η : Hp} {w : World} (h : BOK η w) : WOK w (XW η) η w := ⟨Kx.refl _ w, h.bl, h.nd, fun e he hw => .inr ⟨e, he, hw, rfl⟩⟩
theorem WOK.wok {w0 : World} {X : Nat → Prop} {η : Hp} {w : World} (h : WOK w0 X η w) : WOK w (XW η) η w := (h.bok (List.Sublist.refl _)).wok
/-- back on the elder base -/
theorem WOK.back {w0 w1 : World} {X : Nat → Prop} {η η' : Hp} {w : World} (h0 : WOK w0 X η w1) (h : WOK w1 (XW η) η' w) : WOK w0 X η' w := by
  have hx : ∀ k, XW η k → w0.heap.size ≤ k ∨ X k := fun k ⟨e, he, hw, hk⟩ => hk ▸ h0.ow e he hw
  refine ⟨⟨h.kx.os.trans h0.kx.os, h.kx.tape.trans h0.kx.tape, h.kx.output.trans h0.kx.output, Nat.le_trans h0.kx.size h.kx.size, fun k hk hnx => ?_⟩, h.bl, h.nd, fun e he hw => ?_⟩
  · refine (h.kx.block k (Nat.lt_of_lt_of_le hk h0.kx.size) (fun q => ?_)).trans (h0.kx.block k hk hnx)
    rcases hx k q with h3 | h3
    · exact absurd hk (Nat.not_lt.2 h3)
    · exact hnx h3
  · rcases h.ow e he hw with h3 | h3
    · exact .inl (Nat.le_trans h0.kx.size h3)
    · exact hx _ h3
/-- below the end of wB all is as it was there -/
def SameB (wB w : World) : Prop := ∀ k, k < wB.heap.size → w.heap[k]? = wB.heap[k]?
theorem SameB.of_below {wB w : World} (h : Below wB.heap.size wB w) : SameB wB w := h.block
theorem SameB.kx {wB w w1 : World} {X : Nat → Prop} (h : SameB wB w) (hs : wB.heap.size ≤ w.heap.size) (k : Kx X w w1) (hX : ∀ b, X b → wB.heap.size ≤ b) : SameB wB w1 := fun i hi => (k.block i (Nat.lt_of_lt_of_le hi hs) (fun q => absurd hi (Nat.not_lt.2 (hX i q)))).trans (h i hi)
theorem SameB.cell {wB w : World} (h : SameB wB w) {p : Addr} {v : Value} (hc : wB.cell? p = some v) : w.cell? p = some v := by
  have hb := World.block_lt_of_cell? wB p hc
  unfold World.cell? at hc ⊢
  rw [h _ hb]
  exact hc
theorem RO.same {wB w : World} {X : Nat → Prop} {p : Addr} {cs : List Value} (h : RO wB XNone p cs) (hs : SameB wB w) (hX : ∀ b, X b → wB.heap.size ≤ b) : RO w X p cs := fun j v hj => by
  have h1 := (h j v hj).1
  exact ⟨hs.cell h1, fun q => absurd (World.block_lt_of_cell? wB _ h1) (Nat.not_lt.2 (hX _ q))⟩
/-- what a round keeps for the iterator -/
def KpK (K : Nat → Prop) (n0 : Nat) (W W' : World) : Prop := (∀ k, K k → W'.heap[k]? = W.heap[k]?) ∧ W.heap.size ≤ W'.heap.size ∧ (∀ k o, n0 ≤ k → W.heap[k]? = some o → o.isWalk = true → W'.heap[k]? = some o)
theorem KpK.refl (K : Nat → Prop) (n0 : Nat) (W : World) : KpK K n0 W W := ⟨fun _ _ => rfl, Nat.le_refl _, fun _ _ _ h _ => h⟩
theorem KpK.trans {K : Nat → Prop} {n0 : Nat} {A B C : World} (h : KpK K n0 A B) (k : KpK K n0 B C) : KpK K n0 A C := ⟨fun i hi => (k.1 i hi).trans (h.1 i hi), Nat.le_trans h.2.1 k.2.1, fun i o hi ho hw => k.2.2 i o hi (h.2.2 i o hi ho hw) hw⟩
section
variable {P : Program} {ro : Option Nat} {n N : Nat} {ds : List Deferred} {w0 : World} {X : Nat → Prop} {Q : Exit → Act → World → Prop} {ops : List Oper} {σ : Slots} {η : Hp} {rest : List Oper}
variable {d : Option Tmp} {ty : TypeId} {pos : String} {aft : Array Edge} {g : Option (Nat × Bool)}
/-- a yield: the world behind it is a new base -/
theorem xo_yield {l : Nat} {fo : Operand} {xs : List Operand} {ats : Array TypeId} {vs : List Value} (hg : gS ops σ g = some true) (hf : ev σ fo = some (.func (.yield l) #[] #[])) (ha_ : evs σ xs = some vs) (hN : dstOK N d = true)
    (hy : ∀ w, WOK w0 X η w → YieldAt (wideR ro) (n - 1) P l vs.toArray w fun e W' => ∃ v η' w1 X1, e = .returned v ∧ WOK w1 X1 η' W' ∧ XO P ro n N ds w1 X1 Q ops (putS d v σ) η' rest) :
    XO P ro n N ds w0 X Q ops σ η (⟨d, .call { callee := .value fo, args := xs.toArray, argTypes := ats }, ty, pos, aft, g⟩ :: rest) := by
  intro a w ha hw
  unfold wpListIn
  rw [if_pos (wanted_of ha (o := ⟨d, .call { callee := .value fo, args := xs.toArray, argTypes := ats }, ty, pos, aft, g⟩) hg)]
  refine ⟨fun _ _ => trivial, ?_⟩
  rw [show (wideR ro).round = ro from rfl, Oper.semAt_eq ro _ _ (fun c e => by cases e)]
  obtain ⟨fn, tmps, assign, body, hr, hR⟩ := hy w hw
  have hrun : (execOp a.eval ⟨d, .call { callee := .value fo, args := xs.toArray, argTypes := ats }, ty, pos, aft, g⟩).run P w = .ok (.round l fn tmps assign body) w := by
    simp [execOp, resolve, Deferred.ofValue, invoke, ha.ev hf, ha.evs ha_, hr]
  rw [hrun]
  refine ⟨(fun h => by cases h), hR.mono ?_⟩
  rintro e w' ⟨v, η', w1, X1, rfl, hw', hk⟩
  exact hk _ _ (ha.put hN v) hw'
/-- a loop whose relation speaks of the world; each round has its own base -/
theorem xc_loopJ {γ : Type} {c : Code} (C : γ → Prop) (S : γ → Slots) (H : γ → Hp) (J : γ → World → Prop) (μ : γ → Nat) (g0 : γ) (hC : C g0) (hs : subS (S g0) σ) (h0 : ∀ w, WOK w0 X η w → BOK (H g0) w ∧ J g0 w)
    (round : ∀ g, C g → ∀ w, BOK (H g) w → J g w → XC P ro n N ds w (XW (H g)) (Exit.then (fun a w => ∃ k, k < μ g ∧ ∃ g', C g' ∧ μ g' = k ∧ SOK N ds (S g') a ∧ BOK (H g') w ∧ J g' w) Q) (S g) (H g) c) : XC P ro n N ds w0 X Q σ η (.loop c) := by
  intro a w ha hw
  obtain ⟨hb, hj⟩ := h0 w hw
  refine wpIn_loop_ghost (fun k a w => ∃ g', C g' ∧ μ g' = k ∧ SOK N ds (S g') a ∧ BOK (H g') w ∧ J g' w) (μ g0) ⟨g0, hC, rfl, ha.sub hs, hb, hj⟩ ?_
  rintro k a w ⟨g, hg, rfl, h1, h2, h3⟩
  exact round g hg w h2 h3 a w h1 h2.wok
theorem xq_againJ {γ : Type} (C : γ → Prop) (S : γ → Slots) (H : γ → Hp) (J : γ → World → Prop) (μ : γ → Nat) (m : Nat) (g' : γ) (hC : C g') (hm : μ g' < m) (hs : subS (S g') σ) (h : ∀ w, WOK w0 X η w → BOK (H g') w ∧ J g' w) :
    XQ N ds w0 X (Exit.then (fun a w => ∃ k, k < m ∧ ∃ g', C g' ∧ μ g' = k ∧ SOK N ds (S g') a ∧ BOK (H g') w ∧ J g' w) Q) .normal σ η :=
  fun a w ha hw => ⟨_, hm, g', hC, rfl, ha.sub hs, (h w hw).1, (h w hw).2⟩
end
/-- an iterator over whole numbers: what it yields, from whatever world that is as wB is at the blocks that it needs -/
def Iter (P : Program) (g : Nat) (cs : List Value) (wB : World) (need : Nat → Prop) (xs : List Int) : Prop :=
  ∀ (w : World), wB.heap.size ≤ w.heap.size → (∀ k, need k → w.heap[k]? = wB.heap[k]?) → ∀ (K : Nat → Prop), (∀ k, need k → K k) → ∀ m : Nat,
    SeqStopsK Fence.wide m P g cs.toArray (fun x : Int => #[.int .i64 x]) (KpK K w.heap.size) (fun ys => ys = xs) (fun _ => True) xs.length w
theorem x_iter {P : Program} {g : Nat} {fn : Func} {c : Code} {cs : List Value} {m : Nat} {W : World} {R : Ending → World → Prop} {X : Nat → Prop} {η : Hp} {l : Nat} (hf : P.funcs[g]? = some fn) (hb : fn.body = some c) {N : Nat} (hn : fn.ntmps = N) (hl : Nat.ble (cs.length + 1) N = true) (hw : WOK W X η W)
    (h : XC P none m N [] W X (bodyPost P fn R) (argS 0 (.func (.yield l) #[] #[] :: cs)) η c) : CallsIn Fence.wide m P g (#[.func (.yield l) #[] #[]] ++ cs.toArray) W R := by
  subst hn
  have := callsIn_of_wp (F := Fence.wide) (n := m) (args := (.func (.yield l) #[] #[] :: cs).toArray) hf hb trivial (h _ W (SOK.args _ _ (by simpa using Nat.le_of_ble_eq_true hl)) hw) rfl
  simpa using this
/-- the mark of a range over a function -/
def mark_ (D : Nat) : Deferred := { target := .collected D, args := #[] }
def hdef : HP := fun o => o = .deferred (some [])
section
variable {P : Program} {n N : Nat} {ds : List Deferred} {w0 : World} {Q : Exit → Act → World → Prop} {σ : Slots} {η : Hp}
/-- one round of a range over an iterator -/
def RoundPost (N : Nat) (W : World) (η : Hp) (I : World → Prop) : Exit → Act → World → Prop
  | .normal, _, w => I w
  | _, _, _ => False
theorem xc_range {go : Operand} {p : Tmp} {assign body : Code} {gf : Nat} {cs : List Value} {xs : List Int} (hn : 3 ≤ n) (hg : ev σ go = some (.func (.func gf) #[] cs.toArray)) (eg : ∀ args w, (callFunc gf args).run P w = .ok (.enter gf args) w) (hp : Nat.blt p N = true)
    (K : Nat → Prop) (hKlt : ∀ w, WOK w0 XNone η w → ∀ k, K k → k < w.heap.size) (hseq : ∀ w, WOK w0 XNone η w → SeqStopsK Fence.wide (n - 1) P gf cs.toArray (fun x : Int => #[.int .i64 x]) (KpK K w.heap.size) (fun ys => ys = xs) (fun _ => True) xs.length w)
    {γ : Type} (C : List Int → γ → Prop) (H : List Int → γ → Hp) (g0 : γ) (hC0 : C [] g0) (hH0 : List.Sublist (H [] g0) η)
    (hcell : ∀ ys g, C ys g → ∀ e ∈ H ys g, (∀ o, e.2.2 o → o.isCells = true) ∨ ∃ e' ∈ η, e'.1 = e.1) (hwr : ∀ ys g, C ys g → ∀ e ∈ H ys g, e.2.1 = true → ¬ K e.1) (S1 : Int → Slots)
    (hassign : ∀ l x W, XC P (some l) (n - 1 - 1) N [] W XNone (Exit.then (fun a w => SOK N [] (S1 x) a ∧ Kx XNone W w) (fun _ _ _ => False)) ((p, .int .i64 x) :: σ) [] assign)
    (hbody : ∀ l ys x g W, C ys g → ys.length < xs.length → WOK w0 XNone (H ys g) W → XC P (some l) (n - 1 - 1) N [] W (XW (H ys g)) (RoundPost N W (H ys g) fun w => ∃ g', C (ys ++ [x]) g' ∧ WOK W (XW (H ys g)) (H (ys ++ [x]) g') w) (S1 x) (H ys g) body)
    (hdone : ∀ D g, C xs g → XQ N (mark_ D :: ds) w0 XNone Q .normal σ ((D, true, hdef) :: H xs g)) : XC P none n N ds w0 XNone Q σ η (.rangeFunc go #[p] assign body) := by
  intro a w ha hw
  have hlt : ∀ e ∈ η, e.1 < w.heap.size := fun e he => hw.lt he
  have hsz := hw.kx.size
  -- the relation abides what the loop's own records do
  have hI : OwnFrom w.heap.size (fun (ys : List Int) W => w.heap.size ≤ W.heap.size ∧ ∃ g, C ys g ∧ WOK w0 XNone (H ys g) W) := by
    rintro ys A B row ⟨hszA, g, hg', hA⟩ hgr hrow
    have hne : ∀ e ∈ H ys g, some e.1 ≠ row := fun e he q => by
      obtain ⟨h1, o, h2, h3⟩ := hrow e.1 q.symm
      obtain ⟨o', h4, h5⟩ := hA.bl e he
      rw [h4] at h2
      cases h2
      rcases hcell ys g hg' e he with h6 | ⟨e', h6, h7⟩
      · rw [h6 _ h5] at h3; cases h3
      · have := hlt e' h6; omega
    refine ⟨Nat.le_trans hszA hgr.size, g, hg', ⟨hgr.os.trans hA.kx.os, hgr.tape.trans hA.kx.tape, hgr.output.trans hA.kx.output, Nat.le_trans hA.kx.size hgr.size, fun k hk hx => (hgr.block k (Nat.lt_of_lt_of_le hk hA.kx.size) (fun q => ?_)).trans (hA.kx.block k hk hx)⟩, ?_, hA.nd, hA.ow⟩
    · obtain ⟨h1, _⟩ := hrow k q.symm
      omega
    · intro e he
      obtain ⟨o, h1, h2⟩ := hA.bl e he
      exact ⟨o, (hgr.block _ (hA.lt he) (hne e he)).trans h1, h2⟩
  refine wpIn_rangeFunc_ownH (F := wideR none) (w := w) (w0 := w) rfl (by omega) (gf := gf) (lb := cs.toArray) (ha.ev hg) trivial eg (hseq w hw) (fun h k => h.trans k) ?_ (Below.refl _ _) (fun _ => rfl)
    (fun ys W => w.heap.size ≤ W.heap.size ∧ ∃ g, C ys g ∧ WOK w0 XNone (H ys g) W) (fun _ _ _ => False) hI (fun _ _ _ _ _ h _ _ => h) ⟨Nat.le_refl _, g0, hC0, hw.sub hH0⟩
    (fun x a' W => SOK N [] (S1 x) a') (fun x a' _ _ _ _ h _ _ => h) ?_ ?_ ?_ ?_
  · intro W l o o' hl ho hnc hnw
    refine ⟨fun k hk => World.putObj_heap_other (fun e => ?_), by simp, fun k o1 hk h1 h2 => (World.putObj_heap_other (fun e => ?_)).trans h1⟩
    · have := hKlt w hw k hk; omega
    · subst e
      rw [ho] at h1
      cases h1
      rw [hnw] at h2
      cases h2
  · rintro l pre x W K' ⟨hszW, g, hg', hA⟩ hk
    have hs : SOK N [] ((p, .int .i64 x) :: σ) { tmps := ((#[p] : Array Tmp).zip #[Value.int .i64 x]).foldl (fun t (q : Tmp × Value) => t.setIfInBounds q.1 q.2) a.tmps, defers := [] } := by
      have h1 := ha.put (d := some p) (by simpa [dstOK] using hp) (.int .i64 x)
      exact ⟨by simpa [Act.put] using h1.sz, fun i v hv => by simpa [Act.put] using h1.sl i v hv, rfl⟩
    refine wpIn_mono (hassign l x W _ W hs (WOK.start XNone W)) ?_
    intro e a' w' hq
    cases e with
    | normal =>
      obtain ⟨h1, h2⟩ := hq
      have hb := h2.below
      exact hk a' w' ⟨hb.size, fun k o _ ho _ => (hb.block k (Array.getElem?_eq_some_iff.1 ho).1).trans ho⟩ ⟨fun k hK => hb.block k (Nat.lt_of_lt_of_le (hKlt w hw k hK) hszW), hb.size, fun k o _ ho _ => (hb.block k (Array.getElem?_eq_some_iff.1 ho).1).trans ho⟩ ⟨Nat.le_trans hszW hb.size, g, hg', hA.below hb⟩ h1
    | exit id => exact hq
    | goto l => exact hq
    | ret => exact hq
    | panic c => exact hq
    | outgrown => exact hq
  · rintro l pre x a' W hl _ ⟨hszW, g, hg', hA⟩ hax hlen
    have hxw : ∀ k o, w.heap.size ≤ k → W.heap[k]? = some o → o.isCells = false → ¬ XW (H pre g) k := by
      rintro k o hk ho hnc ⟨e, he, hwr', rfl⟩
      obtain ⟨o', h4, h5⟩ := hA.bl e he
      rw [ho] at h4
      cases h4
      rcases hcell pre g hg' e he with h6 | ⟨e', h6, h7⟩
      · rw [h6 _ h5] at hnc; cases hnc
      · have := hlt e' h6; omega
    refine wpIn_mono (hbody l pre x g W hg' hlen hA a' W hax hA.wok) ?_
    intro e a1 w' hq
    cases e with
    | normal =>
      obtain ⟨g', hg2, h2⟩ := hq
      refine ⟨⟨h2.kx.size, fun k o hk ho hnc => (h2.kx.block k (Array.getElem?_eq_some_iff.1 ho).1 (hxw k o hk ho hnc)).trans ho⟩, ⟨fun k hK => h2.kx.block k (Nat.lt_of_lt_of_le (hKlt w hw k hK) hszW) ?_, h2.kx.size, fun k o hk ho hwk => (h2.kx.block k (Array.getElem?_eq_some_iff.1 ho).1 (hxw k o hk ho ?_)).trans ho⟩, Nat.le_trans hszW h2.kx.size, g', hg2, hA.back h2⟩
      · rintro ⟨e, he, hw1, rfl⟩
        exact hwr pre g hg' e he hw1 hK
      · cases o <;> first | rfl | cases hwk
    | exit id => exact hq.elim
    | goto l => exact hq.elim
    | ret => exact hq.elim
    | panic c => exact hq.elim
    | outgrown => exact hq.elim
  · rintro D ys W hD rfl ⟨hszW, g, hg', hA⟩ hdf
    refine hdone D g hg' _ W ⟨ha.sz, ha.sl, by rw [ha.df]; rfl⟩ ⟨hA.kx, ?_, ?_, ?_⟩
    · intro e he
      rcases List.mem_cons.1 he with rfl | he
      · exact ⟨_, hdf, rfl⟩
      · exact hA.bl e he
    · simp only [List.map_cons, List.nodup_cons]
      refine ⟨fun hm => ?_, hA.nd⟩
      obtain ⟨e, he, q⟩ := List.mem_map.1 hm
      obtain ⟨o', h4, h5⟩ := hA.bl e he
      rw [q, hdf] at h4
      cases h4
      rcases hcell ys g hg' e he with h6 | ⟨e', h6, h7⟩
      · have := h6 _ h5; cases this
      · have := hlt e' h6; omega
    · intro e he hw1
      rcases List.mem_cons.1 he with rfl | he
      · exact .inl (Nat.le_trans hsz hD)
      · exact hA.ow e he hw1
  · intro D c pre W hD _ h _; exact h.elim
end
/-! ### a function with such a loop -/
theorem x_callsM {P : Program} {f : FuncId} {fn : Func} {c : Code} {vs : List Value} {w : World} {R : Ending → World → Prop} {η : Hp} (n : Nat) (hf : P.funcs[f]? = some fn) (hb : fn.body = some c) {N : Nat} (hn : fn.ntmps = N) (hl : Nat.ble vs.length N = true) (hw : WOK w XNone η w)
    (h : XC P none n N [] w XNone (bodyPostM Fence.wide n P fn R) (argS 0 vs) η c) : Calls P f vs.toArray w R := by
  subst hn
  exact (callsIn_wide (n := n)).1 (callsIn_of_wp_marks hf hb trivial (h _ w (SOK.args vs _ (Nat.le_of_ble_eq_true hl)) hw) rfl)
theorem below_takeD {w0 w : World} {D : Nat} {o : Obj} (h : Below w0.heap.size w0 w) (hD : w0.heap.size ≤ D) : Below w0.heap.size w0 (w.putObj D o) :=
  ⟨h.os, h.tape, h.output, by simp; exact h.size, fun k hk => (World.putObj_heap_other (by omega)).trans (h.block k hk)⟩
section
variable {P : Program} {n N : Nat} {w0 : World} {fn : Func} {R : Ending → World → Prop} {σ : Slots} {η : Hp}
/-- out of it, behind the loop: the mark is taken -/
theorem xq_retM1 {t : Tmp} {v : Value} {D : Nat} (hf : fn.results = #[.tmp t]) (hv : slot t σ = some v) (h : ∀ w, WOK w0 XNone η w → R (.returned v) w) : XQ N [mark_ D] w0 XNone (bodyPostM Fence.wide n P fn R) .ret σ ((D, true, hdef) :: η) := by
  intro a w ha hw
  obtain ⟨o, hD, ho⟩ := hw.bl (D, true, hdef) (List.mem_cons_self ..)
  rw [show o = _ from ho] at hD
  show LeavesInM _ _ _ _ _ _ a.defers _ w
  rw [ha.df]
  refine ⟨by simp, .inl ⟨D, _, rfl, run_takeDeferred hD, ?_⟩⟩
  have hw' : WOK w0 XNone η (w.putObj D (.deferred none)) := by
    have h1 : D ∉ η.map (·.1) := by have := hw.nd; simp only [List.map_cons, List.nodup_cons] at this; exact this.1
    have h2 := hw.sub (List.sublist_cons_self _ _)
    have h3 : w0.heap.size ≤ D := by
      rcases hw.ow (D, true, hdef) (List.mem_cons_self ..) rfl with h4 | h4
      · exact h4
      · exact h4.elim
    refine ⟨Kx.of_below (below_takeD h2.kx.below h3), ?_, h2.nd, h2.ow⟩
    intro e he
    obtain ⟨o, h4, h5⟩ := h2.bl e he
    exact ⟨o, (World.putObj_heap_other (fun q => h1 (List.mem_map.2 ⟨e, he, q⟩))).trans h4, h5⟩
  exact ⟨v, by rw [results_tmp hf, getD_of (ha.sl _ _ hv)], h _ hw'⟩
end
end Go.Proofs.YtcmepdamemnbkaaDoor
namespace Go.Proofs.YtcmepdamemnbkaaDoor
open Go.RowKit
section
variable {P : Program} {ro : Option Nat} {n N : Nat} {ds : List Deferred} {w0 : World} {X : Nat → Prop} {Q : Exit → Act → World → Prop} {σ : Slots} {η : Hp} {c : Code}
/-- what the world tells here -/
theorem xc_know {φ : Prop} (h : ∀ w, WOK w0 X η w → φ) (k : φ → XC P ro n N ds w0 X Q σ η c) : XC P ro n N ds w0 X Q σ η c := fun a w ha hw => k (h w hw) a w ha hw
theorem WOK.own {w : World} (h : WOK w0 XNone η w) {b : Nat} {φ : HP} (he : (b, true, φ) ∈ η) : w0.heap.size ≤ b := by
  rcases h.ow _ he rfl with h1 | h1
  · exact h1
  · exact h1.elim
end
theorem Kx.grown {X : Nat → Prop} {w0 w : World} {row : Option Nat} (h : Kx X w0 w) (hr : ∀ k, X k → row = some k) : w0.grownBy w row := ⟨h.os, h.tape, h.output, h.size, fun k hk hne => h.block k hk (fun q => hne (hr k q).symm)⟩
/-- a row of whole numbers that a call has made -/
def RowAt (e : TypeId) (base : Nat) (w : World) (r : RowR) (xs : List Int) : Prop := (r = none → xs = []) ∧ ∀ p, r = some p → base ≤ p.1 ∧ ∃ o, w.heap[p.1]? = some o ∧ orow e 1 xs.length p.2 (xs.map (.int .i64)) o
end Go.Proofs.YtcmepdamemnbkaaDoor
namespace Go.Proofs.YtcmepdamemnbkaaDoor
open Go.RowKit
theorem WOK.row {w0 : World} {X : Nat → Prop} {η : Hp} {w w' : World} (h : WOK w0 X η w) (hb : Below w.heap.size w w') {e : TypeId} {r : RowR} {xs : List Int} (hr : RowAt e w.heap.size w' r xs) : WOK w0 X (hpR e 1 r xs.length (xs.map (.int .i64)) ++ η) w' := by
  cases r with
  | none => exact h.below hb
  | some p =>
    obtain ⟨h1, o, h2, h3⟩ := hr.2 p rfl
    exact h.more hb h1 h2 h3
theorem RowAt.of {w0 : World} {η : Hp} {w : World} {e : TypeId} {r : RowR} {xs : List Int} (h : WOK w0 XNone (hpR e 1 r xs.length (xs.map (.int .i64)) ++ η) w) (h0 : r = none → xs = []) : RowAt e w0.heap.size w r xs := by
  refine ⟨h0, fun p hp => ?_⟩
  subst hp
  exact ⟨h.own (List.Mem.head _), h.bl (p.1, true, orow e 1 xs.length p.2 (xs.map (.int .i64))) (List.Mem.head _)⟩
theorem RowAt.below {e : TypeId} {base : Nat} {w w' : World} {r : RowR} {xs : List Int} (h : RowAt e base w r xs) (hb : Below w.heap.size w w') : RowAt e base w' r xs := by
  refine ⟨h.1, fun p hp => ?_⟩
  obtain ⟨h1, o, h2, h3⟩ := h.2 p hp
  exact ⟨h1, o, (hb.block _ (Array.getElem?_eq_some_iff.1 h2).1).trans h2, h3⟩
theorem RowAt.mono {e : TypeId} {base base' : Nat} {w : World} {r : RowR} {xs : List Int} (h : RowAt e base w r xs) (hb : base' ≤ base) : RowAt e base' w r xs := ⟨h.1, fun p hp => ⟨Nat.le_trans hb (h.2 p hp).1, (h.2 p hp).2⟩⟩
end Go.Proofs.YtcmepdamemnbkaaDoor
namespace Go.Proofs.YtcmepdamemnbkaaDoor
open Go.RowKit
/-- a call that wrote into one block of the call's own, and made others -/
theorem WOK.updK {w0 : World} {X : Nat → Prop} {η η' : Hp} {w w' : World} {b : Nat} {φ' : HP} (h : WOK w0 X η w) (hU : Upd b φ' η η') (k : Kx (fun q => q = b) w w') {o : Obj} (ho : w'.heap[b]? = some o) (hφ : φ' o) : WOK w0 X η' w' := by
  obtain ⟨φ, hb⟩ := hU.has
  have hown := h.ow _ hb rfl
  refine ⟨⟨k.os.trans h.kx.os, k.tape.trans h.kx.tape, k.output.trans h.kx.output, Nat.le_trans h.kx.size k.size, fun i hi hx => ?_⟩, ?_, by rw [hU.keys]; exact h.nd, ?_⟩
  · refine (k.block i (Nat.lt_of_lt_of_le hi h.kx.size) (fun e => ?_)).trans (h.kx.block i hi hx)
    subst e
    rcases hown with h2 | h2
    · exact absurd hi (Nat.not_lt.2 h2)
    · exact hx h2
  · intro e he
    rcases hU.memNe h.nd e he with rfl | ⟨he, hne⟩
    · exact ⟨o, ho, hφ⟩
    · obtain ⟨o', h2, h3⟩ := h.bl e he
      exact ⟨o', (k.block _ (h.lt he) hne).trans h2, h3⟩
  · intro e he hw
    rcases hU.mem e he with rfl | he
    · exact hown
    · exact h.ow e he hw
end Go.Proofs.YtcmepdamemnbkaaDoor
namespace Go.Proofs.YtcmepdamemnbkaaDoor
open Go.RowKit
theorem WOK.more2 {w0 : World} {X : Nat → Prop} {η : Hp} {w w' : World} (h : WOK w0 X η w) (hb : Below w.heap.size w w') {b c : Nat} {o o2 : Obj} {φ φ2 : HP} (hbb : w.heap.size ≤ b) (hcc : w.heap.size ≤ c) (hne : b ≠ c) (ho : w'.heap[b]? = some o) (ho2 : w'.heap[c]? = some o2) (hφ : φ o) (hφ2 : φ2 o2) : WOK w0 X ((c, true, φ2) :: (b, true, φ) :: η) w' := by
  have h1 := h.more hb hbb ho hφ
  refine ⟨h1.kx, ?_, ?_, ?_⟩
  · intro e he
    rcases List.mem_cons.1 he with rfl | he
    · exact ⟨o2, ho2, hφ2⟩
    · exact h1.bl e he
  · simp only [List.map_cons, List.nodup_cons, List.mem_cons, not_or]
    refine ⟨⟨fun e => hne e.symm, fun hm => ?_⟩, ?_⟩
    · obtain ⟨e, he, h2⟩ := List.mem_map.1 hm
      have := h.lt he
      omega
    · have := h1.nd
      simpa only [List.map_cons, List.nodup_cons] using this
  · intro e he hw
    rcases List.mem_cons.1 he with rfl | he
    · exact .inl (Nat.le_trans h.kx.size hcc)
    · exact h1.ow e he hw
end Go.Proofs.YtcmepdamemnbkaaDoor
namespace Go.Proofs.YtcmepdamemnbkaaDoor
open Go.RowKit
set_option linter.unusedVariables false
section
variable {P : Program} {ro : Option Nat} {n N : Nat} {ds : List Deferred} {w0 : World} {X : Nat → Prop} {Q : Exit → Act → World → Prop} {σ : Slots} {η : Hp}
theorem DrawOps.nil {ops : List Oper} {vs : List Value} : DrawOps P ro n N ds w0 X ops vs σ η [] [] := trivial
theorem DrawOps.cons {ops : List Oper} {vs : List Value} {o : Oper} {r : List Oper} {v : Value} {vr : List Value} (h : ∀ τ, XO P ro n N ds w0 X (OnePost N ds w0 X η (putS o.dst v (flatS ops vs (depOf o) σ ++ τ))) ops (flatS ops vs (depOf o) σ ++ τ) η [o])
    (t : DrawOps P ro n N ds w0 X ops vs σ η r vr) : DrawOps P ro n N ds w0 X ops vs σ η (o :: r) (v :: vr) := ⟨h, t⟩
theorem xc_drawN {id : Nat} {ops : List Oper} {vs : List Value} (hmix : P.follows .mixedOrders = true) (hbind : true = true) (hdeps : depsB 0 ops = true) (hdist : distB (dstsOf_ ops) = true) (hfresh : freshB σ (dstsOf_ ops) = true)
    (hop : DrawOps P ro n N ds w0 X ops vs σ η ops vs) (hlen : Nat.beq vs.length ops.length = true) (hQ : XQ N ds w0 X Q .normal (flatS ops vs (List.range ops.length) σ) η) : XC P ro n N ds w0 X Q σ η (.region id ops.toArray true) :=
  xc_draw vs hmix hlen hbind hdeps hdist hfresh hop hQ
theorem xo_fin {ops : List Oper} {d : Option Tmp} {u v : Value} (e : u = v) : XO P ro n N ds w0 X (OnePost N ds w0 X η (putS d v σ)) ops (putS d u σ) η [] := by
  subst e
  exact xo_nil fun a w ha hw => ⟨ha, hw⟩
end
theorem RO.fld {w : World} {X : Nat → Prop} {p : Addr} {cs : List Value} {j : Nat} {v : Value} (h : RO w X p cs) (hj : cs[j]? = some v) : RO w X (p.add j) [v] := fun i u hi => by
  cases i with
  | zero => simp at hi; subst hi; rw [Addr.add_zero']; exact h j _ hj
  | succ i => simp at hi
end Go.Proofs.YtcmepdamemnbkaaDoor
namespace Go.Proofs.YtcmepdamemnbkaaDoor
open Go.RowKit
set_option linter.unusedVariables false
set_option linter.unusedSimpArgs false
end Go.Proofs.YtcmepdamemnbkaaDoor
namespace Go.Proofs.YtcmepdamemnbkaaDoor
open Go.RowKit
set_option linter.unusedVariables false
set_option linter.unusedSimpArgs false
def PostK (K : Act → World → Prop) : Exit → Act → World → Prop
  | .normal, a, w => K a w
  | _, _, _ => False
theorem wpIn_swapK {F : Fence} {n : Nat} {P : Program} {o : Oper} {a : Act} {w : World} {K K' : Act → World → Prop} {Q : Exit → Act → World → Prop}
    (h : o.wpIn F n P a w K (PostK K')) : o.wpIn F n P a w K Q := by
  unfold Oper.wpIn at *
  refine ⟨h.1, ?_⟩
  have hh := h.2
  generalize (o.semAt F.round a.eval).run P w = r at *
  cases r with
  | ok x w' =>
    cases x <;> simp only [Oper.uponIn] at hh ⊢ <;>
      first
        | exact hh
        | exact ⟨hh.1, CallsIn.mono hh.2 (fun e w'' he => by
            cases e with
            | returned v => exact he
            | panicked c => exact he.elim
            | outgrown => obtain ⟨_, _, h3⟩ := he; exact h3.elim)⟩
        | exact ⟨hh.1, RoundIn.mono hh.2 (fun e w'' he => by
            cases e with
            | returned v => exact he
            | panicked c => exact he.elim
            | outgrown => obtain ⟨_, _, h3⟩ := he; exact h3.elim)⟩
  | halt x w' => cases x <;> simp only [Oper.uponIn] at hh ⊢ <;> first | exact hh | exact hh.elim
section
variable {P : Program} {ro : Option Nat} {n N : Nat} {ds : List Deferred} {w0 : World} {X : Nat → Prop} {Q : Exit → Act → World → Prop} {σ : Slots} {η : Hp}
def GPost {γ : Type} (N : Nat) (ds : List Deferred) (w0 : World) (X : Nat → Prop) (ops : List Oper) (vs : γ → List Value) (H : γ → Hp) (Ok : List Nat → γ → Prop) (i : Nat) (L : List Nat) (g : γ) (d : Option Tmp) (σ : Slots) : Act → World → Prop := fun a w =>
  ∃ g', Ok (i :: L) g' ∧ (∀ j ∈ L, nth j (vs g') = nth j (vs g)) ∧ (∃ v, nth i (vs g') = some v ∧ SOK N ds (putS d v σ) a) ∧ WOK w0 X (H g') w
def DrawG {γ : Type} (P : Program) (ro : Option Nat) (n N : Nat) (ds : List Deferred) (w0 : World) (X : Nat → Prop) (ops : List Oper) (vs : γ → List Value) (H : γ → Hp) (Ok : List Nat → γ → Prop) (σ : Slots) : Nat → List Oper → Prop
  | _, [] => True
  | i, o :: r => (∀ L g, Ok L g → i ∉ L → (∀ j ∈ depOf o, j ∈ L) → ∀ τ, XO P ro n N ds w0 X (PostK (GPost N ds w0 X ops vs H Ok i L g o.dst (flatS ops (vs g) (depOf o) σ ++ τ))) ops (flatS ops (vs g) (depOf o) σ ++ τ) (H g) [o]) ∧ DrawG P ro n N ds w0 X ops vs H Ok σ (i + 1) r
theorem drawG_get {γ : Type} {ops : List Oper} {vs : γ → List Value} {H : γ → Hp} {Ok : List Nat → γ → Prop} : ∀ (l : List Oper) (k i : Nat) (o : Oper), DrawG P ro n N ds w0 X ops vs H Ok σ k l → l[i]? = some o →
    ∀ L g, Ok L g → k + i ∉ L → (∀ j ∈ depOf o, j ∈ L) → ∀ τ, XO P ro n N ds w0 X (PostK (GPost N ds w0 X ops vs H Ok (k + i) L g o.dst (flatS ops (vs g) (depOf o) σ ++ τ))) ops (flatS ops (vs g) (depOf o) σ ++ τ) (H g) [o]
  | [], k, i, o, _, h => by simp at h
  | x :: r, k, 0, o, h, h1 => by
    simp at h1
    subst h1
    exact h.1
  | x :: r, k, i + 1, o, h, h1 => by
    have := drawG_get r (k + 1) i o h.2 (by simpa using h1)
    rw [show k + 1 + i = k + (i + 1) by omega] at this
    exact this
theorem DrawG.nil {γ : Type} {ops : List Oper} {vs : γ → List Value} {H : γ → Hp} {Ok : List Nat → γ → Prop} {i : Nat} : DrawG P ro n N ds w0 X ops vs H Ok σ i [] := trivial
theorem DrawG.cons {γ : Type} {ops : List Oper} {vs : γ → List Value} {H : γ → Hp} {Ok : List Nat → γ → Prop} {i : Nat} {o : Oper} {r : List Oper} (h : ∀ L g, Ok L g → i ∉ L → (∀ j ∈ depOf o, j ∈ L) → ∀ τ, XO P ro n N ds w0 X (PostK (GPost N ds w0 X ops vs H Ok i L g o.dst (flatS ops (vs g) (depOf o) σ ++ τ))) ops (flatS ops (vs g) (depOf o) σ ++ τ) (H g) [o])
    (t : DrawG P ro n N ds w0 X ops vs H Ok σ (i + 1) r) : DrawG P ro n N ds w0 X ops vs H Ok σ i (o :: r) := ⟨h, t⟩
/-- an operation that makes and writes nothing -/
theorem DrawG.pure {γ : Type} {ops : List Oper} {vs : γ → List Value} {H : γ → Hp} {Ok : List Nat → γ → Prop} {i : Nat} {o : Oper} {r : List Oper} (hk : ∀ L g, Ok L g → Ok (i :: L) g)
    (h : ∀ L g, Ok L g → i ∉ L → (∀ j ∈ depOf o, j ∈ L) → ∀ τ, ∃ v, nth i (vs g) = some v ∧ XO P ro n N ds w0 X (OnePost N ds w0 X (H g) (putS o.dst v (flatS ops (vs g) (depOf o) σ ++ τ))) ops (flatS ops (vs g) (depOf o) σ ++ τ) (H g) [o])
    (t : DrawG P ro n N ds w0 X ops vs H Ok σ (i + 1) r) : DrawG P ro n N ds w0 X ops vs H Ok σ i (o :: r) := by
  refine ⟨fun L g hg hi hd τ => ?_, t⟩
  obtain ⟨v, hv, hx⟩ := h L g hg hi hd τ
  intro a w ha hw
  have hr := hx a w ha hw
  unfold wpListIn at hr ⊢
  split at hr
  · rename_i hw1
    rw [if_pos hw1]
    exact wpIn_swap (Oper.wpIn_mono (fun a' w' h' => show wpListIn _ _ _ _ _ [] a' w' from ⟨g, hk L g hg, fun _ _ => rfl, ⟨v, hv, h'.1⟩, h'.2⟩) hr)
  · rename_i hw1
    rw [if_neg hw1]
    exact ⟨fun _ _ => trivial, ⟨g, hk L g hg, fun _ _ => rfl, ⟨v, hv, hr.2.1⟩, hr.2.2⟩⟩
theorem xc_drawG {γ : Type} {id : Nat} {ops : List Oper} (vs : γ → List Value) (H : γ → Hp) (Ok : List Nat → γ → Prop) (g0 : γ) (hOk0 : Ok [] g0) (hH0 : H g0 = η) (hlv : ∀ g, (vs g).length = ops.length) (hmix : P.follows .mixedOrders = true) (hbind : true = true) (hdeps : depsB 0 ops = true) (hdist : distB (dstsOf_ ops) = true) (hfresh : freshB σ (dstsOf_ ops) = true)
    (hop : DrawG P ro n N ds w0 X ops vs H Ok σ 0 ops) (hQ : ∀ L g, Ok L g → (∀ j, j < ops.length → j ∈ L) → XQ N ds w0 X Q .normal (flatS ops (vs g) (List.range ops.length) σ) (H g)) : XC P ro n N ds w0 X Q σ η (.region id ops.toArray true) := by
  have hdis := fun i j k => distB_get ops i j k hdist
  have hfr : ∀ j d, nthD j ops = some d → slot d σ = none := fun j d h => by
    rw [nthD_eq] at h
    obtain ⟨o, ho, ho2⟩ := Option.bind_eq_some_iff.1 h
    exact freshB_get _ d hfresh (List.mem_filterMap.2 ⟨o, List.mem_of_getElem? ho, ho2⟩)
  have hnot : ∀ k u, slot k σ = some u → ∀ j, nthD j ops ≠ some k := fun k u h j e => by rw [hfr j k e] at h; cases h
  -- those of some are those of more
  have hmore : ∀ (g : γ) (L M : List Nat), (∀ j ∈ L, j ∈ M) → ∀ k u, slot k (flatS ops (vs g) L σ) = some u → slot k (flatS ops (vs g) M σ) = some u := by
    intro g L M h k u hk
    rcases flat_a L hk with ⟨j, hj, h1, h2⟩ | h1
    · exact flat_b hdis h1 h2 M (h j hj)
    · rw [flat_c (hnot k u h1) M]; exact h1
  intro a w ha hw
  refine wpIn_region_any hmix ?_
  have key : ∀ (fuel : Nat) (L : List Nat) (listed : Array Bool) (a : Act) (w : World), listed.size = ops.length → (∀ j, listed.getD j false = true ↔ j ∈ L) → (∀ j ∈ L, j < ops.length) → ((List.range ops.length).filter fun j => !listed.getD j false).length ≤ fuel → ∀ g, Ok L g → SOK N ds (flatS ops (vs g) L σ) a → WOK w0 X (H g) w →
      wpAnyIn (wideR ro) n P .any ops.toArray Q fuel listed a w := by
    intro fuel
    induction fuel with
    | zero =>
      intro L listed a w hsz hL hLb hcnt g hOk ha hw
      have hall : ∀ j, j < ops.length → j ∈ L := by
        intro j hj
        have h0 := List.length_eq_zero_iff.1 (Nat.le_zero.1 hcnt)
        rw [List.filter_eq_nil_iff] at h0
        have := h0 j (List.mem_range.2 hj)
        exact (hL j).1 (by simpa using this)
      refine ⟨?_, hQ L g hOk hall a w (ha.le (hmore g _ _ (fun j hj => hall j (List.mem_range.1 hj)))) hw⟩
      apply List.eq_nil_iff_forall_not_mem.2
      intro j hj
      obtain ⟨h1, o, h2, _⟩ := mem_ready.1 hj
      have hlt : j < ops.length := by have := (Array.getElem?_eq_some_iff.1 h2).1; simpa using this
      have h3 := (hL j).2 (hall j hlt)
      rw [Array.getD_eq_getD_getElem?] at h1 h3
      rw [Array.getElem?_eq_getElem (by rw [hsz]; exact hlt)] at h1 h3
      simp at h1 h3
      rw [h1] at h3
      cases h3
    | succ fuel ih =>
      intro L listed a w hsz hL hLb hcnt g hOk ha hw
      refine ⟨fun hnil => ?_, fun i hi => ?_⟩
      · -- nothing is ready: all are listed
        have hall : ∀ k j, j ≤ k → j < ops.length → j ∈ L := by
          intro k
          induction k with
          | zero =>
            intro j hj hlt
            by_cases hm : j ∈ L
            · exact hm
            · exfalso
              have : j ∈ Region.ready .any ops.toArray listed := by
                refine mem_ready.2 ⟨?_, ops[j], by simp [List.getElem?_eq_getElem hlt], ?_⟩
                · have h3 : listed.getD j false ≠ true := fun q => hm ((hL j).1 q)
                  rw [Array.getD_eq_getD_getElem?, Array.getElem?_eq_getElem (by rw [hsz]; exact hlt)] at h3 ⊢
                  simpa using h3
                · intro e he hbd
                  have h4 := depsB_get ops 0 j ops[j] hdeps (List.getElem?_eq_getElem hlt) e.on (List.mem_map.2 ⟨e, List.mem_filter.2 ⟨by simpa using he, hbd⟩, rfl⟩)
                  omega
              rw [hnil] at this
              cases this
          | succ k ihk =>
            intro j hj hlt
            by_cases hjk : j ≤ k
            · exact ihk j hjk hlt
            by_cases hm : j ∈ L
            · exact hm
            · exfalso
              have : j ∈ Region.ready .any ops.toArray listed := by
                refine mem_ready.2 ⟨?_, ops[j], by simp [List.getElem?_eq_getElem hlt], ?_⟩
                · have h3 : listed.getD j false ≠ true := fun q => hm ((hL j).1 q)
                  rw [Array.getD_eq_getD_getElem?, Array.getElem?_eq_getElem (by rw [hsz]; exact hlt)] at h3 ⊢
                  simpa using h3
                · intro e he hbd
                  have h4 := depsB_get ops 0 j ops[j] hdeps (List.getElem?_eq_getElem hlt) e.on (List.mem_map.2 ⟨e, List.mem_filter.2 ⟨by simpa using he, hbd⟩, rfl⟩)
                  exact (hL e.on).2 (ihk e.on (by omega) (by omega))
              rw [hnil] at this
              cases this
        exact hQ L g hOk (fun j hj => hall j j (Nat.le_refl _) hj) a w (ha.le (hmore g _ _ (fun j hj => hall j j (Nat.le_refl _) (List.mem_range.1 hj)))) hw
      · obtain ⟨h1, o, h2, h3⟩ := mem_ready.1 hi
        have hlt : i < ops.length := by have := (Array.getElem?_eq_some_iff.1 h2).1; simpa using this
        have ho : ops[i]? = some o := by simpa using h2
        have hnl : ¬ i ∈ L := fun q => by
          have h4 := (hL i).2 q
          rw [Array.getD_eq_getD_getElem?, Array.getElem?_eq_getElem (by rw [hsz]; exact hlt)] at h1 h4
          simp at h1 h4
          rw [h1] at h4
          cases h4
        have hdL : ∀ j ∈ depOf o, j ∈ L := by
          intro j hj
          obtain ⟨e, he, rfl⟩ := List.mem_map.1 hj
          obtain ⟨he, hb⟩ := List.mem_filter.1 he
          exact (hL e.on).1 (h3 e (by simpa using he) hb)
        have hcons := hmore g (depOf o) L hdL
        have hs : SOK N ds (flatS ops (vs g) (depOf o) σ ++ flatS ops (vs g) L σ) a := ha.le fun k u hk => by
          rw [slot_app] at hk
          cases hd : slot k (flatS ops (vs g) (depOf o) σ) with
          | some x => rw [hd] at hk; cases hk; exact hcons k _ hd
          | none => rw [hd] at hk; exact hk
        have hrun := drawG_get ops 0 i o hop ho L g hOk (by rwa [Nat.zero_add]) hdL (flatS ops (vs g) L σ) a w hs hw
        rw [Nat.zero_add] at hrun
        have hnext : ∀ a' w', GPost N ds w0 X ops vs H Ok i L g o.dst (flatS ops (vs g) (depOf o) σ ++ flatS ops (vs g) L σ) a' w' → wpAnyIn (wideR ro) n P .any ops.toArray Q fuel (listed.setIfInBounds i true) a' w' := by
          rintro a' w' ⟨g', hOk', hsame, ⟨v, hv, ha'⟩, hw'⟩
          have hflat : flatS ops (vs g') L σ = flatS ops (vs g) L σ := by
            clear hOk hOk' ih hs hrun ha hw ha' hw' hL hLb hnl hdL hcons hcnt
            induction L with
            | nil => rfl
            | cons j L ihL =>
              unfold flatS
              rw [ihL (fun j hj => hsame j (List.mem_cons_of_mem _ hj))]
              congr 1
              unfold dstv
              rw [hsame j (List.mem_cons_self ..)]
          refine ih (i :: L) _ a' w' (by simp [hsz]) ?_ ?_ ?_ g' hOk' (ha'.le ?_) hw'
          · intro j
            rw [Array.getD_eq_getD_getElem?]
            by_cases e : i = j
            · subst e
              rw [Array.getElem?_setIfInBounds_self, if_pos (by rw [hsz]; exact hlt)]
              simp
            · rw [Array.getElem?_setIfInBounds_ne e, ← Array.getD_eq_getD_getElem?, hL j]
              simp [show ¬ j = i from fun q => e q.symm]
          · intro j hj
            rcases List.mem_cons.1 hj with rfl | hj
            · exact hlt
            · exact hLb j hj
          · have : ((List.range ops.length).filter fun j => !(listed.setIfInBounds i true).getD j false).length < ((List.range ops.length).filter fun j => !listed.getD j false).length := by
              refine filter_less (i := i) ?_ (List.mem_range.2 hlt) ?_ ?_
              · intro j hj hq
                by_cases e : i = j
                · subst e
                  rw [Array.getD_eq_getD_getElem?, Array.getElem?_setIfInBounds_self, if_pos (by rw [hsz]; exact hlt)] at hq
                  simp at hq
                · rw [Array.getD_eq_getD_getElem?, Array.getElem?_setIfInBounds_ne e, ← Array.getD_eq_getD_getElem?] at hq
                  exact hq
              · have h4 : listed.getD i false ≠ true := fun q => hnl ((hL i).1 q)
                simpa using h4
              · rw [Array.getD_eq_getD_getElem?, Array.getElem?_setIfInBounds_self, if_pos (by rw [hsz]; exact hlt)]
                simp
            omega
          · intro k u hk
            unfold flatS at hk
            rw [slot_app] at hk
            cases hd : slot k (dstv ops (vs g') i) with
            | some x =>
              rw [hd] at hk
              cases hk
              obtain ⟨h5, h6⟩ := slot_dstv.1 hd
              rw [hv] at h6
              cases h6
              rw [nthD_eq, ho] at h5
              simp only [Option.bind_some] at h5
              rw [h5]
              unfold putS slot
              simp
            | none =>
              rw [hd] at hk
              rw [hflat] at hk
              have h7 : slot k (flatS ops (vs g) (depOf o) σ ++ flatS ops (vs g) L σ) = some u := by
                rw [slot_app]
                cases hd2 : slot k (flatS ops (vs g) (depOf o) σ) with
                | some x => have hk' : slot k (flatS ops (vs g) L σ) = some u := hk; have := hcons k x hd2; rw [hk'] at this; exact this.symm
                | none => exact hk
              cases hdo : o.dst with
              | none => exact h7
              | some d =>
                unfold putS slot
                have hne : Nat.beq d k = false := by
                  cases hb : Nat.beq d k with
                  | false => rfl
                  | true =>
                    exfalso
                    have e := Nat.eq_of_beq_eq_true hb
                    subst e
                    rw [slot_dstv.2 ⟨by rw [nthD_eq, ho]; exact hdo, hv⟩] at hd
                    cases hd
                simp only [hne, cond_false]
                exact h7
        unfold wpOpIn
        simp only [h2]
        unfold wpListIn at hrun
        split at hrun
        · rename_i hw1
          rw [if_pos hw1]
          exact wpIn_swapK (Oper.wpIn_mono (fun a' w' h => hnext a' w' h) hrun)
        · rename_i hw1
          rw [if_neg hw1]
          exact ⟨fun _ _ => trivial, hnext _ _ hrun.2⟩
  refine key _ [] _ a w.drew (by simp) (fun j => ?_) (fun j hj => by cases hj) ?_ g0 hOk0 ha (by rw [hH0]; exact hw.drew)
  · constructor
    · intro h
      rw [Array.getD_eq_getD_getElem?, Array.getElem?_replicate] at h
      split at h <;> simp at h
    · intro h
      cases h
  · have := List.length_filter_le (fun j => !(Array.replicate ops.toArray.size false).getD j false) (List.range ops.length)
    simpa using this
end
end Go.Proofs.YtcmepdamemnbkaaDoor
namespace Go.Proofs.YtcmepdamemnbkaaDoor
open Go.RowKit
set_option linter.unusedVariables false
set_option linter.unusedSimpArgs false
def ovr : Nat → List (Nat × Value) → List Value → List Value
  | _, _, [] => []
  | i, ws, c :: cs => (match look i ws with
    | some v => v
    | none => c) :: ovr (i + 1) ws cs
theorem ovr_len (ws : List (Nat × Value)) : ∀ (cs : List Value) (i : Nat), (ovr i ws cs).length = cs.length
  | [], _ => rfl
  | c :: cs, i => by simp [ovr, ovr_len ws cs (i + 1)]
inductive SameLen : List Value → List Oper → Prop
  | nil : SameLen [] []
  | cons {cs : List Value} {o : Oper} {ops : List Oper} (h : SameLen cs ops) {c : Value} : SameLen (c :: cs) (o :: ops)
theorem SameLen.len {cs : List Value} {ops : List Oper} (h : SameLen cs ops) : cs.length = ops.length := by
  induction h with
  | nil => rfl
  | cons _ ih => simp [ih]
/-- what an operation has made: blocks, a row -/
structure GV where
  b : Nat
  c : Nat
  rr : RowR
def gv0 : GV := ⟨0, 0, none⟩
/-- nd: how many of the makers E an operation waits for (itself counted); U: what each maker waits for; g: what they have made so far -/
def okN (F : List GV → Prop) (nd E : List Nat) (U : List (List Nat)) (L : List Nat) (g : List GV) : Prop := g.length ≤ E.length ∧ (∀ j ∈ L, nd.getD j 0 ≤ g.length) ∧ (∀ k, k < g.length → E.getD k 0 ∈ L ∧ ∀ j ∈ U.getD k [], j ∈ L) ∧ F g
section
variable {P : Program} {ro : Option Nat} {n N : Nat} {ds : List Deferred} {w0 : World} {X : Nat → Prop} {Q : Exit → Act → World → Prop} {σ : Slots} {η : Hp} {ops : List Oper} {vs : List GV → List Value} {H : List GV → Hp} {nd E : List Nat} {U : List (List Nat)} {F : List GV → Prop}
def EPost (F : List GV → Prop) (N : Nat) (ds : List Deferred) (w0 : World) (X : Nat → Prop) (vs : List GV → List Value) (H : List GV → Hp) (i : Nat) (g : List GV) (d : Option Tmp) (σ : Slots) : Act → World → Prop := fun a w =>
  ∃ x : GV, (∃ v, nth i (vs (g ++ [x])) = some v ∧ SOK N ds (putS d v σ) a) ∧ WOK w0 X (H (g ++ [x])) w ∧ F (g ++ [x])
theorem xo_finE {i : Nat} {g : List GV} {d : Option Tmp} {σ : Slots} {v : Value} (x : GV) (hv : nth i (vs (g ++ [x])) = some v) (hF : F (g ++ [x])) : XO P ro n N ds w0 X (PostK (EPost F N ds w0 X vs H i g d σ)) ops (putS d v σ) (H (g ++ [x])) [] := by
  intro a w ha hw
  exact ⟨x, ⟨v, hv, ha⟩, hw, hF⟩
theorem DrawE.nil {i : Nat} : DrawG P ro n N ds w0 X ops vs H (okN F nd E U) σ i [] := trivial
theorem DrawE.pure {i : Nat} {o : Oper} {r : List Oper} (m u : Nat) (hm : nd.getD i 0 = m) (hu : u = E.length ∨ i ∈ U.getD u []) (hle : ∀ L g, okN F nd E U L g → (∀ j ∈ depOf o, j ∈ L) → m ≤ g.length)
    (hx : ∀ g, m ≤ g.length → g.length ≤ u → F g → ∀ τ, ∃ v, nth i (vs g) = some v ∧ XO P ro n N ds w0 X (OnePost N ds w0 X (H g) (putS o.dst v (flatS ops (vs g) (depOf o) σ ++ τ))) ops (flatS ops (vs g) (depOf o) σ ++ τ) (H g) [o])
    (t : DrawG P ro n N ds w0 X ops vs H (okN F nd E U) σ (i + 1) r) : DrawG P ro n N ds w0 X ops vs H (okN F nd E U) σ i (o :: r) := by
  refine ⟨fun L g hg hi hd τ => ?_, t⟩
  have hmg := hle L g hg hd
  have hok : okN F nd E U (i :: L) g := ⟨hg.1, fun j hj => by
    rcases List.mem_cons.1 hj with rfl | hj
    · rw [hm]; exact hmg
    · exact hg.2.1 j hj, fun k hk => ⟨List.mem_cons_of_mem _ (hg.2.2.1 k hk).1, fun j hj => List.mem_cons_of_mem _ ((hg.2.2.1 k hk).2 j hj)⟩, hg.2.2.2⟩
  have hgu : g.length ≤ u := by
    rcases hu with rfl | hu
    · exact hg.1
    · by_cases h : u < g.length
      · exact absurd ((hg.2.2.1 u h).2 i hu) hi
      · omega
  obtain ⟨v, hv, hx⟩ := hx g hmg hgu hg.2.2.2 τ
  intro a w ha hw
  have hr := hx a w ha hw
  unfold wpListIn at hr ⊢
  split at hr
  · rename_i hw1
    rw [if_pos hw1]
    exact wpIn_swap (Oper.wpIn_mono (fun a' w' h' => show wpListIn _ _ _ _ _ [] a' w' from ⟨g, hok, fun _ _ => rfl, ⟨v, hv, h'.1⟩, h'.2⟩) hr)
  · rename_i hw1
    rw [if_neg hw1]
    exact ⟨fun _ _ => trivial, ⟨g, hok, fun _ _ => rfl, ⟨v, hv, hr.2.1⟩, hr.2.2⟩⟩
theorem DrawE.eff {i : Nat} {o : Oper} {r : List Oper} (k : Nat) (hE : E.getD k 0 = i) (hk : k < E.length) (hnd : nd.getD i 0 = k + 1) (hU : ∀ j ∈ U.getD k [], j ∈ depOf o) (hst : ∀ j g a, nd.getD j 0 ≤ g.length → nth j (vs (g ++ [a])) = nth j (vs g))
    (hle : ∀ L g, okN F nd E U L g → (∀ j ∈ depOf o, j ∈ L) → k ≤ g.length)
    (hx : ∀ g, g.length = k → F g → ∀ τ, XO P ro n N ds w0 X (PostK (EPost F N ds w0 X vs H i g o.dst (flatS ops (vs g) (depOf o) σ ++ τ))) ops (flatS ops (vs g) (depOf o) σ ++ τ) (H g) [o])
    (t : DrawG P ro n N ds w0 X ops vs H (okN F nd E U) σ (i + 1) r) : DrawG P ro n N ds w0 X ops vs H (okN F nd E U) σ i (o :: r) := by
  refine ⟨fun L g hg hi hd τ => ?_, t⟩
  have hkg := hle L g hg hd
  have hgk : g.length = k := by
    by_cases h : k < g.length
    · exact absurd (hE ▸ (hg.2.2.1 k h).1) hi
    · omega
  have hh := hx g hgk hg.2.2.2 τ
  intro a w ha hw
  have hr := hh a w ha hw
  have key : ∀ a' w', EPost F N ds w0 X vs H i g o.dst (flatS ops (vs g) (depOf o) σ ++ τ) a' w' → GPost N ds w0 X ops vs H (okN F nd E U) i L g o.dst (flatS ops (vs g) (depOf o) σ ++ τ) a' w' := by
    rintro a' w' ⟨x, h1, h2, h3⟩
    refine ⟨g ++ [x], ⟨by simp; omega, fun j hj => ?_, fun q hq => ?_, h3⟩, fun j hj => hst j g x (hg.2.1 j hj), h1, h2⟩
    · rcases List.mem_cons.1 hj with rfl | hj
      · rw [hnd, List.length_append, List.length_singleton]; omega
      · have := hg.2.1 j hj; rw [List.length_append, List.length_singleton]; omega
    · by_cases e : q = k
      · subst e
        exact ⟨by rw [hE]; exact List.mem_cons_self .., fun j hj => List.mem_cons_of_mem _ (hd j (hU j hj))⟩
      · have := hg.2.2.1 q (by simp at hq; omega)
        exact ⟨List.mem_cons_of_mem _ this.1, fun j hj => List.mem_cons_of_mem _ (this.2 j hj)⟩
  unfold wpListIn at hr ⊢
  split at hr
  · rename_i hw1
    rw [if_pos hw1]
    exact wpIn_swapK (Oper.wpIn_mono (fun a' w' h' => show wpListIn _ _ _ _ _ [] a' w' from key a' w' h') hr)
  · rename_i hw1
    rw [if_neg hw1]
    exact ⟨fun _ _ => trivial, key _ _ hr.2⟩
theorem xc_drawE {id : Nat} (ws : List GV → List (Nat × Value)) (Hf : Hp → List GV → Hp) (F : List GV → Prop) (nd E : List Nat) (U : List (List Nat)) (hF0 : F []) {cs : List Value} (hlv : SameLen cs ops) (hH0 : Hf η [] = η) (hmix : P.follows .mixedOrders = true) (hbind : true = true) (hdeps : depsB 0 ops = true) (hdist : distB (dstsOf_ ops) = true) (hfresh : freshB σ (dstsOf_ ops) = true)
    (hE : E.all (fun e => Nat.blt e ops.length && decide (nd.getD e 0 = E.idxOf e + 1)) = true) (hEn : E.Nodup)
    (hop : DrawG P ro n N ds w0 X ops (fun g => ovr 0 (ws g) cs) (Hf η) (okN F nd E U) σ 0 ops) (hQ : ∀ g, g.length = E.length → F g → XQ N ds w0 X Q .normal (flatS ops (ovr 0 (ws g) cs) (List.range ops.length) σ) (Hf η g)) : XC P ro n N ds w0 X Q σ η (.region id ops.toArray true) := by
  refine xc_drawG (fun g => ovr 0 (ws g) cs) (Hf η) (okN F nd E U) [] ⟨Nat.zero_le _, by simp, by simp, hF0⟩ hH0 (fun g => (ovr_len ..).trans hlv.len) hmix hbind hdeps hdist hfresh hop fun L g hg hall => hQ g ?_ hg.2.2.2
  refine Nat.le_antisymm hg.1 ?_
  by_cases he : E.length = 0
  · omega
  · have hlt : E.length - 1 < E.length := by omega
    have h1 := List.all_eq_true.1 hE _ (List.getElem_mem hlt)
    rw [Bool.and_eq_true, decide_eq_true_eq, Nat.blt_eq] at h1
    have h2 := hg.2.1 _ (hall _ h1.1)
    rw [h1.2] at h2
    have h3 : E.idxOf E[E.length - 1] = E.length - 1 := hEn.idxOf_getElem _ hlt
    omega
end
end Go.Proofs.YtcmepdamemnbkaaDoor
namespace Go.Proofs.YtcmepdamemnbkaaDoor
open Go.RowKit Go.Proofs.YtcmepdamemnbkaaDoorW.PrintWords
set_option linter.unusedVariables false
set_option linter.unusedSimpArgs false
theorem flat_len {α : Type} (sz : Nat) : ∀ (cells : List (List α)), (∀ c ∈ cells, c.length = sz) → cells.flatten.length = cells.length * sz
  | [], _ => by simp
  | c :: r, h => by
    rw [List.flatten_cons, List.length_append, flat_len sz r (fun x hx => h x (List.mem_cons_of_mem _ hx)), h c (List.mem_cons_self ..), List.length_cons, Nat.add_mul]
    omega
theorem flat_at {α : Type} (sz : Nat) : ∀ (cells : List (List α)) (j i : Nat), (∀ c ∈ cells, c.length = sz) → i < sz → cells.flatten[j * sz + i]? = (cells[j]?).bind (·[i]?)
  | [], j, i, _, _ => by simp
  | c :: r, 0, i, h, hi => by
    have := h c (List.mem_cons_self ..)
    simp only [Nat.zero_mul, Nat.zero_add, List.flatten_cons, List.getElem?_cons_zero, Option.bind_some]
    rw [List.getElem?_append_left (by omega)]
  | c :: r, j + 1, i, h, hi => by
    have := h c (List.mem_cons_self ..)
    rw [List.flatten_cons, List.getElem?_append_right (by rw [this, Nat.add_mul]; omega), List.getElem?_cons_succ, ← flat_at sz r j i (fun x hx => h x (List.mem_cons_of_mem _ hx)) hi, this]
    congr 1
    rw [Nat.add_mul]
    omega
/-- a row of the call's own, as it is read -/
theorem C_row {α : Type} {d : Kd α} {w : World} {b cap : Nat} {e : TypeId} {xs : List α} {cells : List (List Value)} {o : Obj} (ho : w.heap[b]? = some o) (hr : orow e d.sz cells.length cap cells.flatten o) (hl : cells.length = xs.length) (hc : ∀ c ∈ cells, c.length = d.sz)
    (hK : ∀ (j : Nat) (x : α) (c : List Value), xs[j]? = some x → cells[j]? = some c → d.K w x c) (hm : xs.length ≤ 9223372036854775807) : Kd.C d w (some ⟨b, 0, none⟩) xs.length xs := by
  obtain ⟨cur, rfl, h5, h6, h7, h8⟩ := hr
  refine ⟨rfl, hm, fun _ => ⟨_, rfl, fun j x hj => ?_⟩⟩
  have hjl : j < cells.length := by have := (List.getElem?_eq_some_iff.1 hj).1; omega
  have hcj := List.getElem?_eq_getElem hjl
  refine ⟨cells[j], hc _ (List.getElem_mem hjl), hK j x _ hj hcj, ?_⟩
  intro i u hu
  have hi : i < d.sz := by have := (List.getElem?_eq_some_iff.1 hu).1; have := hc _ (List.getElem_mem hjl); omega
  have h9 := flat_at d.sz cells j i hc hi
  rw [hcj, Option.bind_some, hu, ← h8] at h9
  rw [List.getElem?_take] at h9
  split at h9
  · rw [Addr.add_lit, Nat.zero_add, cell_of_row w b _ _ e _ ho, ← Array.getElem?_toList]
    exact h9
  · cases h9
section
variable {P : Program} {ro : Option Nat} {n N : Nat} {ds : List Deferred} {w0 : World} {X : Nat → Prop} {Q : Exit → Act → World → Prop} {σ : Slots} {η : Hp} {ops rest : List Oper} {d : Option Tmp} {ty : TypeId} {pos : String} {aft : Array Edge} {g : Option (Nat × Bool)}
theorem xq_perm {e : Exit} {η' : Hp} (hp : List.Perm η η') (h : XQ N ds w0 X Q e σ η') : XQ N ds w0 X Q e σ η := fun a w ha hw => h a w ha (hw.perm hp)
end
end Go.Proofs.YtcmepdamemnbkaaDoor
namespace Go.Proofs.YtcmepdamemnbkaaDoor
open Go.RowKit Go.Proofs.YtcmepdamemnbkaaDoorW.PrintWords
set_option linter.unusedVariables false
set_option linter.unusedSimpArgs false
theorem pow62 {m : Nat} (h : m ≤ 61) : (2 : Int) ^ m ≤ 2305843009213693952 := by
  have h1 : (2 : Nat) ^ m ≤ 2 ^ 61 := Nat.pow_le_pow_right (by omega) h
  have h2 : ((2 ^ m : Nat) : Int) ≤ ((2 ^ 61 : Nat) : Int) := by exact_mod_cast h1
  simpa using h2
section
variable {P : Program} {ro : Option Nat} {n N : Nat} {ds : List Deferred} {w0 : World} {X : Nat → Prop} {Q : Exit → Act → World → Prop} {σ : Slots} {η : Hp} {ops rest : List Oper} {d : Option Tmp} {ty t t' : TypeId} {pos : String} {aft : Array Edge} {g : Option (Nat × Bool)}
theorem xo_shl1 {x y : Operand} {m : Nat} (hg : gS ops σ g = some true) (hx : ev σ x = some (.int .i64 1)) (hy : ev σ y = some (.int .i64 (m : Int))) (hm : m ≤ 61) (hN : dstOK N d = true)
    (h : XO P ro n N ds w0 X Q ops (putS d (.int .i64 ((2 ^ m : Nat) : Int)) σ) η rest) : XO P ro n N ds w0 X Q ops σ η (⟨d, .binOp .shl t x y t', ty, pos, aft, g⟩ :: rest) :=
  xo_val _ rfl hg hN (fun a w ha hw => by
    have h1 : min (m : Int).toNat IntKind.i64.bits = m := by simp [IntKind.bits]; omega
    have h2 := pow62 hm
    have h3 : (0 : Int) < 2 ^ m := Int.pow_pos (by omega)
    have h4 : IntKind.i64.wrap (2 ^ m) = (2 : Int) ^ m := IntWalk.i64_in _ ⟨by omega, by omega⟩
    simp only [execOp, ha.ev hx, ha.ev hy, eqGuard_shl, binOp_shl, Op.shift, Sem.run_bind, Sem.run_pure, Result.andThen_ok]
    rw [if_neg (by omega), h1]
    simp [h4]) h
theorem xo_shr {x y : Operand} {k m : Nat} (hg : gS ops σ g = some true) (hx : ev σ x = some (.int .i64 (k : Int))) (hy : ev σ y = some (.int .i64 (m : Int))) (hm : m ≤ 61) (hN : dstOK N d = true)
    (h : XO P ro n N ds w0 X Q ops (putS d (.int .i64 ((k / 2 ^ m : Nat) : Int)) σ) η rest) : XO P ro n N ds w0 X Q ops σ η (⟨d, .binOp .shr t x y t', ty, pos, aft, g⟩ :: rest) :=
  xo_val _ rfl hg hN (fun a w ha hw => by
    have h1 : min (m : Int).toNat IntKind.i64.bits = m := by simp [IntKind.bits]; omega
    have h3 : Int.fdiv (k : Int) (2 ^ m) = ((k / 2 ^ m : Nat) : Int) := by
      rw [Int.fdiv_eq_ediv_of_nonneg _ (by exact Int.le_of_lt (Int.pow_pos (by omega)))]
      simp
    simp only [execOp, ha.ev hx, ha.ev hy, eqGuard_shr, binOp_shr, Op.shift, Sem.run_bind, Sem.run_pure, Result.andThen_ok]
    rw [if_neg (by omega), h1]
    simp [h3]) h
theorem xo_and1 {x y : Operand} {k : Nat} (hg : gS ops σ g = some true) (hx : ev σ x = some (.int .i64 (k : Int))) (hy : ev σ y = some (.int .i64 1)) (hk : k < 9223372036854775808) (hN : dstOK N d = true)
    (h : XO P ro n N ds w0 X Q ops (putS d (.int .i64 ((k % 2 : Nat) : Int)) σ) η rest) : XO P ro n N ds w0 X Q ops σ η (⟨d, .binOp .and t x y t', ty, pos, aft, g⟩ :: rest) :=
  xo_val _ rfl hg hN (fun a w ha hw => by
    simp only [execOp, ha.ev hx, ha.ev hy, eqGuard_and, binOp_and, Op.intBits, Sem.run_bind, Sem.run_pure, Result.andThen_ok]
    have h1 : (BitVec.ofInt IntKind.i64.bits (k : Int) &&& BitVec.ofInt IntKind.i64.bits 1).toNat = k % 2 := by
      rw [BitVec.toNat_and]
      simp only [BitVec.toNat_ofInt, IntKind.bits]
      rw [show ((k : Int) % ((2 ^ 64 : Nat) : Int)).toNat = k by omega, show ((1 : Int) % ((2 ^ 64 : Nat) : Int)).toNat = 1 by decide, Nat.and_one_is_mod]
    have h2 : IntKind.i64.wrap ((k % 2 : Nat) : Int) = ((k % 2 : Nat) : Int) := IntWalk.i64_in _ ⟨by omega, by omega⟩
    rw [h1, h2]) h
end
/-- a row of whatever cells that a call made -/
def RowV (e : TypeId) (base : Nat) (w : World) (r : RowR) (xs : List Value) : Prop := (r = none → xs = []) ∧ ∀ p, r = some p → base ≤ p.1 ∧ ∃ o, w.heap[p.1]? = some o ∧ orow e 1 xs.length p.2 xs o
theorem WOK.rowV {w0 : World} {X : Nat → Prop} {η : Hp} {w w' : World} (h : WOK w0 X η w) (hb : Below w.heap.size w w') {e : TypeId} {r : RowR} {xs : List Value} (hr : RowV e w.heap.size w' r xs) : WOK w0 X (hpR e 1 r xs.length xs ++ η) w' := by
  cases r with
  | none => exact h.below hb
  | some p =>
    obtain ⟨h1, o, h2, h3⟩ := hr.2 p rfl
    exact h.more hb h1 h2 h3
theorem RowV.of {w0 : World} {η : Hp} {w : World} {e : TypeId} {r : RowR} {xs : List Value} (h : WOK w0 XNone (hpR e 1 r xs.length xs ++ η) w) (h0 : r = none → xs = []) : RowV e w0.heap.size w r xs := by
  refine ⟨h0, fun p hp => ?_⟩
  subst hp
  exact ⟨h.own (List.Mem.head _), h.bl (p.1, true, orow e 1 xs.length p.2 xs) (List.Mem.head _)⟩
end Go.Proofs.YtcmepdamemnbkaaDoor
namespace Go.Proofs.YtcmepdamemnbkaaDoor
open Go.RowKit Go.MapKept
set_option linter.unusedVariables false
set_option linter.unusedSimpArgs false
theorem erase_kv (x : Int) : ∀ (l : List (Int × Value)) (es : List MapEntry) (i : Nat) (j : Nat) (u : Value), es.map kvE = l.map kvI → Instr.findNow (.int .i64) (.int .i64 x) es i = some (some (i + j, u)) →
    (es.eraseIdx j).map kvE = (imDel x l).map kvI
  | [], [], i, j, u, _, h => by simp [Instr.findNow] at h
  | [], _ :: _, _, _, _, h, _ => by simp at h
  | _ :: _, [], _, _, _, h, _ => by simp at h
  | p :: r, e :: es, i, j, u, h, hf => by
    simp only [List.map_cons, List.cons.injEq] at h
    obtain ⟨h1, h2⟩ := h
    have hk : e.key = .int .i64 p.1 := congrArg Prod.fst h1
    by_cases hx : p.1 = x
    · have : j = 0 := by
        simp [Instr.findNow, Instr.sameNow, hk, hx] at hf
        omega
      subst this
      simp [imDel, hx, h2]
    · have hx' : (x == p.1) = false := by simpa using fun h => hx h.symm
      simp only [Instr.findNow, Instr.sameNow, hk, ↓reduceIte, hx'] at hf
      cases j with
      | zero =>
        exfalso
        rcases findNow_l x r es (i + 1) h2 with ⟨_, h3⟩ | ⟨j', v', e', _, h3, _, _⟩
        · rw [h3] at hf; simp at hf
        · rw [h3] at hf; simp at hf; omega
      | succ j =>
        have ih := erase_kv x r es (i + 1) j u h2 (by rw [hf]; congr 2; simp; omega)
        simp [imDel, hx, h1, ih]
theorem imDel_none (x : Int) : ∀ l : List (Int × Value), imGet x l = none → imDel x l = l
  | [], _ => rfl
  | p :: r, h => by
    by_cases hx : p.1 = x
    · simp [imGet, hx] at h
    · simp only [imGet, hx, if_false] at h
      simp only [imDel, hx, if_false]
      rw [imDel_none x r h]
theorem imDel_sub (x : Int) : ∀ l : List (Int × Value), (imDel x l).Sublist l
  | [] => List.Sublist.refl _
  | p :: r => by
    by_cases hx : p.1 = x
    · simp only [imDel, hx, if_true]; exact List.sublist_cons_self _ _
    · simp only [imDel, hx, if_false]; exact (imDel_sub x r).cons_cons p
section
variable {P : Program} {w : World} {t k e : TypeId} {b : Nat} {l : List (Int × Value)}
theorem IMap.del (h : IMap w b l) (ht : P.underlying t = some (.map k e)) (hk : P.underlying k = some (.int .i64)) (ty tk : TypeId) (x : Int) :
    ∃ o : Obj, (Builtin.delete_ #[t, tk] ty #[.map (some b), .int .i64 x]).run P w = .ok (.tuple #[]) (w.putObj b o) ∧ IMap (w.putObj b o) b (imDel x l) := by
  have hlt := h.lt
  obtain ⟨es, c, hb, hE⟩ := h
  have hkey : IsKey (.int .i64) (.int .i64 x) := rfl
  rcases findNow_l x l es.toList 0 hE.is with ⟨h1, h2⟩ | ⟨j, u, e', h1, h2, h3, h4⟩
  · refine ⟨.map es c, ?_, _, _, World.putObj_heap_same hlt, by rw [imDel_none x l h1]; exact hE⟩
    simp [Builtin.delete_, run_underlying ht, MapKept.run_getObj_map hb, run_checkKey hk hkey, run_findKey hk h2, MapKept.run_setObj_map _ hb, Result.andThen, World.putObj]
  · refine ⟨.map (es.eraseIdxIfInBounds j) c, ?_, _, _, World.putObj_heap_same hlt, ?_⟩
    · simp [Builtin.delete_, run_underlying ht, MapKept.run_getObj_map hb, run_checkKey hk hkey, run_findKey hk h2, MapKept.run_setObj_map _ hb, Result.andThen, World.putObj]
    · have htl : (es.eraseIdxIfInBounds j).toList = es.toList.eraseIdx j := by simp
      have hsub : ((es.eraseIdxIfInBounds j).toList).Sublist es.toList := by rw [htl]; exact List.eraseIdx_sublist ..
      exact ⟨by rw [htl]; exact erase_kv x l es.toList 0 j u hE.is (by simpa using h2), hE.keys.sublist ((imDel_sub x l).map _), fun e he => hE.born e (hsub.subset he), hE.once.sublist (hsub.map _)⟩
end
/-- a set without one of its keys -/
def delN (x : Int) (s : List Int) : List Int := s.erase x
theorem imDel_setV (x : Int) : ∀ s : List Int, imDel x (setV s) = setV (delN x s)
  | [] => rfl
  | y :: s => by
    have ih := imDel_setV x s
    unfold setV delN at *
    by_cases e : y = x
    · subst e; simp [imDel]
    · rw [List.erase_cons_tail (by simpa using e)]
      simp only [List.map_cons, imDel, e, if_false, ih]
section
variable {P : Program} {ro : Option Nat} {n N : Nat} {ds : List Deferred} {w0 : World} {X : Nat → Prop} {Q : Exit → Act → World → Prop} {σ : Slots} {η : Hp} {ops rest : List Oper} {d : Option Tmp} {ty : TypeId} {pos : String} {aft : Array Edge} {g : Option (Nat × Bool)}
theorem xo_sdel (T : Tys P) {t tk te tk' : TypeId} {m x : Operand} {b : Nat} {s : List Int} {k : Int} {η' : Hp} (hg : gS ops σ g = some true) (ht : look t T.mp = some (tk, te)) (hk : look tk T.ik = some .i64) (hm : ev σ m = some (.map (some b))) (hx : ev σ x = some (.int .i64 k)) (hb : (b, true, hmap (setV s)) ∈ η)
    (hU : Upd b (hmap (setV (delN k s))) η η') (hN : dstOK N d = true) (h : XO P ro n N ds w0 X Q ops (putS d (.tuple #[]) σ) η' rest) :
    XO P ro n N ds w0 X Q ops σ η (⟨d, .call { callee := .builtin .delete, args := #[m, x], argTypes := #[t, tk'] }, ty, pos, aft, g⟩ :: rest) :=
  xo_base rfl hg fun a w ha hw => by
    obtain ⟨o, h1, h2⟩ := (hw.imap hb).del (T.hmp _ (look_mem ht)) (T.hik _ (look_mem hk)) ty tk' k
    rw [imDel_setV] at h2
    obtain ⟨o', h3, h4⟩ := hmap_of h2
    refine ⟨.value (.tuple #[]), _, _, ?_, .inl rfl, h _ _ (ha.put hN _) (hw.upd hU (OneB.putObj w b o) h3 h4)⟩
    simp only [execOp, resolve, invoke, builtin, Sem.run_bind, Sem.run_pure, Result.andThen_ok, List.map_toArray, List.map_cons, List.map_nil, ha.ev hm, ha.ev hx, h1]
end
end Go.Proofs.YtcmepdamemnbkaaDoor
namespace Go.Proofs.YtcmepdamemnbkaaDoor
open Go.RowKit
set_option linter.unusedVariables false
set_option linter.unusedSimpArgs false
/-- an iterator: what it yields is one of S, of at most M -/
def IterS (P : Program) (g : Nat) (cs : List Value) (wB : World) (need : Nat → Prop) (S : List Int → Prop) (M : Nat) : Prop :=
  ∀ (w : World), wB.heap.size ≤ w.heap.size → (∀ k, need k → w.heap[k]? = wB.heap[k]?) → ∀ (K : Nat → Prop), (∀ k, need k → K k) → ∀ m : Nat,
    SeqStopsK Fence.wide m P g cs.toArray (fun x : Int => #[.int .i64 x]) (KpK K w.heap.size) S (fun _ => True) M w
section
variable {P : Program} {n N : Nat} {ds : List Deferred} {w0 : World} {Q : Exit → Act → World → Prop} {σ : Slots} {η : Hp}
theorem xc_rangeS {go : Operand} {p : Tmp} {assign body : Code} {gf : Nat} {cs : List Value} {S : List Int → Prop} {M : Nat} (hn : 3 ≤ n) (hg : ev σ go = some (.func (.func gf) #[] cs.toArray)) (eg : ∀ args w, (callFunc gf args).run P w = .ok (.enter gf args) w) (hp : Nat.blt p N = true)
    (K : Nat → Prop) (hKlt : ∀ w, WOK w0 XNone η w → ∀ k, K k → k < w.heap.size) (hseq : ∀ w, WOK w0 XNone η w → SeqStopsK Fence.wide (n - 1) P gf cs.toArray (fun x : Int => #[.int .i64 x]) (KpK K w.heap.size) S (fun _ => True) M w)
    {γ : Type} (C : List Int → γ → Prop) (H : List Int → γ → Hp) (g0 : γ) (hC0 : C [] g0) (hH0 : List.Sublist (H [] g0) η)
    (hcell : ∀ ys g, C ys g → ∀ e ∈ H ys g, (∀ o, e.2.2 o → o.isCells = true) ∨ ∃ e' ∈ η, e'.1 = e.1) (hwr : ∀ ys g, C ys g → ∀ e ∈ H ys g, e.2.1 = true → ¬ K e.1) (S1 : Int → Slots)
    (hassign : ∀ l x W, XC P (some l) (n - 1 - 1) N [] W XNone (Exit.then (fun a w => SOK N [] (S1 x) a ∧ Kx XNone W w) (fun _ _ _ => False)) ((p, .int .i64 x) :: σ) [] assign)
    (hbody : ∀ l ys x g W, C ys g → ys.length < M → WOK w0 XNone (H ys g) W → XC P (some l) (n - 1 - 1) N [] W (XW (H ys g)) (RoundPost N W (H ys g) fun w => ∃ g', C (ys ++ [x]) g' ∧ WOK W (XW (H ys g)) (H (ys ++ [x]) g') w) (S1 x) (H ys g) body)
    (hdone : ∀ D xs g, S xs → C xs g → XQ N (mark_ D :: ds) w0 XNone Q .normal σ ((D, true, hdef) :: H xs g)) : XC P none n N ds w0 XNone Q σ η (.rangeFunc go #[p] assign body) := by
  intro a w ha hw
  have hlt : ∀ e ∈ η, e.1 < w.heap.size := fun e he => hw.lt he
  have hsz := hw.kx.size
  -- the relation abides what the loop's own records do
  have hI : OwnFrom w.heap.size (fun (ys : List Int) W => w.heap.size ≤ W.heap.size ∧ ∃ g, C ys g ∧ WOK w0 XNone (H ys g) W) := by
    rintro ys A B row ⟨hszA, g, hg', hA⟩ hgr hrow
    have hne : ∀ e ∈ H ys g, some e.1 ≠ row := fun e he q => by
      obtain ⟨h1, o, h2, h3⟩ := hrow e.1 q.symm
      obtain ⟨o', h4, h5⟩ := hA.bl e he
      rw [h4] at h2
      cases h2
      rcases hcell ys g hg' e he with h6 | ⟨e', h6, h7⟩
      · rw [h6 _ h5] at h3; cases h3
      · have := hlt e' h6; omega
    refine ⟨Nat.le_trans hszA hgr.size, g, hg', ⟨hgr.os.trans hA.kx.os, hgr.tape.trans hA.kx.tape, hgr.output.trans hA.kx.output, Nat.le_trans hA.kx.size hgr.size, fun k hk hx => (hgr.block k (Nat.lt_of_lt_of_le hk hA.kx.size) (fun q => ?_)).trans (hA.kx.block k hk hx)⟩, ?_, hA.nd, hA.ow⟩
    · obtain ⟨h1, _⟩ := hrow k q.symm
      omega
    · intro e he
      obtain ⟨o, h1, h2⟩ := hA.bl e he
      exact ⟨o, (hgr.block _ (hA.lt he) (hne e he)).trans h1, h2⟩
  refine wpIn_rangeFunc_ownH (F := wideR none) (w := w) (w0 := w) rfl (by omega) (gf := gf) (lb := cs.toArray) (ha.ev hg) trivial eg (hseq w hw) (fun h k => h.trans k) ?_ (Below.refl _ _) (fun _ => rfl)
    (fun ys W => w.heap.size ≤ W.heap.size ∧ ∃ g, C ys g ∧ WOK w0 XNone (H ys g) W) (fun _ _ _ => False) hI (fun _ _ _ _ _ h _ _ => h) ⟨Nat.le_refl _, g0, hC0, hw.sub hH0⟩
    (fun x a' W => SOK N [] (S1 x) a') (fun x a' _ _ _ _ h _ _ => h) ?_ ?_ ?_ ?_
  · intro W l o o' hl ho hnc hnw
    refine ⟨fun k hk => World.putObj_heap_other (fun e => ?_), by simp, fun k o1 hk h1 h2 => (World.putObj_heap_other (fun e => ?_)).trans h1⟩
    · have := hKlt w hw k hk; omega
    · subst e
      rw [ho] at h1
      cases h1
      rw [hnw] at h2
      cases h2
  · rintro l pre x W K' ⟨hszW, g, hg', hA⟩ hk
    have hs : SOK N [] ((p, .int .i64 x) :: σ) { tmps := ((#[p] : Array Tmp).zip #[Value.int .i64 x]).foldl (fun t (q : Tmp × Value) => t.setIfInBounds q.1 q.2) a.tmps, defers := [] } := by
      have h1 := ha.put (d := some p) (by simpa [dstOK] using hp) (.int .i64 x)
      exact ⟨by simpa [Act.put] using h1.sz, fun i v hv => by simpa [Act.put] using h1.sl i v hv, rfl⟩
    refine wpIn_mono (hassign l x W _ W hs (WOK.start XNone W)) ?_
    intro e a' w' hq
    cases e with
    | normal =>
      obtain ⟨h1, h2⟩ := hq
      have hb := h2.below
      exact hk a' w' ⟨hb.size, fun k o _ ho _ => (hb.block k (Array.getElem?_eq_some_iff.1 ho).1).trans ho⟩ ⟨fun k hK => hb.block k (Nat.lt_of_lt_of_le (hKlt w hw k hK) hszW), hb.size, fun k o _ ho _ => (hb.block k (Array.getElem?_eq_some_iff.1 ho).1).trans ho⟩ ⟨Nat.le_trans hszW hb.size, g, hg', hA.below hb⟩ h1
    | exit id => exact hq
    | goto l => exact hq
    | ret => exact hq
    | panic c => exact hq
    | outgrown => exact hq
  · rintro l pre x a' W hl _ ⟨hszW, g, hg', hA⟩ hax hlen
    have hxw : ∀ k o, w.heap.size ≤ k → W.heap[k]? = some o → o.isCells = false → ¬ XW (H pre g) k := by
      rintro k o hk ho hnc ⟨e, he, hwr', rfl⟩
      obtain ⟨o', h4, h5⟩ := hA.bl e he
      rw [ho] at h4
      cases h4
      rcases hcell pre g hg' e he with h6 | ⟨e', h6, h7⟩
      · rw [h6 _ h5] at hnc; cases hnc
      · have := hlt e' h6; omega
    refine wpIn_mono (hbody l pre x g W hg' hlen hA a' W hax hA.wok) ?_
    intro e a1 w' hq
    cases e with
    | normal =>
      obtain ⟨g', hg2, h2⟩ := hq
      refine ⟨⟨h2.kx.size, fun k o hk ho hnc => (h2.kx.block k (Array.getElem?_eq_some_iff.1 ho).1 (hxw k o hk ho hnc)).trans ho⟩, ⟨fun k hK => h2.kx.block k (Nat.lt_of_lt_of_le (hKlt w hw k hK) hszW) ?_, h2.kx.size, fun k o hk ho hwk => (h2.kx.block k (Array.getElem?_eq_some_iff.1 ho).1 (hxw k o hk ho ?_)).trans ho⟩, Nat.le_trans hszW h2.kx.size, g', hg2, hA.back h2⟩
      · rintro ⟨e, he, hw1, rfl⟩
        exact hwr pre g hg' e he hw1 hK
      · cases o <;> first | rfl | cases hwk
    | exit id => exact hq.elim
    | goto l => exact hq.elim
    | ret => exact hq.elim
    | panic c => exact hq.elim
    | outgrown => exact hq.elim
  · rintro D ys W hD hS ⟨hszW, g, hg', hA⟩ hdf
    refine hdone D ys g hS hg' _ W ⟨ha.sz, ha.sl, by rw [ha.df]; rfl⟩ ⟨hA.kx, ?_, ?_, ?_⟩
    · intro e he
      rcases List.mem_cons.1 he with rfl | he
      · exact ⟨_, hdf, rfl⟩
      · exact hA.bl e he
    · simp only [List.map_cons, List.nodup_cons]
      refine ⟨fun hm => ?_, hA.nd⟩
      obtain ⟨e, he, q⟩ := List.mem_map.1 hm
      obtain ⟨o', h4, h5⟩ := hA.bl e he
      rw [q, hdf] at h4
      cases h4
      rcases hcell ys g hg' e he with h6 | ⟨e', h6, h7⟩
      · have := h6 _ h5; cases this
      · have := hlt e' h6; omega
    · intro e he hw1
      rcases List.mem_cons.1 he with rfl | he
      · exact .inl (Nat.le_trans hsz hD)
      · exact hA.ow e he hw1
  · intro D c pre W hD _ h _; exact h.elim
end
end Go.Proofs.YtcmepdamemnbkaaDoor
namespace Go.Proofs.YtcmepdamemnbkaaDoor
open Go.RowKit Go.MapKept
set_option linter.unusedVariables false
set_option linter.unusedSimpArgs false
/-- just these entries -/
def hmapE (es : Array MapEntry) (c : Nat) : HP := fun o => o = .map es c
/-- an iterator over the map in block b, which nothing has been laid into since -/
def hiter (b c : Nat) (seen : Array Nat) : HP := fun o => o = .mapIter (some b) c seen c
/-- one entry's shape told anew -/
inductive Rep (b : Nat) (φ' : HP) : Hp → Hp → Prop
  | head {wr : Bool} {φ : HP} {r : Hp} : Rep b φ' ((b, wr, φ) :: r) ((b, wr, φ') :: r)
  | tail {e : Nat × Bool × HP} {r r' : Hp} (h : Rep b φ' r r') : Rep b φ' (e :: r) (e :: r')
theorem Rep.app {b : Nat} {φ' : HP} {r r' : Hp} (h : Rep b φ' r r') : ∀ l : Hp, Rep b φ' (l ++ r) (l ++ r')
  | [] => h
  | e :: l => .tail (h.app l)
theorem Rep.keys {b : Nat} {φ' : HP} {η η' : Hp} (h : Rep b φ' η η') : η'.map (·.1) = η.map (·.1) := by
  induction h with
  | head => rfl
  | tail _ ih => simp [ih]
theorem Rep.mem {b : Nat} {φ' : HP} {η η' : Hp} (h : Rep b φ' η η') : ∀ e ∈ η', (∃ wr φ, e = (b, wr, φ') ∧ (b, wr, φ) ∈ η) ∨ e ∈ η := by
  induction h with
  | @head wr φ r =>
    intro e he
    rcases List.mem_cons.1 he with rfl | he
    · exact .inl ⟨wr, φ, rfl, List.mem_cons_self ..⟩
    · exact .inr (List.mem_cons_of_mem _ he)
  | tail _ ih =>
    intro e he
    rcases List.mem_cons.1 he with rfl | he
    · exact .inr (List.mem_cons_self ..)
    · rcases ih e he with ⟨wr, φ, h1, h2⟩ | h1
      · exact .inl ⟨wr, φ, h1, List.mem_cons_of_mem _ h2⟩
      · exact .inr (List.mem_cons_of_mem _ h1)
theorem WOK.rep {w0 : World} {X : Nat → Prop} {η η' : Hp} {w : World} (h : WOK w0 X η w) {b : Nat} {φ' : HP} (hR : Rep b φ' η η') {o : Obj} (ho : w.heap[b]? = some o) (hφ : φ' o) : WOK w0 X η' w := by
  refine ⟨h.kx, fun e he => ?_, by rw [hR.keys]; exact h.nd, fun e he hw => ?_⟩
  · rcases hR.mem e he with ⟨wr, φ, rfl, _⟩ | he
    · exact ⟨o, ho, hφ⟩
    · exact h.bl e he
  · rcases hR.mem e he with ⟨wr, φ, rfl, hm⟩ | he
    · exact h.ow (b, wr, φ) hm hw
    · exact h.ow e he hw
theorem hmapE_hmap {es : Array MapEntry} {c : Nat} {l : List (Int × Value)} (h : Ents es c l) {o : Obj} (ho : hmapE es c o) : hmap l o := ⟨es, c, ho, h⟩
section
variable {P : Program} {ro : Option Nat} {n N : Nat} {ds : List Deferred} {w0 : World} {X : Nat → Prop} {Q : Exit → Act → World → Prop} {σ : Slots} {η : Hp} {ops rest : List Oper} {d : Option Tmp} {ty : TypeId} {pos : String} {aft : Array Edge} {g : Option (Nat × Bool)}
theorem xq_rep {e : Exit} {b : Nat} {wr : Bool} {φ φ' : HP} {η' : Hp} (hm : (b, wr, φ) ∈ η) (hi : ∀ o, φ o → φ' o) (hR : Rep b φ' η η') (h : XQ N ds w0 X Q e σ η') : XQ N ds w0 X Q e σ η := fun a w ha hw => by
  obtain ⟨o, h1, h2⟩ := hw.bl _ hm
  exact h a w ha (hw.rep hR h1 (hi o h2))
theorem xo_rangeM (T : Tys P) {t tk te : TypeId} {m : Operand} {b : Nat} {wr : Bool} {l : List (Int × Value)} {η' : Array MapEntry → Nat → Hp} (hg : gS ops σ g = some true) (ht : look t T.mp = some (tk, te)) (hm : ev σ m = some (.map (some b))) (hb : (b, wr, hmap l) ∈ η) (hR : ∀ es c, Rep b (hmapE es c) η (η' es c)) (hN : dstOK N d = true)
    (h : ∀ r es c, Ents es c l → XO P ro n N ds w0 X Q ops (putS d (.pointer (some ⟨r, 0, none⟩)) σ) ((r, true, hiter b c #[]) :: η' es c) rest) : XO P ro n N ds w0 X Q ops σ η (⟨d, .range t m, ty, pos, aft, g⟩ :: rest) :=
  xo_base rfl hg fun a w ha hw => by
    obtain ⟨o, h1, es, c, rfl, hE⟩ := hw.bl _ hb
    have hw' := hw.rep (hR es c) h1 (φ' := hmapE es c) rfl
    refine ⟨_, w.alloc (.mapIter (some b) c #[] c), .pointer (some ⟨w.heap.size, 0, none⟩), ?_, .inl rfl, h w.heap.size es c hE _ _ (ha.put hN _) (hw'.alloc _ _ rfl)⟩
    have := run_range_map (P := P) w t tk te b es c (T.hmp _ (look_mem ht)) h1
    simp only [execOp, ha.ev hm, Sem.run_bind, this, Result.andThen_ok, Sem.run_pure]
theorem xo_next {x : Operand} {r b c : Nat} {wr : Bool} {es : Array MapEntry} {seen : Array Nat} {l : List (Int × Value)} {η' : Array Nat → Hp} (hg : gS ops σ g = some true) (hx : ev σ x = some (.pointer (some ⟨r, 0, none⟩))) (hr : (r, true, hiter b c seen) ∈ η) (hb : (b, wr, hmapE es c) ∈ η) (hE : Ents es c l) (hU : ∀ seen', Upd r (hiter b c seen') η (η' seen')) (hN : dstOK N d = true)
    (h0 : (∀ e ∈ es.toList, seen.contains e.born = true) → XO P ro n N ds w0 X Q ops (putS d (.tuple #[.bool false]) σ) η rest)
    (h1 : ∀ e ∈ es.toList, seen.contains e.born = false → XO P ro n N ds w0 X Q ops (putS d (.tuple #[.bool true, e.key, e.val]) σ) (η' (seen.push e.born)) rest) : XO P ro n N ds w0 X Q ops σ η (⟨d, .next x false, ty, pos, aft, g⟩ :: rest) :=
  xo_base rfl hg fun a w ha hw => by
    obtain ⟨o, h2, h3⟩ := hw.bl _ hr
    obtain ⟨o', h4, h5⟩ := hw.bl _ hb
    subst h3
    subst h5
    rcases run_next_at (P := P) w ty r b c c seen es c h2 h4 hE.born (Nat.le_refl _) with ⟨h6, hrun⟩ | ⟨e, he, w1, hw1, hrun⟩
    · refine ⟨_, w, .tuple #[.bool false], ?_, .inl rfl, h0 (fun e he => ?_) _ _ (ha.put hN _) hw⟩
      · simp only [execOp, ha.ev hx, Sem.run_bind, hrun, Result.andThen_ok, Sem.run_pure]
      · have : leftOf es seen = #[] := Array.eq_empty_of_size_eq_zero h6
        cases hc : seen.contains e.born with
        | true => rfl
        | false =>
          have hm : e ∈ (leftOf es seen).toList := by unfold leftOf; rw [Array.toList_filter, List.mem_filter]; exact ⟨he, by rw [hc]; rfl⟩
          rw [this] at hm
          simp at hm
    · unfold leftOf at he
      rw [Array.toList_filter, List.mem_filter] at he
      have hlt := hw.lt hr
      have hw1' : WOK w0 X η w1 := by
        rcases hw1 with rfl | rfl
        · exact hw
        · exact hw.drew
      have hsz : r < w1.heap.size := by rcases hw1 with rfl | rfl <;> exact hlt
      refine ⟨_, w1.putObj r (.mapIter (some b) c (seen.push e.born) c), .tuple #[.bool true, e.key, e.val], ?_, .inl rfl, h1 e he.1 (by simpa using he.2) _ _ (ha.put hN _) (hw1'.upd (hU _) (OneB.putObj w1 r _) (World.putObj_heap_same hsz) rfl)⟩
      simp only [execOp, ha.ev hx, Sem.run_bind, hrun, Result.andThen_ok, Sem.run_pure]
      rfl
theorem xo_entry {x : Operand} {r b c : Nat} {wr wr' : Bool} {es : Array MapEntry} {seen : Array Nat} {l : List (Int × Value)} {e : MapEntry} (hg : gS ops σ g = some true) (hx : ev σ x = some (.pointer (some ⟨r, 0, none⟩))) (hr : (r, wr', hiter b c (seen.push e.born)) ∈ η) (hb : (b, wr, hmapE es c) ∈ η) (hE : Ents es c l) (he : e ∈ es.toList) (hN : dstOK N d = true)
    (h : XO P ro n N ds w0 X Q ops (putS d (.tuple #[e.key, e.val]) σ) η rest) : XO P ro n N ds w0 X Q ops σ η (⟨d, .entry x, ty, pos, aft, g⟩ :: rest) :=
  xo_val _ rfl hg hN (fun a w ha hw => by
    obtain ⟨o, h2, h3⟩ := hw.bl _ hr
    obtain ⟨o', h4, h5⟩ := hw.bl _ hb
    subst h3
    subst h5
    have := run_entry_at (P := P) w r b c seen es c e h2 h4 he hE.once
    simp only [execOp, ha.ev hx, Sem.run_bind, this, Result.andThen_ok, Sem.run_pure]) h
end
/-- an entry of a set -/
theorem Ents.setV {es : Array MapEntry} {c : Nat} {s : List Int} (h : Ents es c (setV s)) {e : MapEntry} (he : e ∈ es.toList) : ∃ k, k ∈ s ∧ e.key = .int .i64 k ∧ e.val = .bool true := by
  have h1 : kvE e ∈ es.toList.map kvE := List.mem_map_of_mem he
  rw [h.is, Go.Proofs.YtcmepdamemnbkaaDoor.setV, List.map_map] at h1
  obtain ⟨k, hk, h2⟩ := List.mem_map.1 h1
  exact ⟨k, hk, (congrArg Prod.fst h2).symm, (congrArg Prod.snd h2).symm⟩
end Go.Proofs.YtcmepdamemnbkaaDoor
namespace Go.Proofs.YtcmepdamemnbkaaDoor
open Go.RowKit Go.MapKept
set_option linter.unusedVariables false
set_option linter.unusedSimpArgs false
section
variable {P : Program} {ro : Option Nat} {n N : Nat} {ds : List Deferred} {w0 : World} {X : Nat → Prop} {Q : Exit → Act → World → Prop} {σ : Slots} {η : Hp} {ops rest : List Oper} {d : Option Tmp} {ty : TypeId} {pos : String} {aft : Array Edge} {g : Option (Nat × Bool)}
theorem xo_lenM (T : Tys P) {m : Operand} {t tk te : TypeId} {b : Nat} {wr : Bool} {s : List Int} (hg : gS ops σ g = some true) (ht : look t T.mp = some (tk, te)) (hm : ev σ m = some (.map (some b))) (hb : (b, wr, hmap (setV s)) ∈ η) (hN : dstOK N d = true)
    (h : XO P ro n N ds w0 X Q ops (putS d (.int .i64 (s.length : Int)) σ) η rest) : XO P ro n N ds w0 X Q ops σ η (⟨d, .call { callee := .builtin .len, args := #[m], argTypes := #[t] }, ty, pos, aft, g⟩ :: rest) := by
  refine xo_bi (xs := [m]) (vs := [.map (some b)]) _ hg (by simp [evs, hm]) hN (fun w hw cs => ?_) h
  obtain ⟨o, h1, es, c, rfl, hE⟩ := hw.bl _ hb
  have hsz : es.size = s.length := by
    have := congrArg List.length hE.is
    simpa [setV] using this
  have hu := T.hmp _ (look_mem ht)
  simp only at hu h1
  simp [builtin, Builtin.len_, run_underlying hu, MapKept.run_getObj_map h1, Result.andThen, goInt, hsz]
end
end Go.Proofs.YtcmepdamemnbkaaDoor
namespace Go.Proofs.YtcmepdamemnbkaaDoor
open Go.RowKit Go.MapKept
set_option linter.unusedVariables false
set_option linter.unusedSimpArgs false
section
variable {P : Program} {ro : Option Nat} {n N : Nat} {ds : List Deferred} {w0 : World} {X : Nat → Prop} {Q : Exit → Act → World → Prop} {σ : Slots} {η : Hp} {ops rest : List Oper} {d : Option Tmp} {ty : TypeId} {pos : String} {aft : Array Edge} {g : Option (Nat × Bool)}
theorem xo_nilck {x : Operand} {p : Addr} (hg : gS ops σ g = some true) (hx : ev σ x = some (.pointer (some p))) (hN : dstOK N d = true) (h : XO P ro n N ds w0 X Q ops (putS d (.pointer (some p)) σ) η rest) :
    XO P ro n N ds w0 X Q ops σ η (⟨d, .nilCheck x, ty, pos, aft, g⟩ :: rest) :=
  xo_val _ rfl hg hN (fun a w ha hw => by simp [execOp, ha.ev hx]) h
theorem xo_iaA (T : Tys P) {t e : TypeId} {m k0 : Nat} {x ix : Operand} {p : Addr} {k : IntKind} {i : Int} (hg : gS ops σ g = some true) (hu : P.underlying t = some (.array m e)) (hk : look e T.tk = some k0) (hx : ev σ x = some (.pointer (some p))) (hi : ev σ ix = some (.int k i))
    (hb : 0 ≤ i ∧ i < (m : Int)) (hN : dstOK N d = true) (h : XO P ro n N ds w0 X Q ops (putS d (.pointer (some (p.add (i.toNat * szN k0)))) σ) η rest) : XO P ro n N ds w0 X Q ops σ η (⟨d, .indexAddr t x ix, ty, pos, aft, g⟩ :: rest) := by
  refine xo_val _ rfl hg hN (fun a w ha hw => ?_) h
  have h2 := (T.htk _ (look_mem hk)).2 w
  have hel : P.elem t = e := by simp [Program.elem, hu]
  have hal : P.arrayLen t = m := by simp [Program.arrayLen, hu]
  have := run_indexAt_array (P := P) (w := w) t p k i (by rw [hel, hal]; exact hu)
  rw [hal, if_pos hb, hel, h2] at this
  simp only [Result.andThen_ok] at this
  simp [execOp, ha.ev hx, ha.ev hi, this, szN]
theorem xo_look2 (T : Tys P) {t tk te : TypeId} {m x : Operand} {b : Nat} {wr : Bool} {l : List (Int × Value)} {k : Int} {z v : Value} {q : Bool} (hg : gS ops σ g = some true) (ht : look t T.mp = some (tk, te)) (hk : look tk T.ik = some .i64) (hz : look te T.zs = some z) (hm : ev σ m = some (.map (some b))) (hx : ev σ x = some (.int .i64 k))
    (hb : (b, wr, hmap l) ∈ η) (hv : (imGet k l).getD z = v) (hq : (imGet k l).isSome = q) (hN : dstOK N d = true) (h : XO P ro n N ds w0 X Q ops (putS d (.tuple #[v, .bool q]) σ) η rest) :
    XO P ro n N ds w0 X Q ops σ η (⟨d, .lookup t m x true, ty, pos, aft, g⟩ :: rest) :=
  xo_val _ rfl hg hN (fun a w ha hw => by
    have := (hw.imap hb).look (P := P) (T.hmp _ (look_mem ht)) (T.hik _ (look_mem hk)) (T.hzs _ (look_mem hz) w) k
    rw [hv, hq] at this
    simp [execOp, ha.ev hm, ha.ev hx, this]) h
theorem xc_sub {c : Code} {η' : Hp} (hs : List.Sublist η' η) (h : XC P ro n N ds w0 X Q σ η' c) : XC P ro n N ds w0 X Q σ η c := fun a w ha hw => h a w ha (hw.sub hs)
/-- entries that are not seen yet -/
def unseen (es : Array MapEntry) (seen : Array Nat) : Nat := es.toList.countP fun e => !seen.contains e.born
theorem unseen_lt {es : Array MapEntry} {seen : Array Nat} {e : MapEntry} (he : e ∈ es.toList) (hns : seen.contains e.born = false) : unseen es (seen.push e.born) < unseen es seen := by
  unfold unseen
  have key : ∀ l : List MapEntry, e ∈ l → (l.countP fun e => !(seen.push (e : MapEntry).born).contains e.born) ≤ (l.countP fun x => !seen.contains x.born) → True := fun _ _ _ => trivial
  have mono : ∀ l : List MapEntry, (l.countP fun x => !(seen.push e.born).contains x.born) ≤ l.countP fun x => !seen.contains x.born := fun l =>
    List.countP_mono_left fun x _ h => by simp at h ⊢; exact h.1
  have step : ∀ l : List MapEntry, e ∈ l → (l.countP fun x => !(seen.push e.born).contains x.born) < l.countP fun x => !seen.contains x.born := by
    intro l
    induction l with
    | nil => intro h; cases h
    | cons y l ih =>
      intro h
      rw [List.countP_cons, List.countP_cons]
      rcases List.mem_cons.1 h with rfl | h
      · have := mono l
        rw [if_neg (by simp), if_pos (by rw [hns]; rfl)]
        omega
      · have := ih h
        have h2 : (if (!(seen.push e.born).contains y.born) = true then 1 else 0) ≤ (if (!seen.contains y.born) = true then 1 else 0) := by
          by_cases q : seen.contains y.born = true
          · rw [if_neg (by simp at q ⊢; intro h; exact absurd q h), if_neg (by rw [q]; simp)]
            omega
          · rw [if_pos (show (!seen.contains y.born) = true by simpa using q)]
            split <;> omega
        omega
  exact step _ he
/-- blocks that a call has laid -/
theorem WOK.join {η ζ : Hp} {w w' : World} (h : WOK w0 X η w) (k : WOK w XNone ζ w') (hz : ∀ e ∈ ζ, e.2.1 = true) : WOK w0 X (ζ ++ η) w' := by
  have hb := h.below k.kx.below
  have hfr : ∀ e ∈ ζ, w.heap.size ≤ e.1 := fun e he => (k.ow e he (hz e he)).resolve_right (fun q => q)
  refine ⟨hb.kx, fun e he => ?_, ?_, fun e he hw => ?_⟩
  · rcases List.mem_append.1 he with he | he
    · exact k.bl e he
    · exact hb.bl e he
  · rw [List.map_append, List.nodup_append]
    refine ⟨k.nd, hb.nd, fun a ha b hb' e => ?_⟩
    obtain ⟨x, hx, rfl⟩ := List.mem_map.1 ha
    obtain ⟨y, hy, rfl⟩ := List.mem_map.1 hb'
    have h1 := hfr x hx
    have h2 := h.lt hy
    omega
  · rcases List.mem_append.1 he with he | he
    · exact .inl (Nat.le_trans h.kx.size (hfr e he))
    · exact hb.ow e he hw
end
end Go.Proofs.YtcmepdamemnbkaaDoor
namespace Go.Proofs.YtcmepdamemnbkaaDoor
open Go.RowKit Go.Proofs.YtcmepdamemnbkaaDoorW.PrintWords
set_option linter.unusedVariables false
set_option linter.unusedSimpArgs false
abbrev MovT := S54
abbrev movK : Kd MovT := k54
abbrev zMov : MovT := z54
def movV (x : MovT) : List Value := [.int .i64 x.f0, .int .i64 x.f1, .int .u8 x.f2, .int .i64 x.f3]
theorem mov_at {w : World} {A : Option Addr} {n : Nat} {r : List MovT} (h : Kd.C movK w A n r) (k : Nat) (hk : k < n) :
    ∃ ad, A = some ad ∧ RO w XNone (ad.add ((k : Int).toNat * szN 4)) (movV (r.getD k zMov)) := by
  obtain ⟨ad, cs, e, _, hK, hR⟩ := at_of h zMov k hk
  obtain rfl := k54_open hK
  exact ⟨ad, e, hR⟩
def BytesM (m : List MovT) : Prop := ∀ x ∈ m, 0 ≤ x.f2 ∧ x.f2 ≤ 255
/-- what a batch holds: made, returned, tested, sold, scrapped, left -/
structure StT where
  a : Int
  b : Int
  c : Int
  d : Int
  e : Int
  l : Int
def stV (s : StT) : List Value := [.int .i64 s.a, .int .i64 s.b, .int .i64 s.c, .int .i64 s.d, .int .i64 s.e, .int .i64 s.l]
def st0 : StT := ⟨0, 0, 0, 0, 0, 0⟩
def stStep (s : StT) (k n : Int) : StT :=
  if k = 1 then { s with a := s.a + n, l := s.l + n } else if k = 2 then { s with b := s.b + n, l := s.l + n } else if k = 3 then { s with c := s.c + n, l := s.l - n } else if k = 4 then { s with d := s.d + n, l := s.l - n } else { s with e := s.e + n, l := s.l - n }
def storeF (m : List MovT) (id : Int) : StT := m.foldl (fun s x => if x.f1 = id then stStep s x.f2 x.f3 else s) st0
theorem storeF_succ {m : List MovT} {k : Nat} (hk : k < m.length) (id : Int) : storeF (m.take (k + 1)) id = if (m.getD k zMov).f1 = id then stStep (storeF (m.take k) id) (m.getD k zMov).f2 (m.getD k zMov).f3 else storeF (m.take k) id := by
  have h1 : m.getD k zMov = m[k] := by simp [List.getD_eq_getElem?_getD, List.getElem?_eq_getElem hk]
  rw [h1, storeF, List.take_succ_eq_append_getElem hk, List.foldl_append]
  rfl
/-- all numbers are small -/
def StB (s : StT) (B : Int) : Prop := (-B ≤ s.a ∧ s.a ≤ B) ∧ (-B ≤ s.b ∧ s.b ≤ B) ∧ (-B ≤ s.c ∧ s.c ≤ B) ∧ (-B ≤ s.d ∧ s.d ≤ B) ∧ (-B ≤ s.e ∧ s.e ≤ B) ∧ (-B ≤ s.l ∧ s.l ≤ B)
theorem StB.step {s : StT} {B C k n : Int} (h : StB s B) (hn : 0 ≤ n ∧ n ≤ C) : StB (stStep s k n) (B + C) := by
  unfold StB at *
  unfold stStep
  (repeat' split) <;> simp only <;> omega
theorem StB.mono {s : StT} {B C : Int} (h : StB s B) (hn : B ≤ C) : StB s C := by
  unfold StB at *
  omega
theorem storeF_B {m : List MovT} (h : ∀ x ∈ m, 1 ≤ x.f3 ∧ x.f3 ≤ 100000) (id : Int) : StB (storeF m id) (100000 * (m.length : Int)) := by
  unfold storeF
  have key : ∀ (m : List MovT) (s : StT) (B : Int), (∀ x ∈ m, 1 ≤ x.f3 ∧ x.f3 ≤ 100000) → StB s B → StB (m.foldl (fun s x => if x.f1 = id then stStep s x.f2 x.f3 else s) s) (B + 100000 * (m.length : Int)) := by
    intro m
    induction m with
    | nil => intro s B _ hs; simpa using hs
    | cons x m ih =>
      intro s B hx hs
      have h1 := hx x (List.mem_cons_self ..)
      have h2 : StB (if x.f1 = id then stStep s x.f2 x.f3 else s) (B + 100000) := by
        split
        · exact hs.step ⟨by omega, h1.2⟩
        · exact hs.mono (by omega)
      have h3 := ih _ _ (fun y hy => hx y (List.mem_cons_of_mem _ hy)) h2
      rw [List.foldl_cons]
      exact h3.mono (by simp only [List.length_cons]; omega)
  have := key m st0 0 h (by unfold StB st0; simp)
  simpa using this
/-- where batches' stores lie: by the map, and in memory -/
def stM (L : List (Int × Nat)) : List (Int × Value) := L.map fun p => (p.1, .pointer (some ⟨p.2, 0, none⟩))
def stH (f : Int → StT) (L : List (Int × Nat)) : Hp := L.map fun p => (p.2, true, cel (stV (f p.1)) 27)
theorem stM_app (L K : List (Int × Nat)) : stM (L ++ K) = stM L ++ stM K := List.map_append ..
theorem imGet_stM {L : List (Int × Nat)} {id : Int} : (∃ b, (id, b) ∈ L ∧ imGet id (stM L) = some (.pointer (some ⟨b, 0, none⟩))) ∨ (id ∉ L.map (·.1) ∧ imGet id (stM L) = none) := by
  induction L with
  | nil => right; simp [stM, imGet]
  | cons p L ih =>
    by_cases e : p.1 = id
    · left
      refine ⟨p.2, by rw [← e]; exact List.mem_cons_self .., by simp [stM, imGet, e]⟩
    · rcases ih with ⟨b, h1, h2⟩ | ⟨h1, h2⟩
      · left
        refine ⟨b, List.mem_cons_of_mem _ h1, ?_⟩
        simp only [stM, List.map_cons, imGet, e, if_false]
        exact h2
      · right
        refine ⟨?_, ?_⟩
        · simp only [List.map_cons, List.mem_cons, not_or]
          exact ⟨fun q => e q.symm, h1⟩
        · simp only [stM, List.map_cons, imGet, e, if_false]
          exact h2
theorem imSet_stM {L : List (Int × Nat)} {id : Int} {b : Nat} (h : id ∉ L.map (·.1)) : imSet id (.pointer (some ⟨b, 0, none⟩)) (stM L) = stM (L ++ [(id, b)]) := by
  rcases imGet_stM (L := L) (id := id) with ⟨b, h1, _⟩ | ⟨_, h2⟩
  · exact absurd (List.mem_map.2 ⟨_, h1, rfl⟩) h
  · rcases imSet_keys id (.pointer (some ⟨b, 0, none⟩)) (stM L) with ⟨_, h3, _⟩ | ⟨_, h3⟩
    · rw [h3, stM_app]; rfl
    · rw [h2] at h3; cases h3
theorem stH_mem {f : Int → StT} {L : List (Int × Nat)} {id : Int} {b : Nat} (h : (id, b) ∈ L) : (b, true, cel (stV (f id)) 27) ∈ stH f L := List.mem_map.2 ⟨_, h, rfl⟩
theorem stH_upd {f f' : Int → StT} : ∀ {L : List (Int × Nat)} {id : Int} {b : Nat}, (id, b) ∈ L → (L.map (·.1)).Nodup → (∀ k, k ≠ id → f' k = f k) → Upd b (cel (stV (f' id)) 27) (stH f L) (stH f' L)
  | p :: L, id, b, h, hn, hf => by
    rw [List.map_cons, List.nodup_cons] at hn
    rcases List.mem_cons.1 h with e | h
    · have hp1 : p.1 = id := congrArg Prod.fst e.symm
      have hp2 : p.2 = b := congrArg Prod.snd e.symm
      have hrest : stH f' L = stH f L := List.map_congr_left fun q hq => by
        rw [hf q.1 (fun e => hn.1 (by rw [hp1, ← e]; exact List.mem_map.2 ⟨q, hq, rfl⟩))]
      show Upd b _ ((p.2, true, cel (stV (f p.1)) 27) :: stH f L) ((p.2, true, cel (stV (f' p.1)) 27) :: stH f' L)
      rw [hrest, hp1, hp2]
      exact Upd.head
    · have hne : p.1 ≠ id := fun e => hn.1 (by rw [e]; exact List.mem_map.2 ⟨_, h, rfl⟩)
      show Upd b _ ((p.2, true, cel (stV (f p.1)) 27) :: stH f L) ((p.2, true, cel (stV (f' p.1)) 27) :: stH f' L)
      rw [hf p.1 hne]
      exact Upd.tail (stH_upd h hn.2 hf)
theorem Upd.front {b : Nat} {φ' : HP} {r r' : Hp} (h : Upd b φ' r r') : ∀ l : Hp, Upd b φ' (r ++ l) (r' ++ l) := fun l => by
  induction h with
  | head => exact Upd.head
  | tail _ ih => exact Upd.tail ih
theorem stH_true {f : Int → StT} {L : List (Int × Nat)} : ∀ e ∈ stH f L, e.2.1 = true := fun e he => by
  obtain ⟨p, _, rfl⟩ := List.mem_map.1 he
  rfl
/-- the batches among records -/
def batchesF (r : List RecT) : List Int := (r.filter fun x => decide (x.f1 = 3)).map fun x => x.f0
def okS (s : StT) : Bool := !(decide (s.d < s.b) || decide (s.l < 0))
def movesL (bs : List Int) : Int → Int → List MovT → Bool
  | _, _, [] => true
  | last, i, x :: l => (decide (x.f1 ∈ bs) && inF (last + 1) 9999 x.f0 && inF 1 5 x.f2 && inF 1 100000 x.f3 && !decide (40 ≤ i)) && movesL bs x.f0 (i + 1) l
def countF (r : List RecT) (m : List MovT) : Bool := movesL (batchesF r) (-1) 0 m && (batchesF r).all fun id => okS (storeF m id)
theorem batchesF_take {r : List RecT} {k : Nat} (hk : k < r.length) : batchesF (r.take (k + 1)) = batchesF (r.take k) ++ (if (r.getD k zRec).f1 = 3 then [(r.getD k zRec).f0] else []) := by
  have h1 : r.getD k zRec = r[k] := by simp [List.getD_eq_getElem?_getD, List.getElem?_eq_getElem hk]
  rw [h1, batchesF, List.take_succ_eq_append_getElem hk, List.filter_append, List.map_append]
  congr 1
  by_cases e : r[k].f1 = 3
  · simp [e]
  · simp [e]
theorem movesL_mem {bs : List Int} : ∀ (m : List MovT) (last i : Int), movesL bs last i m = true → ∀ x ∈ m, x.f1 ∈ bs ∧ (1 ≤ x.f2 ∧ x.f2 ≤ 5) ∧ (1 ≤ x.f3 ∧ x.f3 ≤ 100000)
  | [], _, _, _, x, hx => by cases hx
  | y :: m, last, i, h, x, hx => by
    rw [movesL] at h
    simp only [Bool.and_eq_true, decide_eq_true_eq, inF] at h
    rcases List.mem_cons.1 hx with rfl | hx
    · exact ⟨h.1.1.1.1.1, h.1.1.1.2, h.1.1.2⟩
    · exact movesL_mem m _ _ h.2 x hx
theorem movesL_len {bs : List Int} : ∀ (m : List MovT) (last i : Int), movesL bs last i m = true → i + (m.length : Int) ≤ 40 ∨ m = []
  | [], _, _, _ => .inr rfl
  | y :: m, last, i, h => by
    left
    rw [movesL] at h
    simp only [Bool.and_eq_true, Bool.not_eq_true', decide_eq_false_iff_not] at h
    rcases movesL_len m _ _ h.2 with h1 | rfl
    · simp only [List.length_cons]; omega
    · simp; omega
end Go.Proofs.YtcmepdamemnbkaaDoor
namespace Go.Proofs.YtcmepdamemnbkaaDoor
open Go.RowKit Go.Proofs.YtcmepdamemnbkaaDoorW.PrintWords
set_option linter.unusedVariables false
set_option linter.unusedSimpArgs false
theorem WOK.start1 {w : World} {b : Nat} {φ : HP} {o : Obj} (h1 : w.heap[b]? = some o) (h2 : φ o) : WOK w (fun q => q = b) [(b, true, φ)] w := by
  refine ⟨Kx.refl _ w, ?_, by simp, ?_⟩
  · intro e he
    simp only [List.mem_singleton] at he
    subst he
    exact ⟨o, h1, h2⟩
  · intro e he _
    simp only [List.mem_singleton] at he
    subst he
    exact .inr rfl
theorem adds1_calls (s : StT) (B n : Int) (hB : StB s B) (hB1 : B ≤ 1000000000) (hn : 0 ≤ n ∧ n ≤ 1000000) (b : Nat) (w : World) (o : Obj) (h1 : w.heap[b]? = some o) (h2 : cel (stV s) 27 o) :
    Calls Tryd.prog 122 #[.pointer (some ⟨b, 0, none⟩), .int .i64 n] w fun e w' => e = .returned (.tuple #[]) ∧ Kx (fun q => q = b) w w' ∧ ∃ o', w'.heap[b]? = some o' ∧ cel (stV (stStep s 1 n)) 27 o' := by
  unfold StB at hB
  refine x_callsH (X := fun q => q = b) Tryd.func122 rfl rfl rfl (WOK.start1 h1 h2) ?_
  with_reducible repeat refine xc_seq ?_
  with_reducible refine xc_region ?_
  refine xo_mv rfl rfl rfl ?_
  refine xo_nilck rfl rfl rfl ?_
  refine xo_fa T_ rfl rfl rfl rfl rfl ?_
  refine xo_load0 T_ rfl rfl rfl (by repeat (first | exact List.Mem.head _ | apply List.Mem.tail | apply List.mem_append_right)) rfl rfl ?_
  refine xo_mv rfl rfl rfl ?_
  refine xo_add rfl rfl rfl (by omega) rfl ?_
  refine xo_nilck rfl rfl rfl ?_
  refine xo_fa T_ rfl rfl rfl rfl rfl ?_
  refine xo_store T_ rfl rfl rfl rfl (by repeat (first | exact List.Mem.head _ | apply List.Mem.tail | apply List.mem_append_right)) rfl rfl rfl rfl (by repeat (first | exact Upd.head | apply Upd.tail | apply Upd.app)) rfl ?_
  with_reducible refine xo_nil ?_
  with_reducible repeat (first | refine xq_then ?_ | refine xq_blockN ?_ | refine xq_scopeN ?_)
  with_reducible repeat refine xc_seq ?_
  with_reducible refine xc_region ?_
  refine xo_mv rfl rfl rfl ?_
  refine xo_nilck rfl rfl rfl ?_
  refine xo_fa T_ rfl rfl rfl rfl rfl ?_
  refine xo_load0 T_ rfl rfl rfl (by repeat (first | exact List.Mem.head _ | apply List.Mem.tail | apply List.mem_append_right)) rfl rfl ?_
  refine xo_mv rfl rfl rfl ?_
  refine xo_add rfl rfl rfl (by omega) rfl ?_
  refine xo_nilck rfl rfl rfl ?_
  refine xo_fa T_ rfl rfl rfl rfl rfl ?_
  refine xo_store T_ rfl rfl rfl rfl (by repeat (first | exact List.Mem.head _ | apply List.Mem.tail | apply List.mem_append_right)) rfl rfl rfl rfl (by repeat (first | exact Upd.head | apply Upd.tail | apply Upd.app)) rfl ?_
  with_reducible refine xo_nil ?_
  with_reducible repeat (first | refine xq_then ?_ | refine xq_blockN ?_ | refine xq_scopeN ?_)
  exact xq_end0 rfl fun w' hw => ⟨rfl, hw.kx, hw.bl (b, true, cel (stV (stStep s 1 n)) 27) (List.Mem.head _)⟩
theorem adds2_calls (s : StT) (B n : Int) (hB : StB s B) (hB1 : B ≤ 1000000000) (hn : 0 ≤ n ∧ n ≤ 1000000) (b : Nat) (w : World) (o : Obj) (h1 : w.heap[b]? = some o) (h2 : cel (stV s) 27 o) :
    Calls Tryd.prog 123 #[.pointer (some ⟨b, 0, none⟩), .int .i64 n] w fun e w' => e = .returned (.tuple #[]) ∧ Kx (fun q => q = b) w w' ∧ ∃ o', w'.heap[b]? = some o' ∧ cel (stV (stStep s 2 n)) 27 o' := by
  unfold StB at hB
  refine x_callsH (X := fun q => q = b) Tryd.func123 rfl rfl rfl (WOK.start1 h1 h2) ?_
  with_reducible repeat refine xc_seq ?_
  with_reducible refine xc_region ?_
  refine xo_mv rfl rfl rfl ?_
  refine xo_nilck rfl rfl rfl ?_
  refine xo_fa T_ rfl rfl rfl rfl rfl ?_
  refine xo_load0 T_ rfl rfl rfl (by repeat (first | exact List.Mem.head _ | apply List.Mem.tail | apply List.mem_append_right)) rfl rfl ?_
  refine xo_mv rfl rfl rfl ?_
  refine xo_add rfl rfl rfl (by omega) rfl ?_
  refine xo_nilck rfl rfl rfl ?_
  refine xo_fa T_ rfl rfl rfl rfl rfl ?_
  refine xo_store T_ rfl rfl rfl rfl (by repeat (first | exact List.Mem.head _ | apply List.Mem.tail | apply List.mem_append_right)) rfl rfl rfl rfl (by repeat (first | exact Upd.head | apply Upd.tail | apply Upd.app)) rfl ?_
  with_reducible refine xo_nil ?_
  with_reducible repeat (first | refine xq_then ?_ | refine xq_blockN ?_ | refine xq_scopeN ?_)
  with_reducible repeat refine xc_seq ?_
  with_reducible refine xc_region ?_
  refine xo_mv rfl rfl rfl ?_
  refine xo_nilck rfl rfl rfl ?_
  refine xo_fa T_ rfl rfl rfl rfl rfl ?_
  refine xo_load0 T_ rfl rfl rfl (by repeat (first | exact List.Mem.head _ | apply List.Mem.tail | apply List.mem_append_right)) rfl rfl ?_
  refine xo_mv rfl rfl rfl ?_
  refine xo_add rfl rfl rfl (by omega) rfl ?_
  refine xo_nilck rfl rfl rfl ?_
  refine xo_fa T_ rfl rfl rfl rfl rfl ?_
  refine xo_store T_ rfl rfl rfl rfl (by repeat (first | exact List.Mem.head _ | apply List.Mem.tail | apply List.mem_append_right)) rfl rfl rfl rfl (by repeat (first | exact Upd.head | apply Upd.tail | apply Upd.app)) rfl ?_
  with_reducible refine xo_nil ?_
  with_reducible repeat (first | refine xq_then ?_ | refine xq_blockN ?_ | refine xq_scopeN ?_)
  exact xq_end0 rfl fun w' hw => ⟨rfl, hw.kx, hw.bl (b, true, cel (stV (stStep s 2 n)) 27) (List.Mem.head _)⟩
theorem adds3_calls (s : StT) (B n : Int) (hB : StB s B) (hB1 : B ≤ 1000000000) (hn : 0 ≤ n ∧ n ≤ 1000000) (b : Nat) (w : World) (o : Obj) (h1 : w.heap[b]? = some o) (h2 : cel (stV s) 27 o) :
    Calls Tryd.prog 124 #[.pointer (some ⟨b, 0, none⟩), .int .i64 n] w fun e w' => e = .returned (.tuple #[]) ∧ Kx (fun q => q = b) w w' ∧ ∃ o', w'.heap[b]? = some o' ∧ cel (stV (stStep s 3 n)) 27 o' := by
  unfold StB at hB
  refine x_callsH (X := fun q => q = b) Tryd.func124 rfl rfl rfl (WOK.start1 h1 h2) ?_
  with_reducible repeat refine xc_seq ?_
  with_reducible refine xc_region ?_
  refine xo_mv rfl rfl rfl ?_
  refine xo_nilck rfl rfl rfl ?_
  refine xo_fa T_ rfl rfl rfl rfl rfl ?_
  refine xo_load0 T_ rfl rfl rfl (by repeat (first | exact List.Mem.head _ | apply List.Mem.tail | apply List.mem_append_right)) rfl rfl ?_
  refine xo_mv rfl rfl rfl ?_
  refine xo_add rfl rfl rfl (by omega) rfl ?_
  refine xo_nilck rfl rfl rfl ?_
  refine xo_fa T_ rfl rfl rfl rfl rfl ?_
  refine xo_store T_ rfl rfl rfl rfl (by repeat (first | exact List.Mem.head _ | apply List.Mem.tail | apply List.mem_append_right)) rfl rfl rfl rfl (by repeat (first | exact Upd.head | apply Upd.tail | apply Upd.app)) rfl ?_
  with_reducible refine xo_nil ?_
  with_reducible repeat (first | refine xq_then ?_ | refine xq_blockN ?_ | refine xq_scopeN ?_)
  with_reducible repeat refine xc_seq ?_
  with_reducible refine xc_region ?_
  refine xo_mv rfl rfl rfl ?_
  refine xo_nilck rfl rfl rfl ?_
  refine xo_fa T_ rfl rfl rfl rfl rfl ?_
  refine xo_load0 T_ rfl rfl rfl (by repeat (first | exact List.Mem.head _ | apply List.Mem.tail | apply List.mem_append_right)) rfl rfl ?_
  refine xo_mv rfl rfl rfl ?_
  refine xo_sub rfl rfl rfl (by omega) rfl ?_
  refine xo_nilck rfl rfl rfl ?_
  refine xo_fa T_ rfl rfl rfl rfl rfl ?_
  refine xo_store T_ rfl rfl rfl rfl (by repeat (first | exact List.Mem.head _ | apply List.Mem.tail | apply List.mem_append_right)) rfl rfl rfl rfl (by repeat (first | exact Upd.head | apply Upd.tail | apply Upd.app)) rfl ?_
  with_reducible refine xo_nil ?_
  with_reducible repeat (first | refine xq_then ?_ | refine xq_blockN ?_ | refine xq_scopeN ?_)
  exact xq_end0 rfl fun w' hw => ⟨rfl, hw.kx, hw.bl (b, true, cel (stV (stStep s 3 n)) 27) (List.Mem.head _)⟩
theorem adds4_calls (s : StT) (B n : Int) (hB : StB s B) (hB1 : B ≤ 1000000000) (hn : 0 ≤ n ∧ n ≤ 1000000) (b : Nat) (w : World) (o : Obj) (h1 : w.heap[b]? = some o) (h2 : cel (stV s) 27 o) :
    Calls Tryd.prog 125 #[.pointer (some ⟨b, 0, none⟩), .int .i64 n] w fun e w' => e = .returned (.tuple #[]) ∧ Kx (fun q => q = b) w w' ∧ ∃ o', w'.heap[b]? = some o' ∧ cel (stV (stStep s 4 n)) 27 o' := by
  unfold StB at hB
  refine x_callsH (X := fun q => q = b) Tryd.func125 rfl rfl rfl (WOK.start1 h1 h2) ?_
  with_reducible repeat refine xc_seq ?_
  with_reducible refine xc_region ?_
  refine xo_mv rfl rfl rfl ?_
  refine xo_nilck rfl rfl rfl ?_
  refine xo_fa T_ rfl rfl rfl rfl rfl ?_
  refine xo_load0 T_ rfl rfl rfl (by repeat (first | exact List.Mem.head _ | apply List.Mem.tail | apply List.mem_append_right)) rfl rfl ?_
  refine xo_mv rfl rfl rfl ?_
  refine xo_add rfl rfl rfl (by omega) rfl ?_
  refine xo_nilck rfl rfl rfl ?_
  refine xo_fa T_ rfl rfl rfl rfl rfl ?_
  refine xo_store T_ rfl rfl rfl rfl (by repeat (first | exact List.Mem.head _ | apply List.Mem.tail | apply List.mem_append_right)) rfl rfl rfl rfl (by repeat (first | exact Upd.head | apply Upd.tail | apply Upd.app)) rfl ?_
  with_reducible refine xo_nil ?_
  with_reducible repeat (first | refine xq_then ?_ | refine xq_blockN ?_ | refine xq_scopeN ?_)
  with_reducible repeat refine xc_seq ?_
  with_reducible refine xc_region ?_
  refine xo_mv rfl rfl rfl ?_
  refine xo_nilck rfl rfl rfl ?_
  refine xo_fa T_ rfl rfl rfl rfl rfl ?_
  refine xo_load0 T_ rfl rfl rfl (by repeat (first | exact List.Mem.head _ | apply List.Mem.tail | apply List.mem_append_right)) rfl rfl ?_
  refine xo_mv rfl rfl rfl ?_
  refine xo_sub rfl rfl rfl (by omega) rfl ?_
  refine xo_nilck rfl rfl rfl ?_
  refine xo_fa T_ rfl rfl rfl rfl rfl ?_
  refine xo_store T_ rfl rfl rfl rfl (by repeat (first | exact List.Mem.head _ | apply List.Mem.tail | apply List.mem_append_right)) rfl rfl rfl rfl (by repeat (first | exact Upd.head | apply Upd.tail | apply Upd.app)) rfl ?_
  with_reducible refine xo_nil ?_
  with_reducible repeat (first | refine xq_then ?_ | refine xq_blockN ?_ | refine xq_scopeN ?_)
  exact xq_end0 rfl fun w' hw => ⟨rfl, hw.kx, hw.bl (b, true, cel (stV (stStep s 4 n)) 27) (List.Mem.head _)⟩
theorem adds5_calls (s : StT) (B n : Int) (hB : StB s B) (hB1 : B ≤ 1000000000) (hn : 0 ≤ n ∧ n ≤ 1000000) (b : Nat) (w : World) (o : Obj) (h1 : w.heap[b]? = some o) (h2 : cel (stV s) 27 o) :
    Calls Tryd.prog 126 #[.pointer (some ⟨b, 0, none⟩), .int .i64 n] w fun e w' => e = .returned (.tuple #[]) ∧ Kx (fun q => q = b) w w' ∧ ∃ o', w'.heap[b]? = some o' ∧ cel (stV (stStep s 5 n)) 27 o' := by
  unfold StB at hB
  refine x_callsH (X := fun q => q = b) Tryd.func126 rfl rfl rfl (WOK.start1 h1 h2) ?_
  with_reducible repeat refine xc_seq ?_
  with_reducible refine xc_region ?_
  refine xo_mv rfl rfl rfl ?_
  refine xo_nilck rfl rfl rfl ?_
  refine xo_fa T_ rfl rfl rfl rfl rfl ?_
  refine xo_load0 T_ rfl rfl rfl (by repeat (first | exact List.Mem.head _ | apply List.Mem.tail | apply List.mem_append_right)) rfl rfl ?_
  refine xo_mv rfl rfl rfl ?_
  refine xo_add rfl rfl rfl (by omega) rfl ?_
  refine xo_nilck rfl rfl rfl ?_
  refine xo_fa T_ rfl rfl rfl rfl rfl ?_
  refine xo_store T_ rfl rfl rfl rfl (by repeat (first | exact List.Mem.head _ | apply List.Mem.tail | apply List.mem_append_right)) rfl rfl rfl rfl (by repeat (first | exact Upd.head | apply Upd.tail | apply Upd.app)) rfl ?_
  with_reducible refine xo_nil ?_
  with_reducible repeat (first | refine xq_then ?_ | refine xq_blockN ?_ | refine xq_scopeN ?_)
  with_reducible repeat refine xc_seq ?_
  with_reducible refine xc_region ?_
  refine xo_mv rfl rfl rfl ?_
  refine xo_nilck rfl rfl rfl ?_
  refine xo_fa T_ rfl rfl rfl rfl rfl ?_
  refine xo_load0 T_ rfl rfl rfl (by repeat (first | exact List.Mem.head _ | apply List.Mem.tail | apply List.mem_append_right)) rfl rfl ?_
  refine xo_mv rfl rfl rfl ?_
  refine xo_sub rfl rfl rfl (by omega) rfl ?_
  refine xo_nilck rfl rfl rfl ?_
  refine xo_fa T_ rfl rfl rfl rfl rfl ?_
  refine xo_store T_ rfl rfl rfl rfl (by repeat (first | exact List.Mem.head _ | apply List.Mem.tail | apply List.mem_append_right)) rfl rfl rfl rfl (by repeat (first | exact Upd.head | apply Upd.tail | apply Upd.app)) rfl ?_
  with_reducible refine xo_nil ?_
  with_reducible repeat (first | refine xq_then ?_ | refine xq_blockN ?_ | refine xq_scopeN ?_)
  exact xq_end0 rfl fun w' hw => ⟨rfl, hw.kx, hw.bl (b, true, cel (stV (stStep s 5 n)) 27) (List.Mem.head _)⟩
def addsId (k : Int) : Nat := if k = 1 then 122 else if k = 2 then 123 else if k = 3 then 124 else if k = 4 then 125 else 126
theorem adds_calls {k : Int} (hk : 1 ≤ k ∧ k ≤ 5) (s : StT) (B n : Int) (hB : StB s B) (hB1 : B ≤ 1000000000) (hn : 0 ≤ n ∧ n ≤ 1000000) (b : Nat) (w : World) (o : Obj) (h1 : w.heap[b]? = some o) (h2 : cel (stV s) 27 o) :
    Calls Tryd.prog (addsId k) #[.pointer (some ⟨b, 0, none⟩), .int .i64 n] w fun e w' => e = .returned (.tuple #[]) ∧ Kx (fun q => q = b) w w' ∧ ∃ o', w'.heap[b]? = some o' ∧ cel (stV (stStep s k n)) 27 o' := by
  rcases (show k = 1 ∨ k = 2 ∨ k = 3 ∨ k = 4 ∨ k = 5 by omega) with rfl | rfl | rfl | rfl | rfl
  · exact adds1_calls s B n hB hB1 hn b w o h1 h2
  · exact adds2_calls s B n hB hB1 hn b w o h1 h2
  · exact adds3_calls s B n hB hB1 hn b w o h1 h2
  · exact adds4_calls s B n hB hB1 hn b w o h1 h2
  · exact adds5_calls s B n hB hB1 hn b w o h1 h2
theorem adds_enters {k : Int} (hk : 1 ≤ k ∧ k ≤ 5) : ∀ args w, (callFunc (addsId k) args).run Tryd.prog w = .ok (.enter (addsId k) args) w := by
  rcases (show k = 1 ∨ k = 2 ∨ k = 3 ∨ k = 4 ∨ k = 5 by omega) with rfl | rfl | rfl | rfl | rfl
  · exact enters_of Tryd.func122 (by kernel_rfl) rfl
  · exact enters_of Tryd.func123 (by kernel_rfl) rfl
  · exact enters_of Tryd.func124 (by kernel_rfl) rfl
  · exact enters_of Tryd.func125 (by kernel_rfl) rfl
  · exact enters_of Tryd.func126 (by kernel_rfl) rfl
/-- the table, as the program's text lays it -/
def GlobOK (w : World) : Prop := ∀ k : Int, 1 ≤ k → k ≤ 5 → w.cell? ⟨0, k.toNat, none⟩ = some (.func (.func (addsId k)) #[] #[])
theorem GlobOK.below {w w' : World} (h : GlobOK w) (hb : Below w.heap.size w w') : GlobOK w' := fun k h1 h2 => (hb.cell (World.block_lt_of_cell? w _ (h k h1 h2))).trans (h k h1 h2)
end Go.Proofs.YtcmepdamemnbkaaDoor
