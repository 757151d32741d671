/- trust.latest, trust.on's closures, (holding).stands. / slices.AppendSeq, Collect over an iterator of whole numbers. / trust: (shelf).holds and what it yields; slices.AppendSeq, Collect. / slices.Index, Contains, DeleteFunc over whole numbers. / trust.open, Holds, Takes. / trust.Takes. / words that the kit's print lays for a seat, as far as they are used -/
import Derived.Test.YtcmepdamemnbkaaDoorPkLawTrustExamples3
import Derived.Test.YtcmepdamemnbkaaDoorPkLawTrustExamples2
import Derived.Test.YtcmepdamemnbkaaDoorPkLawTrustExamples1
import Derived.Laws.StructEq
namespace Go.Proofs.YtcmepdamemnbkaaDoor
open Go.RowKit Go.Proofs.YtcmepdamemnbkaaDoorW.PrintWords
set_option linter.unusedVariables false
set_option linter.unusedSimpArgs false
def latStep (so : LetT → Bool) (when_ : LetT → Int) (s : LetT × Bool) (x : LetT) : LetT × Bool := if so x && (!s.2 || decide (when_ s.1 ≤ when_ x)) then (x, true) else s
def latF (so : LetT → Bool) (when_ : LetT → Int) (s : LetT × Bool) (l : List LetT) : LetT × Bool := l.foldl (latStep so when_) s
/-- a closure over letters that answers what enc tells -/
def AsksL (P : Program) (w : World) (g : Nat) (cs : List Value) (p : LetT → Value) : Prop :=
  ∀ (x : LetT) (W : World), Below w.heap.size w W → Calls P g ([Value.agg (letV x).toArray] ++ cs).toArray W fun e W' => e = .returned (p x) ∧ Below W.heap.size W W'
set_option maxHeartbeats 4000000 in
theorem latest_calls (so : LetT → Bool) (when_ : LetT → Int) (g1 g2 : Nat) (cs1 cs2 : List Value) (eg1 : ∀ args w, (callFunc g1 args).run Tryd.prog w = .ok (.enter g1 args) w) (eg2 : ∀ args w, (callFunc g2 args).run Tryd.prog w = .ok (.enter g2 args) w)
    (A : Option Addr) (c : Nat) (l : List LetT) (w : World) (hl : Kd.C letK w A l.length l) (h1 : AsksL Tryd.prog w g1 cs1 (fun x => .bool (so x))) (h2 : AsksL Tryd.prog w g2 cs2 (fun x => .int .i64 (when_ x))) :
    Calls Tryd.prog 82 #[.slice A l.length c, .func (.func g1) #[] cs1.toArray, .func (.func g2) #[] cs2.toArray] w fun e w' => e = .returned (.tuple #[.agg (letV (latF so when_ (zLet, false) l).1).toArray, .bool (latF so when_ (zLet, false) l).2]) ∧ Below w.heap.size w w' := by
  have hn := hl.2.1
  refine x_calls (X := XNone) Tryd.func82 rfl rfl rfl ?_
  with_reducible repeat refine xc_seq ?_
  with_reducible refine xc_region ?_
  refine xo_alloc T_ rfl rfl rfl rfl (fun b6 => ?_)
  refine xo_asg rfl rfl rfl ?_
  with_reducible refine xo_nil ?_
  with_reducible repeat (first | refine xq_then ?_ | refine xq_blockN ?_ | refine xq_scopeN ?_)
  with_reducible repeat refine xc_seq ?_
  with_reducible refine xc_region ?_
  refine xo_mv rfl rfl rfl ?_
  refine xo_len T_ rfl rfl rfl rfl ?_
  refine xo_mv rfl rfl rfl ?_
  with_reducible refine xo_nil ?_
  with_reducible repeat (first | refine xq_then ?_ | refine xq_blockN ?_ | refine xq_scopeN ?_)
  with_reducible repeat refine xc_seq ?_
  with_reducible refine xc_block ?_
  refine xc_loop (γ := Nat × (LetT × Bool)) (fun q => q.1 ≤ l.length ∧ latF so when_ (zLet, false) l = latF so when_ q.2 (l.drop q.1)) (fun q => [(0, .slice A l.length c), (1, .func (.func g1) #[] cs1.toArray), (2, .func (.func g2) #[] cs2.toArray), (6, .pointer (some ⟨b6, 0, none⟩)), (7, .bool q.2.2), (10, .slice A l.length c), (11, .int .i64 (l.length : Int)), (12, .int .i64 (q.1 : Int))])
    (fun q => [(b6, true, cel (letV q.2.1) 52)]) (fun q => l.length - q.1) (0, (zLet, false)) ⟨Nat.zero_le _, rfl⟩ ⟨rfl, rfl, rfl, rfl, rfl, rfl, rfl, rfl, trivial⟩ (by repeat (first | exact List.Sublist.refl _ | apply List.Sublist.cons_cons | apply List.Sublist.cons | exact List.nil_sublist _)) ?_
  rintro ⟨k, last, is⟩ ⟨hk1, hlat⟩
  simp only at hk1 hlat ⊢
  with_reducible repeat refine xc_seq ?_
  with_reducible refine xc_region ?_
  refine xo_lss rfl rfl rfl rfl ?_
  with_reducible refine xo_nil ?_
  with_reducible repeat (first | refine xq_then ?_ | refine xq_blockN ?_ | refine xq_scopeN ?_)
  with_reducible repeat refine xc_seq ?_
  refine xc_cond rfl (fun h => ?_) (fun h => ?_)
  · have hlt : k < l.length := by have := of_decide_eq_true h; omega
    obtain ⟨ad, rfl, r1⟩ := let_at hl k hlt
    rw [drop_at l zLet k hlt] at hlat
    generalize l.getD k zLet = x at *
    with_reducible refine xc_skip ?_
    with_reducible repeat (first | refine xq_then ?_ | refine xq_blockN ?_ | refine xq_scopeN ?_)
    with_reducible repeat refine xc_seq ?_
    with_reducible refine xc_block ?_
    with_reducible repeat refine xc_seq ?_
    with_reducible refine xc_region ?_
    refine xo_ia T_ rfl rfl rfl rfl rfl ⟨by omega, by omega⟩ rfl ?_
    refine xo_loadRN T_ rfl rfl rfl (by assumption) rfl rfl ?_
    refine xo_alloc T_ rfl rfl rfl rfl (fun b9 => ?_)
    refine xo_store T_ rfl rfl rfl rfl (by repeat (first | exact List.Mem.head _ | apply List.Mem.tail | apply List.mem_append_right)) rfl rfl rfl rfl (by repeat (first | exact Upd.head | apply Upd.tail | apply Upd.app)) rfl ?_
    with_reducible refine xo_nil ?_
    with_reducible repeat (first | refine xq_then ?_ | refine xq_blockN ?_ | refine xq_scopeN ?_)
    have h1x := h1 x
    have h2x := h2 x
    have h2y := h2 last
    have fin : ∀ s : LetT × Bool, latStep so when_ (last, is) x = s → latF so when_ (zLet, false) l = latF so when_ s (l.drop (k + 1)) := fun s hs => by rw [hlat, ← hs]; rfl
    cases hs : so x
    · simp only [hs] at h1x
      with_reducible repeat refine xc_seq ?_
      refine xc_draw [.func (.func g1) #[] cs1.toArray, .agg (letV x).toArray, .bool false, .bool false, undef, undef, undef, undef, undef, undef, undef, undef, undef, undef, undef, .bool false] T_.mixed rfl rfl rfl rfl rfl ⟨fun τ => ?_, fun τ => ?_, fun τ => ?_, fun τ => ?_, fun τ => ?_, fun τ => ?_, fun τ => ?_, fun τ => ?_, fun τ => ?_, fun τ => ?_, fun τ => ?_, fun τ => ?_, fun τ => ?_, fun τ => ?_, fun τ => ?_, fun τ => ?_, trivial⟩ ?_
      · refine xo_mv rfl rfl rfl ?_
        exact xo_nil fun a w ha hw => ⟨ha, hw⟩
      · refine xo_loadN T_ rfl rfl rfl (by repeat (first | exact List.Mem.head _ | apply List.Mem.tail | apply List.mem_append_right)) rfl rfl ?_
        exact xo_nil fun a w ha hw => ⟨ha, hw⟩
      · refine xo_callB (fs := []) rfl rfl rfl eg1 rfl (fun w1 hw1 => h1x w1 hw1.kx.below) ?_
        exact xo_nil fun a w ha hw => ⟨ha, hw⟩
      · refine xo_mv rfl rfl rfl ?_
        exact xo_nil fun a w ha hw => ⟨ha, hw⟩
      · first
          | refine xo_not rfl rfl ?_
          | (refine xo_mv rfl rfl rfl ?_)
        exact xo_nil fun a w ha hw => ⟨ha, hw⟩
      · first
          | refine xo_not rfl rfl ?_
          | (refine xo_notOp rfl rfl rfl ?_)
        exact xo_nil fun a w ha hw => ⟨ha, hw⟩
      · first
          | refine xo_not rfl rfl ?_
          | (refine xo_mv rfl rfl rfl ?_)
        exact xo_nil fun a w ha hw => ⟨ha, hw⟩
      · first
          | refine xo_not rfl rfl ?_
          | (refine xo_mv rfl rfl rfl ?_)
        exact xo_nil fun a w ha hw => ⟨ha, hw⟩
      · first
          | refine xo_not rfl rfl ?_
          | (refine xo_loadN T_ rfl rfl rfl (by repeat (first | exact List.Mem.head _ | apply List.Mem.tail | apply List.mem_append_right)) rfl rfl ?_)
        exact xo_nil fun a w ha hw => ⟨ha, hw⟩
      · first
          | refine xo_not rfl rfl ?_
          | (fail "NO RULE: Op.call -9")
        exact xo_nil fun a w ha hw => ⟨ha, hw⟩
      · first
          | refine xo_not rfl rfl ?_
          | (refine xo_mv rfl rfl rfl ?_)
        exact xo_nil fun a w ha hw => ⟨ha, hw⟩
      · first
          | refine xo_not rfl rfl ?_
          | (refine xo_loadN T_ rfl rfl rfl (by repeat (first | exact List.Mem.head _ | apply List.Mem.tail | apply List.mem_append_right)) rfl rfl ?_)
        exact xo_nil fun a w ha hw => ⟨ha, hw⟩
      · first
          | refine xo_not rfl rfl ?_
          | (fail "NO RULE: Op.call -12")
        exact xo_nil fun a w ha hw => ⟨ha, hw⟩
      · first
          | refine xo_not rfl rfl ?_
          | (refine xo_geq rfl rfl rfl rfl ?_)
        exact xo_nil fun a w ha hw => ⟨ha, hw⟩
      · first
          | refine xo_not rfl rfl ?_
          | (first | refine xo_pickT rfl rfl rfl rfl ?_ | refine xo_pickF rfl rfl rfl rfl ?_)
        exact xo_nil fun a w ha hw => ⟨ha, hw⟩
      · first | refine xo_pickT rfl rfl rfl rfl ?_ | refine xo_pickF rfl rfl rfl rfl ?_
        exact xo_nil fun a w ha hw => ⟨ha, hw⟩
      with_reducible repeat (first | refine xq_then ?_ | refine xq_blockN ?_ | refine xq_scopeN ?_)
      with_reducible repeat refine xc_seq ?_
      refine xc_condF rfl ?_
      with_reducible refine xc_skip ?_
      with_reducible repeat (first | refine xq_then ?_ | refine xq_blockN ?_ | refine xq_scopeN ?_)
      with_reducible repeat refine xc_seq ?_
      with_reducible refine xc_region ?_
      refine xo_add rfl rfl rfl (by omega) rfl ?_
      refine xo_mv rfl rfl rfl ?_
      with_reducible refine xo_nil ?_
      with_reducible repeat (first | refine xq_then ?_ | refine xq_blockN ?_ | refine xq_scopeN ?_)
      exact xq_again _ _ _ _ _ (k + 1, last, is) ⟨hlt, fin _ (by simp [latStep, hs])⟩ (by first | omega | (simp only; omega)) ⟨rfl, rfl, rfl, rfl, rfl, rfl, rfl, rfl, trivial⟩ (by repeat (first | exact List.Sublist.refl _ | apply List.Sublist.cons_cons | apply List.Sublist.cons | exact List.nil_sublist _))
    · simp only [hs] at h1x
      cases hi : is
      · with_reducible repeat refine xc_seq ?_
        refine xc_draw [.func (.func g1) #[] cs1.toArray, .agg (letV x).toArray, .bool true, .bool true, .bool false, .bool true, .bool true, undef, undef, undef, undef, undef, undef, undef, .bool true, .bool true] T_.mixed rfl rfl rfl rfl rfl ⟨fun τ => ?_, fun τ => ?_, fun τ => ?_, fun τ => ?_, fun τ => ?_, fun τ => ?_, fun τ => ?_, fun τ => ?_, fun τ => ?_, fun τ => ?_, fun τ => ?_, fun τ => ?_, fun τ => ?_, fun τ => ?_, fun τ => ?_, fun τ => ?_, trivial⟩ ?_
        · refine xo_mv rfl rfl rfl ?_
          exact xo_nil fun a w ha hw => ⟨ha, hw⟩
        · refine xo_loadN T_ rfl rfl rfl (by repeat (first | exact List.Mem.head _ | apply List.Mem.tail | apply List.mem_append_right)) rfl rfl ?_
          exact xo_nil fun a w ha hw => ⟨ha, hw⟩
        · refine xo_callB (fs := []) rfl rfl rfl eg1 rfl (fun w1 hw1 => h1x w1 hw1.kx.below) ?_
          exact xo_nil fun a w ha hw => ⟨ha, hw⟩
        · refine xo_mv rfl rfl rfl ?_
          exact xo_nil fun a w ha hw => ⟨ha, hw⟩
        · first
            | refine xo_not rfl rfl ?_
            | (refine xo_mv rfl rfl rfl ?_)
          exact xo_nil fun a w ha hw => ⟨ha, hw⟩
        · first
            | refine xo_not rfl rfl ?_
            | (refine xo_notOp rfl rfl rfl ?_)
          exact xo_nil fun a w ha hw => ⟨ha, hw⟩
        · first
            | refine xo_not rfl rfl ?_
            | (refine xo_mv rfl rfl rfl ?_)
          exact xo_nil fun a w ha hw => ⟨ha, hw⟩
        · first
            | refine xo_not rfl rfl ?_
            | (refine xo_mv rfl rfl rfl ?_)
          exact xo_nil fun a w ha hw => ⟨ha, hw⟩
        · first
            | refine xo_not rfl rfl ?_
            | (refine xo_loadN T_ rfl rfl rfl (by repeat (first | exact List.Mem.head _ | apply List.Mem.tail | apply List.mem_append_right)) rfl rfl ?_)
          exact xo_nil fun a w ha hw => ⟨ha, hw⟩
        · first
            | refine xo_not rfl rfl ?_
            | (fail "NO RULE: Op.call -9")
          exact xo_nil fun a w ha hw => ⟨ha, hw⟩
        · first
            | refine xo_not rfl rfl ?_
            | (refine xo_mv rfl rfl rfl ?_)
          exact xo_nil fun a w ha hw => ⟨ha, hw⟩
        · first
            | refine xo_not rfl rfl ?_
            | (refine xo_loadN T_ rfl rfl rfl (by repeat (first | exact List.Mem.head _ | apply List.Mem.tail | apply List.mem_append_right)) rfl rfl ?_)
          exact xo_nil fun a w ha hw => ⟨ha, hw⟩
        · first
            | refine xo_not rfl rfl ?_
            | (fail "NO RULE: Op.call -12")
          exact xo_nil fun a w ha hw => ⟨ha, hw⟩
        · first
            | refine xo_not rfl rfl ?_
            | (refine xo_geq rfl rfl rfl rfl ?_)
          exact xo_nil fun a w ha hw => ⟨ha, hw⟩
        · first
            | refine xo_not rfl rfl ?_
            | (first | refine xo_pickT rfl rfl rfl rfl ?_ | refine xo_pickF rfl rfl rfl rfl ?_)
          exact xo_nil fun a w ha hw => ⟨ha, hw⟩
        · first | refine xo_pickT rfl rfl rfl rfl ?_ | refine xo_pickF rfl rfl rfl rfl ?_
          exact xo_nil fun a w ha hw => ⟨ha, hw⟩
        with_reducible repeat (first | refine xq_then ?_ | refine xq_blockN ?_ | refine xq_scopeN ?_)
        with_reducible repeat refine xc_seq ?_
        refine xc_condT rfl ?_
        with_reducible repeat refine xc_seq ?_
        with_reducible refine xc_region ?_
        refine xo_loadN T_ rfl rfl rfl (by repeat (first | exact List.Mem.head _ | apply List.Mem.tail | apply List.mem_append_right)) rfl rfl ?_
        refine xo_store T_ rfl rfl rfl rfl (by repeat (first | exact List.Mem.head _ | apply List.Mem.tail | apply List.mem_append_right)) rfl rfl rfl rfl (by repeat (first | exact Upd.head | apply Upd.tail | apply Upd.app)) rfl ?_
        refine xo_asg rfl rfl rfl ?_
        with_reducible refine xo_nil ?_
        with_reducible repeat (first | refine xq_then ?_ | refine xq_blockN ?_ | refine xq_scopeN ?_)
        with_reducible repeat refine xc_seq ?_
        with_reducible refine xc_region ?_
        refine xo_add rfl rfl rfl (by omega) rfl ?_
        refine xo_mv rfl rfl rfl ?_
        with_reducible refine xo_nil ?_
        with_reducible repeat (first | refine xq_then ?_ | refine xq_blockN ?_ | refine xq_scopeN ?_)
        exact xq_again _ _ _ _ _ (k + 1, x, true) ⟨hlt, fin _ (by simp [latStep, hs, hi])⟩ (by first | omega | (simp only; omega)) ⟨rfl, rfl, rfl, rfl, rfl, rfl, rfl, rfl, trivial⟩ (by repeat (first | exact List.Sublist.refl _ | apply List.Sublist.cons_cons | apply List.Sublist.cons | exact List.nil_sublist _))
      · with_reducible repeat refine xc_seq ?_
        refine xc_draw [.func (.func g1) #[] cs1.toArray, .agg (letV x).toArray, .bool true, .bool true, .bool true, .bool false, .bool false, .func (.func g2) #[] cs2.toArray, .agg (letV x).toArray, .int .i64 (when_ x), .func (.func g2) #[] cs2.toArray, .agg (letV last).toArray, .int .i64 (when_ last), .bool (decide (when_ last ≤ when_ x)), .bool (decide (when_ last ≤ when_ x)), .bool (decide (when_ last ≤ when_ x))] T_.mixed rfl rfl rfl rfl rfl ⟨fun τ => ?_, fun τ => ?_, fun τ => ?_, fun τ => ?_, fun τ => ?_, fun τ => ?_, fun τ => ?_, fun τ => ?_, fun τ => ?_, fun τ => ?_, fun τ => ?_, fun τ => ?_, fun τ => ?_, fun τ => ?_, fun τ => ?_, fun τ => ?_, trivial⟩ ?_
        · refine xo_mv rfl rfl rfl ?_
          exact xo_nil fun a w ha hw => ⟨ha, hw⟩
        · refine xo_loadN T_ rfl rfl rfl (by repeat (first | exact List.Mem.head _ | apply List.Mem.tail | apply List.mem_append_right)) rfl rfl ?_
          exact xo_nil fun a w ha hw => ⟨ha, hw⟩
        · refine xo_callB (fs := []) rfl rfl rfl eg1 rfl (fun w1 hw1 => h1x w1 hw1.kx.below) ?_
          exact xo_nil fun a w ha hw => ⟨ha, hw⟩
        · refine xo_mv rfl rfl rfl ?_
          exact xo_nil fun a w ha hw => ⟨ha, hw⟩
        · first
            | refine xo_not rfl rfl ?_
            | (refine xo_mv rfl rfl rfl ?_)
          exact xo_nil fun a w ha hw => ⟨ha, hw⟩
        · first
            | refine xo_not rfl rfl ?_
            | (refine xo_notOp rfl rfl rfl ?_)
          exact xo_nil fun a w ha hw => ⟨ha, hw⟩
        · first
            | refine xo_not rfl rfl ?_
            | (refine xo_mv rfl rfl rfl ?_)
          exact xo_nil fun a w ha hw => ⟨ha, hw⟩
        · first
            | refine xo_not rfl rfl ?_
            | (refine xo_mv rfl rfl rfl ?_)
          exact xo_nil fun a w ha hw => ⟨ha, hw⟩
        · first
            | refine xo_not rfl rfl ?_
            | (refine xo_loadN T_ rfl rfl rfl (by repeat (first | exact List.Mem.head _ | apply List.Mem.tail | apply List.mem_append_right)) rfl rfl ?_)
          exact xo_nil fun a w ha hw => ⟨ha, hw⟩
        · first
            | refine xo_not rfl rfl ?_
            | (refine xo_callB (fs := []) rfl rfl rfl eg2 rfl (fun w1 hw1 => h2x w1 hw1.kx.below) ?_)
          exact xo_nil fun a w ha hw => ⟨ha, hw⟩
        · first
            | refine xo_not rfl rfl ?_
            | (refine xo_mv rfl rfl rfl ?_)
          exact xo_nil fun a w ha hw => ⟨ha, hw⟩
        · first
            | refine xo_not rfl rfl ?_
            | (refine xo_loadN T_ rfl rfl rfl (by repeat (first | exact List.Mem.head _ | apply List.Mem.tail | apply List.mem_append_right)) rfl rfl ?_)
          exact xo_nil fun a w ha hw => ⟨ha, hw⟩
        · first
            | refine xo_not rfl rfl ?_
            | (refine xo_callB (fs := []) rfl rfl rfl eg2 rfl (fun w1 hw1 => h2y w1 hw1.kx.below) ?_)
          exact xo_nil fun a w ha hw => ⟨ha, hw⟩
        · first
            | refine xo_not rfl rfl ?_
            | (refine xo_geq rfl rfl rfl rfl ?_)
          exact xo_nil fun a w ha hw => ⟨ha, hw⟩
        · first
            | refine xo_not rfl rfl ?_
            | (first | refine xo_pickT rfl rfl rfl rfl ?_ | refine xo_pickF rfl rfl rfl rfl ?_)
          exact xo_nil fun a w ha hw => ⟨ha, hw⟩
        · first | refine xo_pickT rfl rfl rfl rfl ?_ | refine xo_pickF rfl rfl rfl rfl ?_
          exact xo_nil fun a w ha hw => ⟨ha, hw⟩
        with_reducible repeat (first | refine xq_then ?_ | refine xq_blockN ?_ | refine xq_scopeN ?_)
        with_reducible repeat refine xc_seq ?_
        refine xc_cond rfl (fun hd => ?_) (fun hd => ?_)
        · with_reducible repeat refine xc_seq ?_
          with_reducible refine xc_region ?_
          refine xo_loadN T_ rfl rfl rfl (by repeat (first | exact List.Mem.head _ | apply List.Mem.tail | apply List.mem_append_right)) rfl rfl ?_
          refine xo_store T_ rfl rfl rfl rfl (by repeat (first | exact List.Mem.head _ | apply List.Mem.tail | apply List.mem_append_right)) rfl rfl rfl rfl (by repeat (first | exact Upd.head | apply Upd.tail | apply Upd.app)) rfl ?_
          refine xo_asg rfl rfl rfl ?_
          with_reducible refine xo_nil ?_
          with_reducible repeat (first | refine xq_then ?_ | refine xq_blockN ?_ | refine xq_scopeN ?_)
          with_reducible repeat refine xc_seq ?_
          with_reducible refine xc_region ?_
          refine xo_add rfl rfl rfl (by omega) rfl ?_
          refine xo_mv rfl rfl rfl ?_
          with_reducible refine xo_nil ?_
          with_reducible repeat (first | refine xq_then ?_ | refine xq_blockN ?_ | refine xq_scopeN ?_)
          exact xq_again _ _ _ _ _ (k + 1, x, true) ⟨hlt, fin _ (by simp [latStep, hs, hi, hd])⟩ (by first | omega | (simp only; omega)) ⟨rfl, rfl, rfl, rfl, rfl, rfl, rfl, rfl, trivial⟩ (by repeat (first | exact List.Sublist.refl _ | apply List.Sublist.cons_cons | apply List.Sublist.cons | exact List.nil_sublist _))
        · with_reducible refine xc_skip ?_
          with_reducible repeat (first | refine xq_then ?_ | refine xq_blockN ?_ | refine xq_scopeN ?_)
          with_reducible repeat refine xc_seq ?_
          with_reducible refine xc_region ?_
          refine xo_add rfl rfl rfl (by omega) rfl ?_
          refine xo_mv rfl rfl rfl ?_
          with_reducible refine xo_nil ?_
          with_reducible repeat (first | refine xq_then ?_ | refine xq_blockN ?_ | refine xq_scopeN ?_)
          exact xq_again _ _ _ _ _ (k + 1, last, true) ⟨hlt, fin _ (by simp [latStep, hs, hi, hd])⟩ (by first | omega | (simp only; omega)) ⟨rfl, rfl, rfl, rfl, rfl, rfl, rfl, rfl, trivial⟩ (by repeat (first | exact List.Sublist.refl _ | apply List.Sublist.cons_cons | apply List.Sublist.cons | exact List.nil_sublist _))
  · have hge : ¬ k < l.length := by have := of_decide_eq_false h; omega
    rw [List.drop_of_length_le (by omega)] at hlat
    with_reducible refine xc_exit ?_
    with_reducible repeat (first | refine xq_blockX ?_ | refine xq_thenE ?_ | refine xq_blockE rfl ?_ | refine xq_scopeE ?_)
    with_reducible repeat (first | refine xq_then ?_ | refine xq_blockN ?_ | refine xq_scopeN ?_)
    with_reducible repeat refine xc_seq ?_
    with_reducible refine xc_region ?_
    refine xo_loadN T_ rfl rfl rfl (by repeat (first | exact List.Mem.head _ | apply List.Mem.tail | apply List.mem_append_right)) rfl rfl ?_
    refine xo_mv rfl rfl rfl ?_
    refine xo_store T_ rfl rfl rfl rfl (by repeat (first | exact List.Mem.head _ | apply List.Mem.tail | apply List.mem_append_right)) rfl rfl rfl rfl (by repeat (first | exact Upd.head | apply Upd.tail | apply Upd.app)) rfl ?_
    refine xo_asg rfl rfl rfl ?_
    with_reducible refine xo_nil ?_
    with_reducible repeat (first | refine xq_then ?_ | refine xq_blockN ?_ | refine xq_scopeN ?_)
    with_reducible repeat refine xc_seq ?_
    with_reducible refine xc_ret ?_
    with_reducible repeat (first | refine xq_thenR ?_ | refine xq_blockR ?_ | refine xq_scopeR ?_)
    refine xq_retC1 T_ rfl rfl rfl rfl (by repeat (first | exact List.Mem.head _ | apply List.Mem.tail | apply List.mem_append_right)) rfl fun w' hw => ⟨?_, hw.kx.below⟩
    rw [hlat]
    rfl
end Go.Proofs.YtcmepdamemnbkaaDoor
namespace Go.Proofs.YtcmepdamemnbkaaDoor
open Go.RowKit Go.Proofs.YtcmepdamemnbkaaDoorW.PrintWords
set_option linter.unusedVariables false
set_option linter.unusedSimpArgs false
theorem latest_enters : ∀ args w, (callFunc 82 args).run Tryd.prog w = .ok (.enter 82 args) w := enters_of Tryd.func82 (by kernel_rfl) rfl
theorem on1_calls (x : LetT) (y : RecT) (A2 : Option Addr) (c2 : Nat) (day : Int) (B C : Nat) (w : World) (hB : w.cell? ⟨B, 0, none⟩ = some (.int .i64 y.f0)) (hC : w.cell? ⟨C, 0, none⟩ = some (.int .i64 day)) :
    Calls Tryd.prog 81 #[.agg (letV x).toArray, .pointer (some ⟨B, 0, none⟩), .pointer (some ⟨C, 0, none⟩)] w fun e w' => e = .returned (.bool (decide (x.f2 = y.f0) && decide (x.f1 ≤ day))) ∧ Below w.heap.size w w' := by
  have r1 : RO w XNone ((⟨B, 0, none⟩ : Addr).add 0) [.int .i64 y.f0] := by rw [Addr.add_zero']; exact ro1 hB
  have r2 := ro1 hC
  refine x_calls (X := XNone) Tryd.func81 rfl rfl rfl ?_
  with_reducible repeat refine xc_seq ?_
  with_reducible refine xc_region ?_
  refine xo_box rfl rfl rfl rfl (fun b3 => ?_)
  refine xo_asg rfl rfl rfl ?_
  with_reducible refine xo_nil ?_
  with_reducible repeat (first | refine xq_then ?_ | refine xq_blockN ?_ | refine xq_scopeN ?_)
  cases h : decide (x.f2 = y.f0)
  all_goals
    with_reducible repeat refine xc_seq ?_
    with_reducible refine xc_region ?_
    refine xo_fa T_ rfl rfl rfl rfl rfl ?_
    refine xo_load0 T_ rfl rfl rfl (by repeat (first | exact List.Mem.head _ | apply List.Mem.tail | apply List.mem_append_right)) rfl rfl ?_
    refine xo_faR T_ rfl rfl rfl rfl rfl ?_
    refine xo_loadR0 T_ rfl rfl rfl (by first | assumption | exact RO.fld (by assumption) rfl) rfl ?_
    refine xo_eql rfl rfl rfl rfl ?_
    refine xo_mv rfl rfl rfl ?_
    refine xo_as (i := 10) rfl (congrArg Value.bool h) ?_
    first
      | refine xo_not rfl rfl ?_
      | (refine xo_fa T_ rfl rfl rfl rfl rfl ?_)
    first
      | refine xo_not rfl rfl ?_
      | (refine xo_load0 T_ rfl rfl rfl (by repeat (first | exact List.Mem.head _ | apply List.Mem.tail | apply List.mem_append_right)) rfl rfl ?_)
    first
      | refine xo_not rfl rfl ?_
      | (refine xo_loadR0 T_ rfl rfl rfl (by first | assumption | exact RO.fld (by assumption) rfl) rfl ?_)
    first
      | refine xo_not rfl rfl ?_
      | (refine xo_leq rfl rfl rfl rfl ?_)
    first | refine xo_pickT rfl rfl rfl rfl ?_ | refine xo_pickF rfl rfl rfl rfl ?_
    refine xo_asg rfl rfl rfl ?_
    with_reducible refine xo_nil ?_
    with_reducible repeat (first | refine xq_then ?_ | refine xq_blockN ?_ | refine xq_scopeN ?_)
    with_reducible repeat refine xc_seq ?_
    with_reducible refine xc_ret ?_
    with_reducible repeat (first | refine xq_thenR ?_ | refine xq_blockR ?_ | refine xq_scopeR ?_)
    exact xq_ret1 rfl rfl fun w' hw => ⟨rfl, hw.kx.below⟩
theorem on2_calls (x : LetT) (w : World) : Calls Tryd.prog 83 #[.agg (letV x).toArray] w fun e w' => e = .returned (.int .i64 x.f1) ∧ Below w.heap.size w w' := by
  refine x_calls (X := XNone) Tryd.func83 rfl rfl rfl ?_
  with_reducible repeat refine xc_seq ?_
  with_reducible refine xc_region ?_
  refine xo_box rfl rfl rfl rfl (fun b1 => ?_)
  refine xo_asg rfl rfl rfl ?_
  with_reducible refine xo_nil ?_
  with_reducible repeat (first | refine xq_then ?_ | refine xq_blockN ?_ | refine xq_scopeN ?_)
  with_reducible repeat refine xc_seq ?_
  with_reducible refine xc_region ?_
  refine xo_fa T_ rfl rfl rfl rfl rfl ?_
  refine xo_load0 T_ rfl rfl rfl (by repeat (first | exact List.Mem.head _ | apply List.Mem.tail | apply List.mem_append_right)) rfl rfl ?_
  refine xo_asg rfl rfl rfl ?_
  with_reducible refine xo_nil ?_
  with_reducible repeat (first | refine xq_then ?_ | refine xq_blockN ?_ | refine xq_scopeN ?_)
  with_reducible repeat refine xc_seq ?_
  with_reducible refine xc_ret ?_
  with_reducible repeat (first | refine xq_thenR ?_ | refine xq_blockR ?_ | refine xq_scopeR ?_)
  exact xq_ret1 rfl rfl fun w' hw => ⟨rfl, hw.kx.below⟩
def lastF (l : List LetT) (day id : Int) : LetT × Bool := latF (fun y => decide (y.f2 = id) && decide (y.f1 ≤ day)) (fun y => y.f1) (zLet, false) l
def goneB (l : List LetT) (day id : Int) : Bool := (lastF l day id).2 && decide ((lastF l day id).1.f3 = 1)
def goneL (l : List LetT) (day : Int) : List Int → List RecT → List Int
  | acc, [] => acc
  | acc, x :: r => goneL l day (if goneB l day x.f0 then insN x.f0 acc else acc) r
def goneF (r : List RecT) (l : List LetT) (day : Int) : List Int := goneL l day [] r
set_option maxHeartbeats 4000000 in
theorem on_calls (A B : Option Addr) (c c' : Nat) (r : List RecT) (l : List LetT) (day : Int) (w : World) (hr : Kd.C recK w A r.length r) (hl : Kd.C letK w B l.length l) :
    Calls Tryd.prog 69 #[.slice A r.length c, .slice B l.length c', .int .i64 day] w fun e w' => ∃ M, e = .returned (.agg #[.slice A r.length c, .map (some M)]) ∧ w.heap.size ≤ M ∧ IMap w' M (setV (goneF r l day)) ∧ Below w.heap.size w w' := by
  have hn := hr.2.1
  have eg1 : ∀ args w, (callFunc 81 args).run Tryd.prog w = .ok (.enter 81 args) w := enters_of Tryd.func81 (by kernel_rfl) rfl
  have eg2 : ∀ args w, (callFunc 83 args).run Tryd.prog w = .ok (.enter 83 args) w := enters_of Tryd.func83 (by kernel_rfl) rfl
  refine x_calls (X := XNone) Tryd.func69 rfl rfl rfl ?_
  with_reducible repeat refine xc_seq ?_
  with_reducible refine xc_region ?_
  refine xo_box rfl rfl rfl rfl (fun b5 => ?_)
  refine xo_alloc T_ rfl rfl rfl rfl (fun b6 => ?_)
  with_reducible refine xo_nil ?_
  with_reducible repeat (first | refine xq_then ?_ | refine xq_blockN ?_ | refine xq_scopeN ?_)
  with_reducible repeat refine xc_seq ?_
  with_reducible refine xc_region ?_
  refine xo_mv rfl rfl rfl ?_
  refine xo_mkm rfl rfl (fun b14 => ?_)
  refine xo_build TB_ rfl rfl rfl rfl rfl ?_
  refine xo_alloc T_ rfl rfl rfl rfl (fun b7 => ?_)
  refine xo_store T_ rfl rfl rfl rfl (by repeat (first | exact List.Mem.head _ | apply List.Mem.tail | apply List.mem_append_right)) rfl rfl rfl rfl (by repeat (first | exact Upd.head | apply Upd.tail | apply Upd.app)) rfl ?_
  with_reducible refine xo_nil ?_
  with_reducible repeat (first | refine xq_then ?_ | refine xq_blockN ?_ | refine xq_scopeN ?_)
  with_reducible repeat refine xc_seq ?_
  with_reducible refine xc_region ?_
  refine xo_mv rfl rfl rfl ?_
  refine xo_len T_ rfl rfl rfl rfl ?_
  refine xo_mv rfl rfl rfl ?_
  with_reducible refine xo_nil ?_
  with_reducible repeat (first | refine xq_then ?_ | refine xq_blockN ?_ | refine xq_scopeN ?_)
  with_reducible repeat refine xc_seq ?_
  with_reducible refine xc_block ?_
  refine xc_loop (γ := Nat × List Int) (fun q => q.1 ≤ r.length ∧ goneF r l day = goneL l day q.2 (r.drop q.1)) (fun q => [(0, .slice A r.length c), (1, .slice B l.length c'), (5, .pointer (some ⟨b5, 0, none⟩)), (6, .pointer (some ⟨b6, 0, none⟩)), (7, .pointer (some ⟨b7, 0, none⟩)), (16, .slice A r.length c), (17, .int .i64 (r.length : Int)), (18, .int .i64 (q.1 : Int))])
    (fun q => [(b7, true, cel [.slice A r.length c, .map (some b14)] 91), (b14, true, hmap (setV q.2)), (b6, true, cel [.slice none 0 0, .map none] 91), (b5, true, cel [.int .i64 day] 3)]) (fun q => r.length - q.1) (0, []) ⟨Nat.zero_le _, rfl⟩ ⟨rfl, rfl, rfl, rfl, rfl, rfl, rfl, rfl, trivial⟩ (by repeat (first | exact List.Sublist.refl _ | apply List.Sublist.cons_cons | apply List.Sublist.cons | exact List.nil_sublist _)) ?_
  rintro ⟨k, acc⟩ ⟨hk1, hgone⟩
  simp only at hk1 hgone ⊢
  with_reducible repeat refine xc_seq ?_
  with_reducible refine xc_region ?_
  refine xo_lss rfl rfl rfl rfl ?_
  with_reducible refine xo_nil ?_
  with_reducible repeat (first | refine xq_then ?_ | refine xq_blockN ?_ | refine xq_scopeN ?_)
  with_reducible repeat refine xc_seq ?_
  refine xc_cond rfl (fun h => ?_) (fun h => ?_)
  · have hlt : k < r.length := by have := of_decide_eq_true h; omega
    obtain ⟨ad, A2, c2, rfl, r1, hc2, hw2⟩ := rec_at hr k hlt
    rw [drop_at r zRec k hlt, goneL] at hgone
    generalize r.getD k zRec = x at *
    with_reducible refine xc_skip ?_
    with_reducible repeat (first | refine xq_then ?_ | refine xq_blockN ?_ | refine xq_scopeN ?_)
    with_reducible repeat refine xc_seq ?_
    with_reducible refine xc_block ?_
    with_reducible repeat refine xc_seq ?_
    with_reducible refine xc_region ?_
    refine xo_ia T_ rfl rfl rfl rfl rfl ⟨by omega, by omega⟩ rfl ?_
    refine xo_loadRN T_ rfl rfl rfl (by assumption) rfl rfl ?_
    refine xo_alloc T_ rfl rfl rfl rfl (fun b9 => ?_)
    refine xo_store T_ rfl rfl rfl rfl (by repeat (first | exact List.Mem.head _ | apply List.Mem.tail | apply List.mem_append_right)) rfl rfl rfl rfl (by repeat (first | exact Upd.head | apply Upd.tail | apply Upd.app)) rfl ?_
    with_reducible refine xo_nil ?_
    with_reducible repeat (first | refine xq_then ?_ | refine xq_blockN ?_ | refine xq_scopeN ?_)
    with_reducible repeat refine xc_seq ?_
    with_reducible refine xc_region ?_
    refine xo_mkf rfl rfl rfl rfl ?_
    refine xo_asg rfl rfl rfl ?_
    with_reducible refine xo_nil ?_
    with_reducible repeat (first | refine xq_then ?_ | refine xq_blockN ?_ | refine xq_scopeN ?_)
    with_reducible repeat refine xc_seq ?_
    with_reducible refine xc_region ?_
    refine xo_mv rfl rfl rfl ?_
    refine xo_mv rfl rfl rfl ?_
    refine xo_callB (fs := []) (cs := []) rfl rfl rfl latest_enters rfl (fun w1 hw1 => latest_calls (fun y => decide (y.f2 = x.f0) && decide (y.f1 ≤ day)) (fun y => y.f1) _ _ [.pointer (some ⟨b9, 0, none⟩), .pointer (some ⟨b5, 0, none⟩)] [] eg1 eg2 B c' l w1 (Kd.C_below hl hw1.kx.below)
      (fun y W hW => on1_calls y x A2 c2 day b9 b5 W ((hw1.below hW).cell (by repeat (first | exact List.Mem.head _ | apply List.Mem.tail | apply List.mem_append_right)) 0 rfl) ((hw1.below hW).cell (by repeat (first | exact List.Mem.head _ | apply List.Mem.tail | apply List.mem_append_right)) 0 rfl)) (fun y W hW => on2_calls y W)) ?_
    refine xo_mv rfl rfl rfl ?_
    refine xo_ext rfl rfl rfl rfl ?_
    refine xo_ext rfl rfl rfl rfl ?_
    refine xo_alloc T_ rfl rfl rfl rfl (fun b11 => ?_)
    refine xo_store T_ rfl rfl rfl rfl (by repeat (first | exact List.Mem.head _ | apply List.Mem.tail | apply List.mem_append_right)) rfl rfl rfl rfl (by repeat (first | exact Upd.head | apply Upd.tail | apply Upd.app)) rfl ?_
    refine xo_asg rfl rfl rfl ?_
    with_reducible refine xo_nil ?_
    with_reducible repeat (first | refine xq_then ?_ | refine xq_blockN ?_ | refine xq_scopeN ?_)
    cases hs : (lastF l day x.f0).2 <;> cases h3 : decide ((lastF l day x.f0).1.f3 = 1)
    all_goals
      with_reducible repeat refine xc_seq ?_
      with_reducible refine xc_region ?_
      refine xo_as (i := 12) rfl (congrArg Value.bool hs) ?_
      refine xo_mv rfl rfl rfl ?_
      refine xo_mv rfl rfl rfl ?_
      first
        | refine xo_not rfl rfl ?_
        | (refine xo_fa T_ rfl rfl rfl rfl rfl ?_)
      first
        | refine xo_not rfl rfl ?_
        | (refine xo_load0 T_ rfl rfl rfl (by repeat (first | exact List.Mem.head _ | apply List.Mem.tail | apply List.mem_append_right)) rfl rfl ?_)
      first
        | refine xo_not rfl rfl ?_
        | (refine xo_eql rfl rfl rfl rfl ?_)
      first | refine xo_pickT rfl rfl rfl rfl ?_ | refine xo_pickF rfl rfl rfl rfl ?_
      first | refine xo_as (i := 34) rfl (congrArg Value.bool h3) ?_ | skip
      with_reducible refine xo_nil ?_
      with_reducible repeat (first | refine xq_then ?_ | refine xq_blockN ?_ | refine xq_scopeN ?_)
      with_reducible repeat refine xc_seq ?_
      first | refine xc_condT rfl ?_ | refine xc_condF rfl ?_
    iterate 3
      · with_reducible refine xc_skip ?_
        with_reducible repeat (first | refine xq_then ?_ | refine xq_blockN ?_ | refine xq_scopeN ?_)
        with_reducible repeat refine xc_seq ?_
        with_reducible refine xc_region ?_
        refine xo_add rfl rfl rfl (by omega) rfl ?_
        refine xo_mv rfl rfl rfl ?_
        with_reducible refine xo_nil ?_
        with_reducible repeat (first | refine xq_then ?_ | refine xq_blockN ?_ | refine xq_scopeN ?_)
        refine xq_again _ _ _ _ _ (k + 1, acc) ⟨hlt, ?_⟩ (by first | omega | (simp only; omega)) ⟨rfl, rfl, rfl, rfl, rfl, rfl, rfl, rfl, trivial⟩ (by repeat (first | exact List.Sublist.refl _ | apply List.Sublist.cons_cons | apply List.Sublist.cons | exact List.nil_sublist _))
        simpa only [goneB, hs, h3, Bool.and_self, Bool.false_and, Bool.and_false, Bool.false_eq_true, ↓reduceIte] using hgone
    with_reducible repeat refine xc_seq ?_
    with_reducible refine xc_region ?_
    refine xo_fa T_ rfl rfl rfl rfl rfl ?_
    refine xo_load0 T_ rfl rfl rfl (by repeat (first | exact List.Mem.head _ | apply List.Mem.tail | apply List.mem_append_right)) rfl rfl ?_
    refine xo_fa T_ rfl rfl rfl rfl rfl ?_
    refine xo_load0 T_ rfl rfl rfl (by repeat (first | exact List.Mem.head _ | apply List.Mem.tail | apply List.mem_append_right)) rfl rfl ?_
    refine xo_sins T_ rfl rfl rfl rfl rfl rfl (by repeat (first | exact List.Mem.head _ | apply List.Mem.tail | apply List.mem_append_right)) (by repeat (first | exact Upd.head | apply Upd.tail | apply Upd.app)) rfl ?_
    with_reducible refine xo_nil ?_
    with_reducible repeat (first | refine xq_then ?_ | refine xq_blockN ?_ | refine xq_scopeN ?_)
    with_reducible repeat refine xc_seq ?_
    with_reducible refine xc_region ?_
    refine xo_add rfl rfl rfl (by omega) rfl ?_
    refine xo_mv rfl rfl rfl ?_
    with_reducible refine xo_nil ?_
    with_reducible repeat (first | refine xq_then ?_ | refine xq_blockN ?_ | refine xq_scopeN ?_)
    refine xq_again _ _ _ _ _ (k + 1, insN x.f0 acc) ⟨hlt, ?_⟩ (by first | omega | (simp only; omega)) ⟨rfl, rfl, rfl, rfl, rfl, rfl, rfl, rfl, trivial⟩ (by repeat (first | exact List.Sublist.refl _ | apply List.Sublist.cons_cons | apply List.Sublist.cons | exact List.nil_sublist _))
    simpa only [goneB, hs, h3, Bool.and_self, ↓reduceIte] using hgone
  · have hge : ¬ k < r.length := by have := of_decide_eq_false h; omega
    rw [List.drop_of_length_le (by omega)] at hgone
    with_reducible refine xc_exit ?_
    with_reducible repeat (first | refine xq_blockX ?_ | refine xq_thenE ?_ | refine xq_blockE rfl ?_ | refine xq_scopeE ?_)
    with_reducible repeat (first | refine xq_then ?_ | refine xq_blockN ?_ | refine xq_scopeN ?_)
    with_reducible repeat refine xc_seq ?_
    with_reducible refine xc_region ?_
    refine xo_loadN T_ rfl rfl rfl (by repeat (first | exact List.Mem.head _ | apply List.Mem.tail | apply List.mem_append_right)) rfl rfl ?_
    refine xo_store T_ rfl rfl rfl rfl (by repeat (first | exact List.Mem.head _ | apply List.Mem.tail | apply List.mem_append_right)) rfl rfl rfl rfl (by repeat (first | exact Upd.head | apply Upd.tail | apply Upd.app)) rfl ?_
    with_reducible refine xo_nil ?_
    with_reducible repeat (first | refine xq_then ?_ | refine xq_blockN ?_ | refine xq_scopeN ?_)
    with_reducible repeat refine xc_seq ?_
    with_reducible refine xc_ret ?_
    with_reducible repeat (first | refine xq_thenR ?_ | refine xq_blockR ?_ | refine xq_scopeR ?_)
    refine xq_retC T_ rfl rfl rfl (by repeat (first | exact List.Mem.head _ | apply List.Mem.tail | apply List.mem_append_right)) rfl fun w' hw => ⟨b14, rfl, ?_, ?_, hw.kx.below⟩
    · rcases hw.ow (b14, true, hmap (setV acc)) (by repeat (first | exact List.Mem.head _ | apply List.Mem.tail | apply List.mem_append_right)) rfl with h1 | h1
      · exact h1
      · exact h1.elim
    · rw [hgone]
      exact hw.imap (wr := true) (by repeat (first | exact List.Mem.head _ | apply List.Mem.tail | apply List.mem_append_right))
theorem WOK.startM (X : Nat → Prop) {w : World} {M : Nat} {l : List (Int × Value)} (h : IMap w M l) : WOK w X [(M, false, hmap l)] w := by
  refine ⟨Kx.refl X w, ?_, by simp, ?_⟩
  · intro e he
    simp only [List.mem_singleton] at he
    subst he
    obtain ⟨o, h1, h2⟩ := hmap_of h
    exact ⟨o, h1, h2⟩
  · intro e he hw
    simp only [List.mem_singleton] at he
    subst he
    cases hw
def allIn (bs : List Int) (w : List Int) : Bool := w.all fun n => decide (n ∈ bs)
theorem allIn_cons (bs : List Int) (n : Int) (w : List Int) : allIn bs (n :: w) = (decide (n ∈ bs) && allIn bs w) := rfl
def standsF (bs : List Int) (ways : List (List Int)) : Bool := decide (ways.length = 0) || ways.any (allIn bs)
set_option maxHeartbeats 4000000 in
theorem stands_calls (id kd : Int) (A : Option Addr) (c M : Nat) (ways : List (List Int)) (bs : List Int) (w : World) (hr : Kd.C waysK w A ways.length ways) (hM : IMap w M (setV bs)) :
    Calls Tryd.prog 71 #[.agg #[.int .i64 id, .int .u8 kd, .slice A ways.length c, .map (some M)]] w fun e w' => e = .returned (.bool (standsF bs ways)) ∧ Below w.heap.size w w' := by
  have hn := hr.2.1
  refine x_callsH (X := XNone) Tryd.func71 rfl rfl rfl (WOK.startM XNone hM) ?_
  with_reducible repeat refine xc_seq ?_
  with_reducible refine xc_region ?_
  refine xo_box rfl rfl rfl rfl (fun b1 => ?_)
  refine xo_asg rfl rfl rfl ?_
  with_reducible refine xo_nil ?_
  with_reducible repeat (first | refine xq_then ?_ | refine xq_blockN ?_ | refine xq_scopeN ?_)
  refine xc_scope ?_
  with_reducible repeat refine xc_seq ?_
  with_reducible refine xc_region ?_
  refine xo_fa T_ rfl rfl rfl rfl rfl ?_
  refine xo_fa T_ rfl rfl rfl rfl rfl ?_
  refine xo_load0 T_ rfl rfl rfl (by repeat (first | exact List.Mem.head _ | apply List.Mem.tail | apply List.mem_append_right)) rfl rfl ?_
  refine xo_len T_ rfl rfl rfl rfl ?_
  refine xo_eql rfl rfl rfl rfl ?_
  with_reducible refine xo_nil ?_
  with_reducible repeat (first | refine xq_then ?_ | refine xq_blockN ?_ | refine xq_scopeN ?_)
  with_reducible repeat refine xc_seq ?_
  refine xc_cond rfl (fun h => ?_) (fun h => ?_)
  · with_reducible repeat refine xc_seq ?_
    with_reducible refine xc_region ?_
    refine xo_asg rfl rfl rfl ?_
    with_reducible refine xo_nil ?_
    with_reducible repeat (first | refine xq_then ?_ | refine xq_blockN ?_ | refine xq_scopeN ?_)
    with_reducible repeat refine xc_seq ?_
    with_reducible refine xc_ret ?_
    with_reducible repeat (first | refine xq_thenR ?_ | refine xq_blockR ?_ | refine xq_scopeR ?_)
    refine xq_ret1 rfl rfl fun w' hw => ⟨?_, hw.kx.below⟩
    rw [standsF, show decide (ways.length = 0) = true from decide_eq_true (by have := of_decide_eq_true h; omega)]
    rfl
  have hd : decide (ways.length = 0) = false := decide_eq_false (by have := of_decide_eq_false h; omega)
  with_reducible refine xc_skip ?_
  with_reducible repeat (first | refine xq_then ?_ | refine xq_blockN ?_ | refine xq_scopeN ?_)
  with_reducible repeat refine xc_seq ?_
  refine xc_label ?_
  with_reducible repeat (first | refine xq_then ?_ | refine xq_blockN ?_ | refine xq_scopeN ?_)
  with_reducible repeat refine xc_seq ?_
  with_reducible refine xc_region ?_
  refine xo_fa T_ rfl rfl rfl rfl rfl ?_
  refine xo_fa T_ rfl rfl rfl rfl rfl ?_
  refine xo_load0 T_ rfl rfl rfl (by repeat (first | exact List.Mem.head _ | apply List.Mem.tail | apply List.mem_append_right)) rfl rfl ?_
  refine xo_len T_ rfl rfl rfl rfl ?_
  refine xo_mv rfl rfl rfl ?_
  with_reducible refine xo_nil ?_
  with_reducible repeat (first | refine xq_then ?_ | refine xq_blockN ?_ | refine xq_scopeN ?_)
  with_reducible repeat refine xc_seq ?_
  with_reducible refine xc_block ?_
  refine xc_loop (γ := Nat) (fun j => j ≤ ways.length ∧ ways.any (allIn bs) = (ways.drop j).any (allIn bs)) (fun j => [(1, .pointer (some ⟨b1, 0, none⟩)), (14, .slice A ways.length c), (15, .int .i64 (ways.length : Int)), (16, .int .i64 (j : Int))])
    (fun _ => [(b1, true, cel [.int .i64 id, .int .u8 kd, .slice A ways.length c, .map (some M)] 113), (M, false, hmap (setV bs))]) (fun j => ways.length - j) 0 ⟨Nat.zero_le _, rfl⟩ ⟨rfl, rfl, rfl, rfl, trivial⟩ (by repeat (first | exact List.Sublist.refl _ | apply List.Sublist.cons_cons | apply List.Sublist.cons | exact List.nil_sublist _)) ?_
  rintro j ⟨hj, hany⟩
  with_reducible repeat refine xc_seq ?_
  with_reducible refine xc_region ?_
  refine xo_lss rfl rfl rfl rfl ?_
  with_reducible refine xo_nil ?_
  with_reducible repeat (first | refine xq_then ?_ | refine xq_blockN ?_ | refine xq_scopeN ?_)
  with_reducible repeat refine xc_seq ?_
  refine xc_cond rfl (fun hj2 => ?_) (fun hj2 => ?_)
  · have hjl : j < ways.length := by have := of_decide_eq_true hj2; omega
    obtain ⟨ad, A3, c3, rfl, r2, hc3, hw3⟩ := way_at hr j hjl
    rw [drop_at ways [] j hjl, List.any_cons] at hany
    generalize ways.getD j [] = way at *
    have hm3 := hw3.2.1
    with_reducible refine xc_skip ?_
    with_reducible repeat (first | refine xq_then ?_ | refine xq_blockN ?_ | refine xq_scopeN ?_)
    with_reducible repeat refine xc_seq ?_
    with_reducible refine xc_block ?_
    with_reducible repeat refine xc_seq ?_
    with_reducible refine xc_region ?_
    refine xo_ia T_ rfl rfl rfl rfl rfl ⟨by omega, by omega⟩ rfl ?_
    refine xo_loadR0 T_ rfl rfl rfl (by first | assumption | exact RO.fld (by assumption) rfl) rfl ?_
    refine xo_asg rfl rfl rfl ?_
    with_reducible refine xo_nil ?_
    with_reducible repeat (first | refine xq_then ?_ | refine xq_blockN ?_ | refine xq_scopeN ?_)
    with_reducible repeat refine xc_seq ?_
    with_reducible refine xc_region ?_
    refine xo_mv rfl rfl rfl ?_
    refine xo_len T_ rfl rfl rfl rfl ?_
    refine xo_mv rfl rfl rfl ?_
    with_reducible refine xo_nil ?_
    with_reducible repeat (first | refine xq_then ?_ | refine xq_blockN ?_ | refine xq_scopeN ?_)
    with_reducible repeat refine xc_seq ?_
    with_reducible refine xc_block ?_
    refine xc_loop (γ := Nat) (fun i => i ≤ way.length ∧ allIn bs way = allIn bs (way.drop i)) (fun i => [(1, .pointer (some ⟨b1, 0, none⟩)), (14, .slice (some ad) ways.length c), (15, .int .i64 (ways.length : Int)), (16, .int .i64 (j : Int)), (20, .slice A3 way.length c3), (21, .int .i64 (way.length : Int)), (22, .int .i64 (i : Int))])
      (fun _ => [(b1, true, cel [.int .i64 id, .int .u8 kd, .slice (some ad) ways.length c, .map (some M)] 113), (M, false, hmap (setV bs))]) (fun i => way.length - i) 0 ⟨Nat.zero_le _, rfl⟩ ⟨rfl, rfl, rfl, rfl, rfl, rfl, rfl, trivial⟩ (by repeat (first | exact List.Sublist.refl _ | apply List.Sublist.cons_cons | apply List.Sublist.cons | exact List.nil_sublist _)) ?_
    rintro i ⟨hi, hall⟩
    with_reducible repeat refine xc_seq ?_
    with_reducible refine xc_region ?_
    refine xo_lss rfl rfl rfl rfl ?_
    with_reducible refine xo_nil ?_
    with_reducible repeat (first | refine xq_then ?_ | refine xq_blockN ?_ | refine xq_scopeN ?_)
    with_reducible repeat refine xc_seq ?_
    refine xc_cond rfl (fun hi2 => ?_) (fun hi2 => ?_)
    · have hil : i < way.length := by have := of_decide_eq_true hi2; omega
      obtain ⟨ad3, rfl, r3⟩ := int_at hw3 i hil
      rw [drop_at way 0 i hil, allIn_cons] at hall
      generalize way.getD i 0 = y at *
      with_reducible refine xc_skip ?_
      with_reducible repeat (first | refine xq_then ?_ | refine xq_blockN ?_ | refine xq_scopeN ?_)
      with_reducible repeat refine xc_seq ?_
      with_reducible refine xc_block ?_
      with_reducible repeat refine xc_seq ?_
      with_reducible refine xc_region ?_
      refine xo_ia T_ rfl rfl rfl rfl rfl ⟨by omega, by omega⟩ rfl ?_
      refine xo_loadR0 T_ rfl rfl rfl (by first | assumption | exact RO.fld (by assumption) rfl) rfl ?_
      refine xo_asg rfl rfl rfl ?_
      with_reducible refine xo_nil ?_
      with_reducible repeat (first | refine xq_then ?_ | refine xq_blockN ?_ | refine xq_scopeN ?_)
      with_reducible repeat refine xc_seq ?_
      with_reducible refine xc_region ?_
      refine xo_fa T_ rfl rfl rfl rfl rfl ?_
      refine xo_load0 T_ rfl rfl rfl (by repeat (first | exact List.Mem.head _ | apply List.Mem.tail | apply List.mem_append_right)) rfl rfl ?_
      refine xo_mv rfl rfl rfl ?_
      refine xo_sget T_ rfl rfl rfl rfl rfl rfl (by repeat (first | exact List.Mem.head _ | apply List.Mem.tail | apply List.mem_append_right)) rfl ?_
      refine xo_notOp rfl rfl rfl ?_
      with_reducible refine xo_nil ?_
      with_reducible repeat (first | refine xq_then ?_ | refine xq_blockN ?_ | refine xq_scopeN ?_)
      with_reducible repeat refine xc_seq ?_
      refine xc_cond rfl (fun h5 => ?_) (fun h5 => ?_)
      · with_reducible refine xc_exit ?_
        with_reducible repeat (first | refine xq_blockX ?_ | refine xq_thenE ?_ | refine xq_blockE rfl ?_ | refine xq_scopeE ?_)
        with_reducible repeat (first | refine xq_then ?_ | refine xq_blockN ?_ | refine xq_scopeN ?_)
        with_reducible repeat refine xc_seq ?_
        with_reducible refine xc_region ?_
        refine xo_add rfl rfl rfl (by omega) rfl ?_
        refine xo_mv rfl rfl rfl ?_
        with_reducible refine xo_nil ?_
        with_reducible repeat (first | refine xq_then ?_ | refine xq_blockN ?_ | refine xq_scopeN ?_)
        simp only [Bool.not_eq_true'] at h5
        refine xq_again _ _ _ _ _ (j + 1) ⟨hjl, ?_⟩ (by first | omega | (simp only; omega)) ⟨rfl, rfl, rfl, rfl, trivial⟩ (by repeat (first | exact List.Sublist.refl _ | apply List.Sublist.cons_cons | apply List.Sublist.cons | exact List.nil_sublist _))
        rw [hany, hall, h5, Bool.false_and, Bool.false_or]
      · with_reducible refine xc_skip ?_
        with_reducible repeat (first | refine xq_then ?_ | refine xq_blockN ?_ | refine xq_scopeN ?_)
        with_reducible repeat refine xc_seq ?_
        with_reducible refine xc_region ?_
        refine xo_add rfl rfl rfl (by omega) rfl ?_
        refine xo_mv rfl rfl rfl ?_
        with_reducible refine xo_nil ?_
        with_reducible repeat (first | refine xq_then ?_ | refine xq_blockN ?_ | refine xq_scopeN ?_)
        simp only [Bool.not_eq_false'] at h5
        refine xq_again _ _ _ _ _ (i + 1) ⟨hil, ?_⟩ (by first | omega | (simp only; omega)) ⟨rfl, rfl, rfl, rfl, rfl, rfl, rfl, trivial⟩ (by repeat (first | exact List.Sublist.refl _ | apply List.Sublist.cons_cons | apply List.Sublist.cons | exact List.nil_sublist _))
        rw [hall, h5, Bool.true_and]
    · have hige : ¬ i < way.length := by have := of_decide_eq_false hi2; omega
      rw [List.drop_of_length_le (by omega)] at hall
      with_reducible refine xc_exit ?_
      with_reducible repeat (first | refine xq_blockX ?_ | refine xq_thenE ?_ | refine xq_blockE rfl ?_ | refine xq_scopeE ?_)
      with_reducible repeat (first | refine xq_then ?_ | refine xq_blockN ?_ | refine xq_scopeN ?_)
      with_reducible repeat refine xc_seq ?_
      with_reducible refine xc_region ?_
      refine xo_asg rfl rfl rfl ?_
      with_reducible refine xo_nil ?_
      with_reducible repeat (first | refine xq_then ?_ | refine xq_blockN ?_ | refine xq_scopeN ?_)
      with_reducible repeat refine xc_seq ?_
      with_reducible refine xc_ret ?_
      with_reducible repeat (first | refine xq_thenR ?_ | refine xq_blockR ?_ | refine xq_scopeR ?_)
      refine xq_ret1 rfl rfl fun w' hw => ⟨?_, hw.kx.below⟩
      rw [standsF, hd, hany, hall]
      rfl
  · have hjge : ¬ j < ways.length := by have := of_decide_eq_false hj2; omega
    rw [List.drop_of_length_le (by omega)] at hany
    with_reducible refine xc_exit ?_
    with_reducible repeat (first | refine xq_blockX ?_ | refine xq_thenE ?_ | refine xq_blockE rfl ?_ | refine xq_scopeE ?_)
    with_reducible repeat (first | refine xq_then ?_ | refine xq_blockN ?_ | refine xq_scopeN ?_)
    with_reducible repeat refine xc_seq ?_
    with_reducible refine xc_region ?_
    refine xo_asg rfl rfl rfl ?_
    with_reducible refine xo_nil ?_
    with_reducible repeat (first | refine xq_then ?_ | refine xq_blockN ?_ | refine xq_scopeN ?_)
    with_reducible repeat refine xc_seq ?_
    with_reducible refine xc_ret ?_
    with_reducible repeat (first | refine xq_thenR ?_ | refine xq_blockR ?_ | refine xq_scopeR ?_)
    refine xq_ret1 rfl rfl fun w' hw => ⟨?_, hw.kx.below⟩
    rw [standsF, hd, hany]
    rfl
theorem stands_enters : ∀ args w, (callFunc 71 args).run Tryd.prog w = .ok (.enter 71 args) w := enters_of Tryd.func71 (by kernel_rfl) rfl
end Go.Proofs.YtcmepdamemnbkaaDoor
namespace Go.Proofs.YtcmepdamemnbkaaDoor
open Go.RowKit
set_option linter.unusedVariables false
set_option linter.unusedSimpArgs false
set_option maxHeartbeats 4000000 in
theorem appendSeq_calls (g : Nat) (cs : List Value) (eg : ∀ args w, (callFunc g args).run Tryd.prog w = .ok (.enter g args) w) (need : Nat → Prop) (xs : List Int) (w : World) (hit : Iter Tryd.prog g cs w need xs) (hneed : ∀ k, need k → k < w.heap.size) (hlen : xs.length ≤ 1000000) :
    Calls Tryd.prog 74 #[.slice none 0 0, .func (.func g) #[] cs.toArray] w fun e w' => ∃ r : RowR, e = .returned (valR r xs.length) ∧ RowAt 3 w.heap.size w' r xs ∧ Below w.heap.size w w' := by
  refine x_callsM 3 Tryd.func74 rfl rfl rfl (WOK.start XNone w) ?_
  with_reducible repeat refine xc_seq ?_
  with_reducible refine xc_region ?_
  refine xo_box rfl rfl rfl rfl (fun b2 => ?_)
  refine xo_asg rfl rfl rfl ?_
  with_reducible refine xo_nil ?_
  with_reducible repeat (first | refine xq_then ?_ | refine xq_blockN ?_ | refine xq_scopeN ?_)
  with_reducible repeat refine xc_seq ?_
  with_reducible refine xc_region ?_
  refine xo_mv rfl rfl rfl ?_
  with_reducible refine xo_nil ?_
  with_reducible repeat (first | refine xq_then ?_ | refine xq_blockN ?_ | refine xq_scopeN ?_)
  with_reducible repeat refine xc_seq ?_
  with_reducible refine xc_block ?_
  refine xc_know (φ := w.heap.size ≤ b2) (fun w1 hw1 => hw1.own (by repeat (first | exact List.Mem.head _ | apply List.Mem.tail | apply List.mem_append_right))) fun hb2 => ?_
  refine xc_range (by omega) rfl eg rfl (fun k => k < w.heap.size) (fun w1 hw1 k hk => Nat.lt_of_lt_of_le hk hw1.kx.size) (fun w1 hw1 => hit w1 hw1.kx.size (fun k hk => hw1.kx.below.block k (hneed k hk)) _ hneed _)
    (γ := RowR) (fun ys r => (r = none → ys = []) ∧ ∀ p, r = some p → w.heap.size ≤ p.1) (fun ys r => hpR 3 1 r ys.length (ys.map (.int .i64)) ++ [(b2, true, cel [valR r ys.length] 33)]) none ⟨fun _ => rfl, fun p h => by cases h⟩ (List.Sublist.refl _) ?_ ?_ (fun x => [(2, .pointer (some ⟨b2, 0, none⟩)), (5, .int .i64 x)]) ?_ ?_ ?_
  · intro ys r hC e he
    left
    intro o ho
    rcases List.mem_append.1 he with he | he
    · cases r with
      | none => cases he
      | some p =>
        simp only [hpR, List.mem_singleton] at he
        subst he
        obtain ⟨cur, rfl, _⟩ := ho
        rfl
    · simp only [List.mem_singleton] at he
      subst he
      rw [show o = _ from ho]
      rfl
  · rintro ys r ⟨_, hC⟩ e he _
    rcases List.mem_append.1 he with he | he
    · cases r with
      | none => cases he
      | some p =>
        simp only [hpR, List.mem_singleton] at he
        subst he
        exact Nat.not_lt.2 (hC p rfl)
    · simp only [List.mem_singleton] at he
      subst he
      exact Nat.not_lt.2 hb2
  · intro l x W
    with_reducible repeat refine xc_seq ?_
    with_reducible refine xc_region ?_
    refine xo_asg rfl rfl rfl ?_
    with_reducible refine xo_nil ?_
    with_reducible repeat (first | refine xq_then ?_ | refine xq_blockN ?_ | refine xq_scopeN ?_)
    exact fun a w1 ha hw1 => ⟨ha.sub ⟨rfl, rfl, trivial⟩, hw1.kx⟩
  · rintro l ys x r W ⟨hC1, hC2⟩ hlt hW
    with_reducible repeat refine xc_seq ?_
    with_reducible refine xc_block ?_
    with_reducible repeat refine xc_seq ?_
    with_reducible refine xc_region ?_
    refine xo_load0 T_ rfl rfl rfl (by repeat (first | exact List.Mem.head _ | apply List.Mem.tail | apply List.mem_append_right)) rfl rfl ?_
    refine xo_mv rfl rfl rfl ?_
    refine xo_bs1 T_ rfl rfl rfl rfl rfl rfl rfl rfl (fun b10 => ?_)
    refine xo_app TR_ rfl rfl rfl rfl rfl rfl rfl rfl (by simp) rfl rfl (fun h => by rw [hC1 h]; rfl) (by omega) rfl rfl (fun r' hr' => ?_)
    rcases r' with _ | ⟨g', cap'⟩
    · exact absurd rfl hr'
    refine xo_store T_ rfl rfl rfl rfl (by repeat (first | exact List.Mem.head _ | apply List.Mem.tail | apply List.mem_append_right)) rfl rfl rfl rfl (by repeat (first | exact Upd.head | apply Upd.tail | apply Upd.app)) rfl ?_
    with_reducible refine xo_nil ?_
    with_reducible repeat (first | refine xq_then ?_ | refine xq_blockN ?_ | refine xq_scopeN ?_)
    intro a w1 ha hw1
    refine ⟨some (g', cap'), ⟨(fun h => by cases h), fun p hp => ?_⟩, ?_⟩
    · cases hp
      rcases hw1.ow (g', true, _) (by repeat (first | exact List.Mem.head _ | apply List.Mem.tail | apply List.mem_append_right)) rfl with h1 | ⟨e, he, _, rfl⟩
      · exact Nat.le_trans hW.kx.size h1
      · rcases List.mem_append.1 he with he | he
        · cases r with
          | none => cases he
          | some p =>
            simp only [hpR, List.mem_singleton] at he
            subst he
            exact hC2 p rfl
        · simp only [List.mem_singleton] at he
          subst he
          exact hb2
    · have e1 : (ys ++ [x]).length = ys.length + 1 := by simp
      have e2 : (ys ++ [x]).map (Value.int .i64) = ys.map (Value.int .i64) ++ [Value.int .i64 x] := by simp
      show WOK W _ (hpR 3 1 (some (g', cap')) (ys ++ [x]).length ((ys ++ [x]).map (.int .i64)) ++ [(b2, true, cel [valR (some (g', cap')) (ys ++ [x]).length] 33)]) w1
      rw [e1, e2]
      exact hw1
  · rintro D r ⟨hC1, hC2⟩
    with_reducible repeat (first | refine xq_then ?_ | refine xq_blockN ?_ | refine xq_scopeN ?_)
    with_reducible repeat refine xc_seq ?_
    with_reducible refine xc_region ?_
    refine xo_load0 T_ rfl rfl rfl (by repeat (first | exact List.Mem.head _ | apply List.Mem.tail | apply List.mem_append_right)) rfl rfl ?_
    refine xo_asg rfl rfl rfl ?_
    with_reducible refine xo_nil ?_
    with_reducible repeat (first | refine xq_then ?_ | refine xq_blockN ?_ | refine xq_scopeN ?_)
    with_reducible repeat refine xc_seq ?_
    with_reducible refine xc_ret ?_
    with_reducible repeat (first | refine xq_thenR ?_ | refine xq_blockR ?_ | refine xq_scopeR ?_)
    refine xq_retM1 rfl rfl fun w1 hw1 => ⟨r, rfl, ⟨hC1, fun p hp => ⟨hC2 p hp, ?_⟩⟩, hw1.kx.below⟩
    subst hp
    exact hw1.bl (p.1, true, orow 3 1 xs.length p.2 (xs.map (.int .i64))) (List.Mem.head _)
theorem collect_calls (g : Nat) (cs : List Value) (eg : ∀ args w, (callFunc g args).run Tryd.prog w = .ok (.enter g args) w) (need : Nat → Prop) (xs : List Int) (w : World) (hit : Iter Tryd.prog g cs w need xs) (hneed : ∀ k, need k → k < w.heap.size) (hlen : xs.length ≤ 1000000) :
    Calls Tryd.prog 56 #[.func (.func g) #[] cs.toArray] w fun e w' => ∃ r : RowR, e = .returned (valR r xs.length) ∧ RowAt 3 w.heap.size w' r xs ∧ Below w.heap.size w w' := by
  have eg2 := enters_of Tryd.func74 (by kernel_rfl) rfl
  refine x_calls (X := XNone) Tryd.func56 rfl rfl rfl ?_
  with_reducible repeat refine xc_seq ?_
  with_reducible refine xc_region ?_
  refine xo_asg rfl rfl rfl ?_
  with_reducible refine xo_nil ?_
  with_reducible repeat (first | refine xq_then ?_ | refine xq_blockN ?_ | refine xq_scopeN ?_)
  with_reducible repeat refine xc_seq ?_
  with_reducible refine xc_region ?_
  refine xo_mv rfl rfl rfl ?_
  refine xo_call (fs := []) (cs := []) rfl rfl rfl eg2 rfl (fun w1 hw1 => (appendSeq_calls g cs eg need xs w1 (fun w2 h1 h2 => hit w2 (Nat.le_trans hw1.kx.size h1) (fun k hk => (h2 k hk).trans (hw1.kx.below.block k (hneed k hk)))) (fun k hk => Nat.lt_of_lt_of_le (hneed k hk) hw1.kx.size) hlen).mono ?_)
  rintro e w2 ⟨r, rfl, hrow, hb⟩
  refine ⟨_, _, rfl, hw1.row hb hrow, ?_⟩
  refine xo_asg rfl rfl rfl ?_
  with_reducible refine xo_nil ?_
  with_reducible repeat (first | refine xq_then ?_ | refine xq_blockN ?_ | refine xq_scopeN ?_)
  with_reducible repeat refine xc_seq ?_
  with_reducible refine xc_ret ?_
  with_reducible repeat (first | refine xq_thenR ?_ | refine xq_blockR ?_ | refine xq_scopeR ?_)
  exact xq_ret1 rfl rfl fun w3 hw3 => ⟨r, rfl, RowAt.of hw3 hrow.1, hw3.kx.below⟩
theorem collect_enters : ∀ args w, (callFunc 56 args).run Tryd.prog w = .ok (.enter 56 args) w := enters_of Tryd.func56 (by kernel_rfl) rfl
end Go.Proofs.YtcmepdamemnbkaaDoor
namespace Go.Proofs.YtcmepdamemnbkaaDoor
open Go.RowKit Go.Proofs.YtcmepdamemnbkaaDoorW.PrintWords
set_option linter.unusedVariables false
set_option linter.unusedSimpArgs false
def holdsL (gone : List Int) : List Int → List RecT → List Int
  | _, [] => []
  | bs, x :: r => if decide (x.f0 ∈ gone) || !standsF bs x.f2 then holdsL gone bs r else x.f0 :: holdsL gone (insN x.f0 bs) r
def holdsF (r : List RecT) (gone : List Int) : List Int := holdsL gone [] r
theorem holds_calls (A : Option Addr) (n c : Nat) (M0 G : Nat) (w : World) :
    Calls Tryd.prog 51 #[.agg #[.slice A n c, .map (some M0)], .map (some G)] w fun e w' => ∃ b2 b3, e = .returned (.func (.func 70) #[] #[.pointer (some ⟨b2, 0, none⟩), .pointer (some ⟨b3, 0, none⟩)]) ∧ w.heap.size ≤ b2 ∧ w.heap.size ≤ b3 ∧ b2 ≠ b3 ∧
      w'.heap[b2]? = some (.cells #[.slice A n c, .map (some M0)] 91 (0, 0)) ∧ w'.heap[b3]? = some (.cells #[.map (some G)] 62 (0, 0)) ∧ Below w.heap.size w w' := by
  refine x_calls (X := XNone) Tryd.func51 rfl rfl rfl ?_
  with_reducible repeat refine xc_seq ?_
  with_reducible refine xc_region ?_
  refine xo_box rfl rfl rfl rfl (fun b2 => ?_)
  refine xo_box rfl rfl rfl rfl (fun b3 => ?_)
  refine xo_asg rfl rfl rfl ?_
  with_reducible refine xo_nil ?_
  with_reducible repeat (first | refine xq_then ?_ | refine xq_blockN ?_ | refine xq_scopeN ?_)
  with_reducible repeat refine xc_seq ?_
  with_reducible refine xc_region ?_
  refine xo_mkf rfl rfl rfl rfl ?_
  refine xo_asg rfl rfl rfl ?_
  with_reducible refine xo_nil ?_
  with_reducible repeat (first | refine xq_then ?_ | refine xq_blockN ?_ | refine xq_scopeN ?_)
  with_reducible repeat refine xc_seq ?_
  with_reducible refine xc_ret ?_
  with_reducible repeat (first | refine xq_thenR ?_ | refine xq_blockR ?_ | refine xq_scopeR ?_)
  refine xq_ret1 rfl rfl fun w' hw => ⟨b2, b3, rfl, hw.own (by repeat (first | exact List.Mem.head _ | apply List.Mem.tail | apply List.mem_append_right)), hw.own (by repeat (first | exact List.Mem.head _ | apply List.Mem.tail | apply List.mem_append_right)), ?_, hw.obj (wr := true) (cs := [.slice A n c, .map (some M0)]) (by repeat (first | exact List.Mem.head _ | apply List.Mem.tail | apply List.mem_append_right)), hw.obj (wr := true) (cs := [.map (some G)]) (by repeat (first | exact List.Mem.head _ | apply List.Mem.tail | apply List.mem_append_right)), hw.kx.below⟩
  have := hw.nd
  simp at this
  exact fun e => this e.symm
theorem holds_enters : ∀ args w, (callFunc 51 args).run Tryd.prog w = .ok (.enter 51 args) w := enters_of Tryd.func51 (by kernel_rfl) rfl
theorem iter_enters : ∀ args w, (callFunc 70 args).run Tryd.prog w = .ok (.enter 70 args) w := enters_of Tryd.func70 (by kernel_rfl) rfl
theorem C_same {wB w : World} (hs : SameB wB w) {α : Type} {d : Kd α} (hd : ∀ x cs, d.K wB x cs → d.K w x cs) {A : Option Addr} {n : Nat} {xs : List α} (h : Kd.C d wB A n xs) : Kd.C d w A n xs := by
  refine ⟨h.1, h.2.1, fun hn => ?_⟩
  obtain ⟨ad, e, hc⟩ := h.2.2 hn
  refine ⟨ad, e, fun j p hj => ?_⟩
  obtain ⟨cs, h1, h2, h3⟩ := hc j p hj
  exact ⟨cs, h1, hd _ _ h2, fun i u hu => hs.cell (h3 i u hu)⟩
theorem ints_same {wB w : World} (hs : SameB wB w) {A : Option Addr} {n : Nat} {xs : List Int} (h : Kd.C (Kd.int .i64) wB A n xs) : Kd.C (Kd.int .i64) w A n xs := C_same hs (fun x cs h => h) h
theorem ways_same {wB w : World} (hs : SameB wB w) {A : Option Addr} {n : Nat} {xs : List (List Int)} (h : Kd.C waysK wB A n xs) : Kd.C waysK w A n xs :=
  C_same (d := waysK) hs (fun x cs h => by obtain ⟨A, c, h1, h2, h3⟩ := h; exact ⟨A, c, h1, h2, ints_same hs h3⟩) h
/-- what the iterator needs -/
def needOf (w0 : World) (b2 b3 G : Nat) : Nat → Prop := fun k => k < w0.heap.size ∨ k = b2 ∨ k = b3 ∨ k = G
set_option maxHeartbeats 4000000 in
theorem iter_holds (A : Option Addr) (c : Nat) (r : List RecT) (gone : List Int) (M0 G b2 b3 : Nat) (w0 wB : World) (hr : Kd.C recK w0 A r.length r) (h0B : SameB w0 wB) (hsz0 : w0.heap.size ≤ wB.heap.size)
    (h2 : wB.heap[b2]? = some (.cells #[.slice A r.length c, .map (some M0)] 91 (0, 0))) (h3 : wB.heap[b3]? = some (.cells #[.map (some G)] 62 (0, 0))) (hG : IMap wB G (setV gone)) (h23 : b2 ≠ b3) :
    Iter Tryd.prog 70 [.pointer (some ⟨b2, 0, none⟩), .pointer (some ⟨b3, 0, none⟩)] wB (needOf w0 b2 b3 G) (holdsF r gone) := by
  have hn := hr.2.1
  intro w hszB hneed K hK m l J Jx W hW hJ hJx hY h0
  have lt2 : b2 < wB.heap.size := (Array.getElem?_eq_some_iff.1 h2).1
  have lt3 : b3 < wB.heap.size := (Array.getElem?_eq_some_iff.1 h3).1
  have ltG := hG.lt
  have hWn : ∀ k, needOf w0 b2 b3 G k → W.heap[k]? = wB.heap[k]? := fun k hk => by
    have hkl : k < wB.heap.size := by rcases hk with h | h | h | h <;> omega
    exact (hW.block k (by omega)).trans (hneed k hk)
  have g2 : W.heap[b2]? = _ := (hWn b2 (.inr (.inl rfl))).trans h2
  have g3 : W.heap[b3]? = _ := (hWn b3 (.inr (.inr (.inl rfl)))).trans h3
  have gG : IMap W G (setV gone) := hG.at_ (hWn G (.inr (.inr (.inr rfl))))
  have hS0 : SameB w0 W := fun k hk => (hWn k (.inl hk)).trans (h0B k hk)
  have hszW : w0.heap.size ≤ W.heap.size := by have := hW.size; omega
  have n2G : b2 ≠ G := fun e => by obtain ⟨es, cl, h, _⟩ := gG; rw [← e, g2] at h; cases h
  have n3G : b3 ≠ G := fun e => by obtain ⟨es, cl, h, _⟩ := gG; rw [← e, g3] at h; cases h
  have hw0 : WOK W XNone [(b2, false, cel [.slice A r.length c, .map (some M0)] 91), (b3, false, cel [.map (some G)] 62), (G, false, hmap (setV gone))] W := by
    refine ⟨Kx.refl _ W, ?_, by simp [h23, n2G, n3G], by simp⟩
    intro e he
    simp only [List.mem_cons, List.not_mem_nil, or_false] at he
    rcases he with rfl | rfl | rfl
    · exact ⟨_, g2, rfl⟩
    · exact ⟨_, g3, rfl⟩
    · exact hmap_of gG
  refine x_iter Tryd.func70 rfl rfl rfl hw0 ?_
  with_reducible repeat refine xc_seq ?_
  with_reducible refine xc_region ?_
  refine xo_mkm rfl rfl (fun b8 => ?_)
  refine xo_asg rfl rfl rfl ?_
  with_reducible refine xo_nil ?_
  with_reducible repeat (first | refine xq_then ?_ | refine xq_blockN ?_ | refine xq_scopeN ?_)
  with_reducible repeat refine xc_seq ?_
  with_reducible refine xc_region ?_
  refine xo_fa T_ rfl rfl rfl rfl rfl ?_
  refine xo_load0 T_ rfl rfl rfl (by repeat (first | exact List.Mem.head _ | apply List.Mem.tail | apply List.mem_append_right)) rfl rfl ?_
  refine xo_len T_ rfl rfl rfl rfl ?_
  refine xo_mv rfl rfl rfl ?_
  with_reducible refine xo_nil ?_
  with_reducible repeat (first | refine xq_then ?_ | refine xq_blockN ?_ | refine xq_scopeN ?_)
  with_reducible repeat refine xc_seq ?_
  with_reducible refine xc_block ?_
  refine xc_loopJ (γ := Nat × List Int × List Int) (fun q => q.1 ≤ r.length ∧ q.2.2 ++ holdsL gone q.2.1 (r.drop q.1) = holdsF r gone) (fun q => [(0, .func (.yield l) #[] #[]), (2, .pointer (some ⟨b3, 0, none⟩)), (4, .map (some b8)), (10, .slice A r.length c), (11, .int .i64 (r.length : Int)), (12, .int .i64 (q.1 : Int))])
    (fun q => [(b8, true, hmap (setV q.2.1)), (b3, false, cel [.map (some G)] 62), (G, false, hmap (setV gone))]) (fun q w => J q.2.2 w ∧ W.heap.size ≤ b8 ∧ W.heap.size ≤ w.heap.size ∧ SameB w0 w) (fun q => r.length - q.1) (0, [], []) ⟨Nat.zero_le _, rfl⟩ ⟨rfl, rfl, rfl, rfl, rfl, rfl, trivial⟩
    (fun w1 hw1 => ⟨hw1.bok (by repeat (first | exact List.Sublist.refl _ | apply List.Sublist.cons_cons | apply List.Sublist.cons | exact List.nil_sublist _)), hJ _ _ _ none h0 (hw1.kx.grown (fun k q => q.elim)) (fun r e => by cases e), hw1.own (b := b8) (by repeat (first | exact List.Mem.head _ | apply List.Mem.tail | apply List.mem_append_right)), hw1.kx.size, hS0.kx hszW hw1.kx (fun b q => q.elim)⟩) ?_
  rintro ⟨k, bs, ys⟩ ⟨hk1, hys⟩ wr hbok ⟨hJr, hb8, hszr, hSr⟩
  simp only at hk1 hys hJr ⊢
  have hXW : ∀ b, XW [(b8, true, hmap (setV bs)), (b3, false, cel [.map (some G)] 62), (G, false, hmap (setV gone))] b → b8 = b := by
    rintro b ⟨e, he, hwr, rfl⟩
    simp only [List.mem_cons, List.not_mem_nil, or_false] at he
    rcases he with rfl | rfl | rfl
    · rfl
    · cases hwr
    · cases hwr
  have hX0 : ∀ b, XW [(b8, true, hmap (setV bs)), (b3, false, cel [.map (some G)] 62), (G, false, hmap (setV gone))] b → w0.heap.size ≤ b := fun b h => by have := hXW b h; omega
  have hszr0 : w0.heap.size ≤ wr.heap.size := by omega
  have hwalk : ∀ wx, IMap wx b8 (setV bs) → ∀ q, some b8 = some q → W.heap.size ≤ q ∧ ∃ o : Obj, wx.heap[q]? = some o ∧ o.isWalk = true := fun wx ⟨es, cl, h, _⟩ q e => by
    cases e
    exact ⟨hb8, _, h, rfl⟩
  have hMr : IMap wr b8 (setV bs) := by
    obtain ⟨o, h5, h6⟩ := hbok.bl (b8, true, hmap (setV bs)) (by repeat (first | exact List.Mem.head _ | apply List.Mem.tail | apply List.mem_append_right))
    exact imap_of h5 h6
  have hJn : ∀ (X : Nat → Prop) (w1 : World), (∀ b, X b → b8 = b) → Kx X wr w1 → J ys w1 := fun X w1 hX kx => hJ ys wr w1 (some b8) hJr (kx.grown (fun k q => congrArg some (hX k q))) (hwalk wr hMr)
  with_reducible repeat refine xc_seq ?_
  with_reducible refine xc_region ?_
  refine xo_lss rfl rfl rfl rfl ?_
  with_reducible refine xo_nil ?_
  with_reducible repeat (first | refine xq_then ?_ | refine xq_blockN ?_ | refine xq_scopeN ?_)
  with_reducible repeat refine xc_seq ?_
  refine xc_cond rfl (fun h => ?_) (fun h => ?_)
  · have hlt : k < r.length := by have := of_decide_eq_true h; omega
    obtain ⟨ad, A2, c2, rfl, r1, hc2, hw2⟩ := rec_at hr k hlt
    replace r1 := r1.same hSr hX0
    rw [drop_at r zRec k hlt, holdsL] at hys
    generalize r.getD k zRec = x at *
    with_reducible refine xc_skip ?_
    with_reducible repeat (first | refine xq_then ?_ | refine xq_blockN ?_ | refine xq_scopeN ?_)
    with_reducible repeat refine xc_seq ?_
    with_reducible refine xc_block ?_
    with_reducible repeat refine xc_seq ?_
    with_reducible refine xc_region ?_
    refine xo_ia T_ rfl rfl rfl rfl rfl ⟨by omega, by omega⟩ rfl ?_
    refine xo_loadRN T_ rfl rfl rfl (by assumption) rfl rfl ?_
    refine xo_alloc T_ rfl rfl rfl rfl (fun b6 => ?_)
    refine xo_store T_ rfl rfl rfl rfl (by repeat (first | exact List.Mem.head _ | apply List.Mem.tail | apply List.mem_append_right)) rfl rfl rfl rfl (by repeat (first | exact Upd.head | apply Upd.tail | apply Upd.app)) rfl ?_
    with_reducible refine xo_nil ?_
    with_reducible repeat (first | refine xq_then ?_ | refine xq_blockN ?_ | refine xq_scopeN ?_)
    with_reducible repeat refine xc_seq ?_
    with_reducible refine xc_region ?_
    refine xo_loadN T_ rfl rfl rfl (by repeat (first | exact List.Mem.head _ | apply List.Mem.tail | apply List.mem_append_right)) rfl rfl ?_
    refine xo_mv rfl rfl rfl ?_
    refine xo_build TB_ rfl rfl rfl rfl rfl ?_
    refine xo_alloc T_ rfl rfl rfl rfl (fun b7 => ?_)
    refine xo_store T_ rfl rfl rfl rfl (by repeat (first | exact List.Mem.head _ | apply List.Mem.tail | apply List.mem_append_right)) rfl rfl rfl rfl (by repeat (first | exact Upd.head | apply Upd.tail | apply Upd.app)) rfl ?_
    with_reducible refine xo_nil ?_
    with_reducible repeat (first | refine xq_then ?_ | refine xq_blockN ?_ | refine xq_scopeN ?_)
    cases hgo : decide (x.f0 ∈ gone) <;> cases hst : !standsF bs x.f2
    all_goals
      with_reducible repeat refine xc_seq ?_
      with_reducible refine xc_region ?_
      refine xo_load0 T_ rfl rfl rfl (by repeat (first | exact List.Mem.head _ | apply List.Mem.tail | apply List.mem_append_right)) rfl rfl ?_
      refine xo_fa T_ rfl rfl rfl rfl rfl ?_
      refine xo_fa T_ rfl rfl rfl rfl rfl ?_
      refine xo_load0 T_ rfl rfl rfl (by repeat (first | exact List.Mem.head _ | apply List.Mem.tail | apply List.mem_append_right)) rfl rfl ?_
      refine xo_sget T_ rfl rfl rfl rfl rfl rfl (by repeat (first | exact List.Mem.head _ | apply List.Mem.tail | apply List.mem_append_right)) rfl ?_
      refine xo_mv rfl rfl rfl ?_
      refine xo_as (i := 24) rfl (congrArg Value.bool hgo) ?_
      first
        | refine xo_not rfl rfl ?_
        | (refine xo_loadN T_ rfl rfl rfl (by repeat (first | exact List.Mem.head _ | apply List.Mem.tail | apply List.mem_append_right)) rfl rfl ?_)
      first
        | refine xo_not rfl rfl ?_
        | (refine xo_callB (fs := []) (cs := []) rfl rfl rfl stands_enters rfl (fun w1 hw1 => stands_calls x.f0 x.f1 A2 c2 b8 x.f2 bs w1 (ways_same (hSr.kx hszr0 hw1.kx hX0) hw2) (hw1.imap (wr := true) (by repeat (first | exact List.Mem.head _ | apply List.Mem.tail | apply List.mem_append_right)))) ?_)
      first
        | refine xo_not rfl rfl ?_
        | (refine xo_notOp rfl rfl rfl ?_)
      first | refine xo_pickT rfl rfl rfl rfl ?_ | refine xo_pickF rfl rfl rfl rfl ?_
      first | refine xo_as (i := 28) rfl (congrArg Value.bool hst) ?_ | skip
      with_reducible refine xo_nil ?_
      with_reducible repeat (first | refine xq_then ?_ | refine xq_blockN ?_ | refine xq_scopeN ?_)
      with_reducible repeat refine xc_seq ?_
      first | refine xc_condT rfl ?_ | refine xc_condF rfl ?_
    rotate_left
    iterate 3
      · with_reducible refine xc_exit ?_
        with_reducible repeat (first | refine xq_blockX ?_ | refine xq_thenE ?_ | refine xq_blockE rfl ?_ | refine xq_scopeE ?_)
        with_reducible repeat (first | refine xq_then ?_ | refine xq_blockN ?_ | refine xq_scopeN ?_)
        with_reducible repeat refine xc_seq ?_
        with_reducible refine xc_region ?_
        refine xo_add rfl rfl rfl (by omega) rfl ?_
        refine xo_mv rfl rfl rfl ?_
        with_reducible refine xo_nil ?_
        with_reducible repeat (first | refine xq_then ?_ | refine xq_blockN ?_ | refine xq_scopeN ?_)
        refine xq_againJ _ _ _ _ _ _ (k + 1, bs, ys) ⟨hlt, ?_⟩ (by first | omega | (simp only; omega)) ⟨rfl, rfl, rfl, rfl, rfl, rfl, trivial⟩ (fun w1 hw1 => ⟨hw1.bok (by repeat (first | exact List.Sublist.refl _ | apply List.Sublist.cons_cons | apply List.Sublist.cons | exact List.nil_sublist _)), hJn _ _ hXW hw1.kx, hb8, Nat.le_trans hszr hw1.kx.size, hSr.kx hszr0 hw1.kx hX0⟩)
        simpa only [hgo, hst, Bool.true_or, Bool.or_true, Bool.false_or, Bool.or_false, ↓reduceIte] using hys
    have hys2 : ys ++ x.f0 :: holdsL gone (insN x.f0 bs) (r.drop (k + 1)) = holdsF r gone := by simpa only [hgo, hst, Bool.or_self, Bool.false_eq_true, ↓reduceIte] using hys
    have hlen : ys.length < (holdsF r gone).length := by rw [← hys2]; simp
    with_reducible refine xc_skip ?_
    with_reducible repeat (first | refine xq_then ?_ | refine xq_blockN ?_ | refine xq_scopeN ?_)
    with_reducible repeat refine xc_seq ?_
    with_reducible refine xc_region ?_
    refine xo_mv rfl rfl rfl ?_
    refine xo_fa T_ rfl rfl rfl rfl rfl ?_
    refine xo_fa T_ rfl rfl rfl rfl rfl ?_
    refine xo_load0 T_ rfl rfl rfl (by repeat (first | exact List.Mem.head _ | apply List.Mem.tail | apply List.mem_append_right)) rfl rfl ?_
    refine xo_sins T_ rfl rfl rfl rfl rfl rfl (by repeat (first | exact List.Mem.head _ | apply List.Mem.tail | apply List.mem_append_right)) (by repeat (first | exact Upd.head | apply Upd.tail | apply Upd.app)) rfl ?_
    with_reducible refine xo_nil ?_
    with_reducible repeat (first | refine xq_then ?_ | refine xq_blockN ?_ | refine xq_scopeN ?_)
    with_reducible refine xc_seq ?_
    with_reducible repeat refine xc_seq ?_
    with_reducible refine xc_region ?_
    refine xo_mv rfl rfl rfl ?_
    refine xo_fa T_ rfl rfl rfl rfl rfl ?_
    refine xo_fa T_ rfl rfl rfl rfl rfl ?_
    refine xo_load0 T_ rfl rfl rfl (by repeat (first | exact List.Mem.head _ | apply List.Mem.tail | apply List.mem_append_right)) rfl rfl ?_
    refine xo_yield rfl rfl rfl rfl (fun w1 hw1 => ?_)
    obtain ⟨fn, tmps, assign, body, hy1, hy2⟩ := hY ys x.f0 w1 (hJn _ _ hXW hw1.kx) hlen
    refine ⟨fn, tmps, assign, body, hy1, hy2.mono ?_⟩
    have hS1 := hSr.kx hszr0 hw1.kx hX0
    have hM1 : IMap w1 b8 (setV (insN x.f0 bs)) := hw1.imap (wr := true) (by repeat (first | exact List.Mem.head _ | apply List.Mem.tail | apply List.mem_append_right))
    have hG1 : IMap w1 G (setV gone) := hw1.imap (wr := false) (by repeat (first | exact List.Mem.head _ | apply List.Mem.tail | apply List.mem_append_right))
    have h31 := hw1.obj (b := b3) (wr := false) (cs := [.map (some G)]) (t := 62) (by repeat (first | exact List.Mem.head _ | apply List.Mem.tail | apply List.mem_append_right))
    have hnd1 := hw1.nd
    have hsz1 := hw1.kx.size
    clear hw1 hy1 hy2 hys
    rintro e W3 (⟨rfl, hJ3, hk3⟩ | ⟨rfl, hJx3⟩)
    · have hM3 : IMap W3 b8 (setV (insN x.f0 bs)) := by
        obtain ⟨es, cl, h5, h6⟩ := hM1
        exact ⟨es, cl, hk3.2.2 b8 _ (by have := hW.size; omega) h5 rfl, h6⟩
      have hG3 : IMap W3 G (setV gone) := hG1.at_ (hk3.1 G (hK G (.inr (.inr (.inr rfl)))))
      have h33 := (hk3.1 b3 (hK b3 (.inr (.inr (.inl rfl))))).trans h31
      have hS3 : SameB w0 W3 := fun q hq => (hk3.1 q (hK q (.inl hq))).trans (hS1 q hq)
      have n83 : b8 ≠ b3 := by have := hW.size; omega
      have n8G : b8 ≠ G := by have := hW.size; omega
      have hsz3 : W.heap.size ≤ W3.heap.size := by have := hk3.2.1; omega
      have hbok3 : BOK [(b8, true, hmap (setV (insN x.f0 bs))), (b3, false, cel [.map (some G)] 62), (G, false, hmap (setV gone))] W3 := by
        refine ⟨?_, by simp [n83, n8G, n3G]⟩
        intro e he
        simp only [List.mem_cons, List.not_mem_nil, or_false] at he
        rcases he with rfl | rfl | rfl
        · exact hmap_of hM3
        · exact ⟨_, h33, rfl⟩
        · exact hmap_of hG3
      refine ⟨.bool true, _, W3, _, rfl, hbok3.wok, ?_⟩
      refine xo_notOp rfl rfl rfl ?_
      with_reducible refine xo_nil ?_
      with_reducible repeat (first | refine xq_then ?_ | refine xq_blockN ?_ | refine xq_scopeN ?_)
      with_reducible repeat refine xc_seq ?_
      refine xc_condF rfl ?_
      with_reducible refine xc_skip ?_
      with_reducible repeat (first | refine xq_then ?_ | refine xq_blockN ?_ | refine xq_scopeN ?_)
      with_reducible repeat refine xc_seq ?_
      with_reducible refine xc_region ?_
      refine xo_add rfl rfl rfl (by omega) rfl ?_
      refine xo_mv rfl rfl rfl ?_
      with_reducible refine xo_nil ?_
      with_reducible repeat (first | refine xq_then ?_ | refine xq_blockN ?_ | refine xq_scopeN ?_)
      have hXW3 : ∀ b, XW [(b8, true, hmap (setV (insN x.f0 bs))), (b3, false, cel [.map (some G)] 62), (G, false, hmap (setV gone))] b → b8 = b := by
        rintro b ⟨e, he, hwr, rfl⟩
        simp only [List.mem_cons, List.not_mem_nil, or_false] at he
        rcases he with rfl | rfl | rfl
        · rfl
        · cases hwr
        · cases hwr
      refine xq_againJ _ _ _ _ _ _ (k + 1, insN x.f0 bs, ys ++ [x.f0]) ⟨hlt, by simp only [List.append_assoc, List.cons_append, List.nil_append]; exact hys2⟩ (by first | omega | (simp only; omega)) ⟨rfl, rfl, rfl, rfl, rfl, rfl, trivial⟩
        (fun w1 hw1 => ⟨hw1.bok (by repeat (first | exact List.Sublist.refl _ | apply List.Sublist.cons_cons | apply List.Sublist.cons | exact List.nil_sublist _)), hJ _ W3 w1 (some b8) hJ3 (hw1.kx.grown (fun k q => congrArg some (hXW3 k q))) (fun q e => by cases e; obtain ⟨es, cl, h5, _⟩ := hM3; exact ⟨hb8, _, h5, rfl⟩), hb8, Nat.le_trans hsz3 hw1.kx.size, hS3.kx (by omega) hw1.kx (fun b h => by have := hXW3 b h; omega)⟩)
    · refine ⟨.bool false, [], W3, XNone, rfl, WOK.start _ _, ?_⟩
      refine xo_notOp rfl rfl rfl ?_
      with_reducible refine xo_nil ?_
      with_reducible repeat (first | refine xq_then ?_ | refine xq_blockN ?_ | refine xq_scopeN ?_)
      with_reducible repeat refine xc_seq ?_
      refine xc_condT rfl ?_
      with_reducible repeat refine xc_seq ?_
      with_reducible refine xc_ret ?_
      with_reducible repeat (first | refine xq_thenR ?_ | refine xq_blockR ?_ | refine xq_scopeR ?_)
      exact xq_ret0 rfl fun w2 hw2 => ⟨⟨_, rfl⟩, .inr ⟨_, trivial, hJx _ W3 w2 none hJx3 (hw2.kx.grown (fun k q => q.elim)) (fun r e => by cases e)⟩⟩
  · have hge : ¬ k < r.length := by have := of_decide_eq_false h; omega
    rw [List.drop_of_length_le (by omega), holdsL, List.append_nil] at hys
    with_reducible refine xc_exit ?_
    with_reducible repeat (first | refine xq_blockX ?_ | refine xq_thenE ?_ | refine xq_blockE rfl ?_ | refine xq_scopeE ?_)
    exact xq_end0 rfl fun w2 hw2 => ⟨⟨_, rfl⟩, .inl ⟨ys, hys, hJn _ _ hXW hw2.kx⟩⟩
end Go.Proofs.YtcmepdamemnbkaaDoor
namespace Go.Proofs.YtcmepdamemnbkaaDoor
open Go.RowKit Go.Proofs.YtcmepdamemnbkaaDoorW.PrintWords
set_option linter.unusedVariables false
set_option linter.unusedSimpArgs false
section
variable {ro : Option Nat} {n N : Nat} {ds : List Deferred} {w0 : World} {X : Nat → Prop} {Q : Exit → Act → World → Prop} {ops : List Oper} {σ : Slots} {η : Hp} {rest : List Oper}
variable {d : Option Tmp} {ty : TypeId} {pos : String} {aft : Array Edge} {g : Option (Nat × Bool)}
/-- the call of holds -/
theorem xo_holds {x y : Operand} {ats : Array TypeId} {A : Option Addr} {k c M0 G : Nat} (hg : gS ops σ g = some true) (hx : ev σ x = some (.agg #[.slice A k c, .map (some M0)])) (hy : ev σ y = some (.map (some G))) (hN : dstOK N d = true)
    (h : ∀ b2 b3, XO Tryd.prog ro n N ds w0 X Q ops (putS d (.func (.func 70) #[] #[.pointer (some ⟨b2, 0, none⟩), .pointer (some ⟨b3, 0, none⟩)]) σ) ((b3, true, cel [.map (some G)] 62) :: (b2, true, cel [.slice A k c, .map (some M0)] 91) :: η) rest) :
    XO Tryd.prog ro n N ds w0 X Q ops σ η (⟨d, .call { callee := .value (.func 51), args := #[x, y], argTypes := ats }, ty, pos, aft, g⟩ :: rest) := by
  refine xo_call (xs := [x, y]) (vs := [.agg #[.slice A k c, .map (some M0)], .map (some G)]) (fs := []) (cs := []) hg rfl (by simp [evs, hx, hy]) holds_enters hN (fun w3 hw3 => (holds_calls A k c M0 G w3).mono ?_)
  rintro e w4 ⟨b2, b3, rfl, hb2, hb3, h23, h2, h3, hb4⟩
  exact ⟨_, _, rfl, hw3.more2 (φ := cel [.slice A k c, .map (some M0)] 91) (φ2 := cel [.map (some G)] 62) hb4 hb2 hb3 h23 h2 h3 rfl rfl, h b2 b3⟩
/-- what Collect makes of what it yields -/
theorem xo_collect {x : Operand} {ats : Array TypeId} {A : Option Addr} {c M0 G b2 b3 : Nat} {wr : Bool} {r : List RecT} {gone : List Int} (hr : Kd.C recK w0 A r.length r) (hlen : r.length ≤ 1000000) (hg : gS ops σ g = some true) (hx : ev σ x = some (.func (.func 70) #[] #[.pointer (some ⟨b2, 0, none⟩), .pointer (some ⟨b3, 0, none⟩)]))
    (h2 : (b2, true, cel [.slice A r.length c, .map (some M0)] 91) ∈ η) (h3 : (b3, true, cel [.map (some G)] 62) ∈ η) (hG : (G, wr, hmap (setV gone)) ∈ η) (h23 : ∀ w, WOK w0 XNone η w → b2 ≠ b3) (hN : dstOK N d = true)
    (h : ∀ rr : RowR, (rr = none → holdsF r gone = []) → XO Tryd.prog ro n N ds w0 XNone Q ops (putS d (valR rr (holdsF r gone).length) σ) (hpR 3 1 rr (holdsF r gone).length ((holdsF r gone).map (.int .i64)) ++ η) rest) :
    XO Tryd.prog ro n N ds w0 XNone Q ops σ η (⟨d, .call { callee := .value (.func 56), args := #[x], argTypes := ats }, ty, pos, aft, g⟩ :: rest) := by
  have hll : (holdsF r gone).length ≤ 1000000 := by
    have hle : ∀ (r : List RecT) (bs : List Int), (holdsL gone bs r).length ≤ r.length := by
      intro r
      induction r with
      | nil => intro bs; simp [holdsL]
      | cons x r ih =>
        intro bs
        unfold holdsL
        split
        · have := ih bs; simp; omega
        · have := ih (insN x.f0 bs); simp; omega
    exact Nat.le_trans (hle r []) hlen
  refine xo_call (xs := [x]) (vs := [.func (.func 70) #[] #[.pointer (some ⟨b2, 0, none⟩), .pointer (some ⟨b3, 0, none⟩)]]) (fs := []) (cs := []) hg rfl (by simp [evs, hx]) collect_enters hN (fun w4 hw4 => ?_)
  have k2 := hw4.obj h2
  have k3 := hw4.obj h3
  have hGi : IMap w4 G (setV gone) := hw4.imap hG
  have hit := iter_holds A c r gone M0 G b2 b3 w0 w4 hr (SameB.of_below hw4.kx.below) hw4.kx.size k2 k3 hGi (h23 w4 hw4)
  have hlt : ∀ k, needOf w0 b2 b3 G k → k < w4.heap.size := by
    have h5 := (Array.getElem?_eq_some_iff.1 k2).1
    have h6 := (Array.getElem?_eq_some_iff.1 k3).1
    have h7 := hGi.lt
    have h8 := hw4.kx.size
    rintro k (h | h | h | h) <;> omega
  refine (collect_calls _ [.pointer (some ⟨b2, 0, none⟩), .pointer (some ⟨b3, 0, none⟩)] iter_enters _ _ w4 hit hlt hll).mono ?_
  rintro e w5 ⟨rr, rfl, hrow, hb⟩
  exact ⟨_, _, rfl, hw4.row hb hrow, h rr hrow.1⟩
end
theorem ne_of_nd {η : Hp} {w0 : World} {X : Nat → Prop} {b3 b2 : Nat} {w1 w2 : Bool} {φ φ' : HP} {w : World} (h : WOK w0 X ((b3, w1, φ) :: (b2, w2, φ') :: η) w) : b2 ≠ b3 := by
  have := h.nd
  simp only [List.map_cons, List.nodup_cons, List.mem_cons, not_or] at this
  exact fun e => this.1.1 e.symm
end Go.Proofs.YtcmepdamemnbkaaDoor
namespace Go.Proofs.YtcmepdamemnbkaaDoor
open Go.RowKit Go.Proofs.YtcmepdamemnbkaaDoorW.PrintWords
set_option linter.unusedVariables false
set_option linter.unusedSimpArgs false
theorem index_calls (A : Option Addr) (c : Nat) (zs : List Int) (v : Int) (w : World) (hr : Kd.C (Kd.int .i64) w A zs.length zs) :
    Calls Tryd.prog 75 #[.slice A zs.length c, .int .i64 v] w fun e w' => e = .returned (.int .i64 (idxF (fun x => decide (v = x)) zs 0)) ∧ Below w.heap.size w w' := by
  have hn := hr.2.1
  refine x_calls (X := XNone) Tryd.func75 rfl rfl rfl ?_
  with_reducible repeat refine xc_seq ?_
  with_reducible refine xc_region ?_
  refine xo_asg rfl rfl rfl ?_
  with_reducible refine xo_nil ?_
  with_reducible repeat (first | refine xq_then ?_ | refine xq_blockN ?_ | refine xq_scopeN ?_)
  with_reducible repeat refine xc_seq ?_
  with_reducible refine xc_region ?_
  refine xo_mv rfl rfl rfl ?_
  refine xo_len T_ rfl rfl rfl rfl ?_
  refine xo_mv rfl rfl rfl ?_
  with_reducible refine xo_nil ?_
  with_reducible repeat (first | refine xq_then ?_ | refine xq_blockN ?_ | refine xq_scopeN ?_)
  with_reducible repeat refine xc_seq ?_
  with_reducible refine xc_block ?_
  refine xc_loop (γ := Nat) (fun k => k ≤ zs.length ∧ ∀ j, j < k → decide (v = zs.getD j 0) = false) (fun k => [(0, .slice A zs.length c), (1, .int .i64 v), (6, .slice A zs.length c), (7, .int .i64 (zs.length : Int)), (8, .int .i64 (k : Int))]) (fun _ => []) (fun k => zs.length - k) 0
    ⟨Nat.zero_le _, fun j hj => absurd hj (Nat.not_lt_zero _)⟩ ⟨rfl, rfl, rfl, rfl, rfl, trivial⟩ (by repeat (first | exact List.Sublist.refl _ | apply List.Sublist.cons_cons | apply List.Sublist.cons | exact List.nil_sublist _)) ?_
  rintro k ⟨hk, hno⟩
  with_reducible repeat refine xc_seq ?_
  with_reducible refine xc_region ?_
  refine xo_lss rfl rfl rfl rfl ?_
  with_reducible refine xo_nil ?_
  with_reducible repeat (first | refine xq_then ?_ | refine xq_blockN ?_ | refine xq_scopeN ?_)
  with_reducible repeat refine xc_seq ?_
  refine xc_cond rfl (fun h => ?_) (fun h => ?_)
  · have hlt : k < zs.length := by have := of_decide_eq_true h; omega
    obtain ⟨ad, rfl, r1⟩ := int_at hr k hlt
    with_reducible refine xc_skip ?_
    with_reducible repeat (first | refine xq_then ?_ | refine xq_blockN ?_ | refine xq_scopeN ?_)
    with_reducible repeat refine xc_seq ?_
    with_reducible refine xc_block ?_
    with_reducible repeat refine xc_seq ?_
    with_reducible refine xc_region ?_
    refine xo_mv rfl rfl rfl ?_
    refine xo_asg rfl rfl rfl ?_
    with_reducible refine xo_nil ?_
    with_reducible repeat (first | refine xq_then ?_ | refine xq_blockN ?_ | refine xq_scopeN ?_)
    with_reducible repeat refine xc_seq ?_
    with_reducible refine xc_region ?_
    refine xo_mv rfl rfl rfl ?_
    refine xo_mv rfl rfl rfl ?_
    refine xo_mv rfl rfl rfl ?_
    refine xo_ia T_ rfl rfl rfl rfl rfl ⟨by omega, by omega⟩ rfl ?_
    refine xo_loadR0 T_ rfl rfl rfl (by first | assumption | exact RO.fld (by assumption) rfl) rfl ?_
    refine xo_eql rfl rfl rfl rfl ?_
    with_reducible refine xo_nil ?_
    with_reducible repeat (first | refine xq_then ?_ | refine xq_blockN ?_ | refine xq_scopeN ?_)
    with_reducible repeat refine xc_seq ?_
    refine xc_cond rfl (fun h2 => ?_) (fun h2 => ?_)
    · with_reducible repeat refine xc_seq ?_
      with_reducible refine xc_region ?_
      refine xo_mv rfl rfl rfl ?_
      refine xo_asg rfl rfl rfl ?_
      with_reducible refine xo_nil ?_
      with_reducible repeat (first | refine xq_then ?_ | refine xq_blockN ?_ | refine xq_scopeN ?_)
      with_reducible repeat refine xc_seq ?_
      with_reducible refine xc_ret ?_
      with_reducible repeat (first | refine xq_thenR ?_ | refine xq_blockR ?_ | refine xq_scopeR ?_)
      exact xq_ret1 rfl rfl fun w' hw => ⟨by rw [idxF_hit (fun x => decide (v = x)) 0 zs k 0 hlt h2 hno]; simp, hw.kx.below⟩
    · with_reducible refine xc_skip ?_
      with_reducible repeat (first | refine xq_then ?_ | refine xq_blockN ?_ | refine xq_scopeN ?_)
      with_reducible repeat refine xc_seq ?_
      with_reducible refine xc_region ?_
      refine xo_add rfl rfl rfl (by omega) rfl ?_
      refine xo_mv rfl rfl rfl ?_
      with_reducible refine xo_nil ?_
      with_reducible repeat (first | refine xq_then ?_ | refine xq_blockN ?_ | refine xq_scopeN ?_)
      refine xq_again _ _ _ _ _ (k + 1) ⟨by omega, fun j hj => ?_⟩ (by omega) ⟨rfl, rfl, rfl, rfl, rfl, trivial⟩ (by repeat (first | exact List.Sublist.refl _ | apply List.Sublist.cons_cons | apply List.Sublist.cons | exact List.nil_sublist _))
      by_cases e : j = k
      · subst e; exact h2
      · exact hno j (by omega)
  · have hge : ¬ k < zs.length := by have := of_decide_eq_false h; omega
    with_reducible refine xc_exit ?_
    with_reducible repeat (first | refine xq_blockX ?_ | refine xq_thenE ?_ | refine xq_blockE rfl ?_ | refine xq_scopeE ?_)
    with_reducible repeat (first | refine xq_then ?_ | refine xq_blockN ?_ | refine xq_scopeN ?_)
    with_reducible repeat refine xc_seq ?_
    with_reducible refine xc_region ?_
    refine xo_asg rfl rfl rfl ?_
    with_reducible refine xo_nil ?_
    with_reducible repeat (first | refine xq_then ?_ | refine xq_blockN ?_ | refine xq_scopeN ?_)
    with_reducible repeat refine xc_seq ?_
    with_reducible refine xc_ret ?_
    with_reducible repeat (first | refine xq_thenR ?_ | refine xq_blockR ?_ | refine xq_scopeR ?_)
    refine xq_ret1 rfl rfl fun w' hw => ⟨?_, hw.kx.below⟩
    rw [idxF_miss (fun x => decide (v = x)) 0 zs 0 (fun j hj => hno j (by omega))]
theorem contains_calls (A : Option Addr) (c : Nat) (zs : List Int) (v : Int) (w : World) (hr : Kd.C (Kd.int .i64) w A zs.length zs) :
    Calls Tryd.prog 59 #[.slice A zs.length c, .int .i64 v] w fun e w' => e = .returned (.bool (decide (v ∈ zs))) ∧ Below w.heap.size w w' := by
  have e1 : decide (v ∈ zs) = decide (0 ≤ idxF (fun x => decide (v = x)) zs 0) := by
    rw [idxF_any, Bool.eq_iff_iff]
    simp [List.any_eq_true]
  rw [e1]
  have eg2 := enters_of Tryd.func75 (by kernel_rfl) rfl
  refine x_calls (X := XNone) Tryd.func59 rfl rfl rfl ?_
  with_reducible repeat refine xc_seq ?_
  with_reducible refine xc_region ?_
  refine xo_asg rfl rfl rfl ?_
  with_reducible refine xo_nil ?_
  with_reducible repeat (first | refine xq_then ?_ | refine xq_blockN ?_ | refine xq_scopeN ?_)
  with_reducible repeat refine xc_seq ?_
  with_reducible refine xc_region ?_
  refine xo_mv rfl rfl rfl ?_
  refine xo_mv rfl rfl rfl ?_
  refine xo_callB (fs := []) (cs := []) rfl rfl rfl eg2 rfl (fun w1 hw1 => index_calls A c zs v w1 (Kd.C_below hr hw1.kx.below)) ?_
  refine xo_geq rfl rfl rfl rfl ?_
  refine xo_asg rfl rfl rfl ?_
  with_reducible refine xo_nil ?_
  with_reducible repeat (first | refine xq_then ?_ | refine xq_blockN ?_ | refine xq_scopeN ?_)
  with_reducible repeat refine xc_seq ?_
  with_reducible refine xc_ret ?_
  with_reducible repeat (first | refine xq_thenR ?_ | refine xq_blockR ?_ | refine xq_scopeR ?_)
  exact (xq_ret1 rfl rfl fun w' hw => ⟨rfl, hw.kx.below⟩)
theorem contains_enters : ∀ args w, (callFunc 59 args).run Tryd.prog w = .ok (.enter 59 args) w := enters_of Tryd.func59 (by kernel_rfl) rfl
/-- a row of the call's own, as it is read -/
theorem C_orow {w : World} {b m cap : Nat} {xs : List Int} {t : TypeId} {o : Obj} (h1 : w.heap[b]? = some o) (h2 : orow t 1 m cap (xs.map (.int .i64)) o) (hl : xs.length = m) (hm : m ≤ 9223372036854775807) : Kd.C (Kd.int .i64) w (some ⟨b, 0, none⟩) m xs := by
  obtain ⟨cur, rfl, h5, h6, h7, h8⟩ := h2
  refine ⟨hl, hm, fun _ => ⟨_, rfl, fun j p hj => ⟨[.int .i64 p], rfl, rfl, fun i u hu => ?_⟩⟩⟩
  have hi : i = 0 := by
    have := (List.getElem?_eq_some_iff.1 hu).1
    simpa using this
  subst hi
  simp at hu
  subst hu
  rw [Addr.add_lit]
  have hjm : j < m := by rw [← hl]; exact (List.getElem?_eq_some_iff.1 hj).1
  have h9 : (xs.map (Value.int .i64))[j]? = some (.int .i64 p) := by simp [hj]
  rw [← h8, Nat.mul_one, List.getElem?_take, if_pos hjm] at h9
  simp only [Kd.int, Kd.scalar, Nat.zero_add, Nat.mul_one, Nat.add_zero]
  rw [cell_of_row w b j _ t _ h1, ← Array.getElem?_toList]
  exact h9
theorem RowAt.C {e : TypeId} {base : Nat} {w : World} {r : RowR} {xs : List Int} (h : RowAt e base w r xs) (hm : xs.length ≤ 9223372036854775807) : ∃ A c, valR r xs.length = .slice A xs.length c ∧ xs.length ≤ c ∧ Kd.C (Kd.int .i64) w A xs.length xs := by
  cases r with
  | none =>
    have := h.1 rfl
    subst this
    exact ⟨none, 0, rfl, Nat.le_refl _, Kd.C_nil _ _⟩
  | some p =>
    obtain ⟨h1, o, h2, h3⟩ := h.2 p rfl
    have h4 : xs.length ≤ p.2 := by obtain ⟨_, _, h5, _⟩ := h3; exact h5
    exact ⟨some ⟨p.1, 0, none⟩, p.2, rfl, h4, C_orow h2 h3 rfl hm⟩
/-- a closure that answers p in whatever world that is as w is but for the blocks of X -/
def AsksK (P : Program) (X : Nat → Prop) (w : World) (g : Nat) (cs : List Value) (p : Int → Bool) : Prop :=
  ∀ (x : Int) (W : World), Kx X w W → Calls P g ([Value.int .i64 x] ++ cs).toArray W fun e W' => e = .returned (.bool (p x)) ∧ Below W.heap.size W W'
theorem Kx.then_below {X : Nat → Prop} {w0 w w' : World} (h : Kx X w0 w) (hb : Below w.heap.size w w') : Kx X w0 w' := ⟨hb.os.trans h.os, hb.tape.trans h.tape, hb.output.trans h.output, Nat.le_trans h.size hb.size, fun k hk hx => (hb.block k (Nat.lt_of_lt_of_le hk h.size)).trans (h.block k hk hx)⟩
theorem idxF_neg {α : Type} (p : α → Bool) : ∀ (zs : List α) (i : Nat), idxF p zs i = -1 → ∀ x ∈ zs, p x = false
  | [], _, _, x, h => by cases h
  | y :: r, i, h, x, hx => by
    unfold idxF at h
    split at h
    · omega
    · rename_i hy
      rcases List.mem_cons.1 hx with rfl | hx
      · simpa using hy
      · exact idxF_neg p r (i + 1) h x hx
theorem idxF_pos {α : Type} (p : α → Bool) (z : α) : ∀ (zs : List α) (i : Nat), idxF p zs i ≠ -1 → ∃ k, idxF p zs i = ((i + k : Nat) : Int) ∧ k < zs.length ∧ p (zs.getD k z) = true ∧ (zs.take k).filter (fun x => !p x) = zs.take k
  | [], i, h => absurd rfl h
  | y :: r, i, h => by
    by_cases hy : p y = true
    · exact ⟨0, by simp [idxF, hy], by simp, by simpa using hy, by simp⟩
    · have e : idxF p (y :: r) i = idxF p r (i + 1) := by simp [idxF, hy]
      rw [e] at h ⊢
      obtain ⟨k, h1, h2, h3, h4⟩ := idxF_pos p z r (i + 1) h
      exact ⟨k + 1, by rw [h1]; omega, by simpa using h2, by simpa using h3, by simp [h4, hy]⟩
theorem take_succ_filter (q : Int → Bool) (xs : List Int) (j : Nat) (hj : j < xs.length) : (xs.take (j + 1)).filter q = (xs.take j).filter q ++ if q (xs.getD j 0) then [xs.getD j 0] else [] := by
  rw [List.take_succ_eq_append_getElem hj, List.filter_append]
  simp [List.getD_eq_getElem?_getD, List.getElem?_eq_getElem hj, List.filter_cons]
set_option maxHeartbeats 4000000 in
/-- slices.DeleteFunc, in place, on a row of the caller's own -/
theorem deleteFunc_calls (p : Int → Bool) (g : Nat) (cs : List Value) (eg : ∀ args w, (callFunc g args).run Tryd.prog w = .ok (.enter g args) w) (b cap : Nat) (xs : List Int) (w : World) (o : Obj) (h1 : w.heap[b]? = some o) (h2 : orow 3 1 xs.length cap (xs.map (.int .i64)) o) (hl : xs.length ≤ 1000000)
    (hp : AsksK Tryd.prog (fun k => k = b) w g cs p) :
    Calls Tryd.prog 57 #[.slice (some ⟨b, 0, none⟩) xs.length cap, .func (.func g) #[] cs.toArray] w fun e w' => e = .returned (.slice (some ⟨b, 0, none⟩) (xs.filter fun x => !p x).length cap) ∧ Kx (fun k => k = b) w w' ∧ ∃ o', w'.heap[b]? = some o' ∧ orow 3 1 (xs.filter fun x => !p x).length cap ((xs.filter fun x => !p x).map (.int .i64)) o' := by
  have eg2 := enters_of Tryd.func68 (by kernel_rfl) rfl
  have hw0 : WOK w (fun k => k = b) [(b, true, orow 3 1 xs.length cap (xs.map (.int .i64)))] w := by
    refine ⟨Kx.refl _ w, ?_, by simp, ?_⟩
    · intro e he
      simp only [List.mem_singleton] at he
      subst he
      exact ⟨o, h1, h2⟩
    · intro e he _
      simp only [List.mem_singleton] at he
      subst he
      exact .inr rfl
  have hcap : xs.length ≤ cap := by obtain ⟨_, _, h5, _⟩ := h2; exact h5
  refine x_callsH (X := fun k => k = b) Tryd.func57 rfl rfl rfl hw0 ?_
  with_reducible repeat refine xc_seq ?_
  with_reducible refine xc_region ?_
  refine xo_asg rfl rfl rfl ?_
  with_reducible refine xo_nil ?_
  with_reducible repeat (first | refine xq_then ?_ | refine xq_blockN ?_ | refine xq_scopeN ?_)
  with_reducible repeat refine xc_seq ?_
  with_reducible refine xc_region ?_
  refine xo_mv rfl rfl rfl ?_
  refine xo_mv rfl rfl rfl ?_
  refine xo_callB (fs := []) (cs := []) rfl rfl rfl eg2 rfl (fun w1 hw1 => indexFunc_calls p g cs eg _ cap xs w1 (by obtain ⟨o1, h3, h4⟩ := hw1.bl _ (List.Mem.head _); exact C_orow h3 h4 rfl (by omega)) (fun x W hW => hp x W (hw1.kx.then_below hW))) ?_
  refine xo_asg rfl rfl rfl ?_
  with_reducible refine xo_nil ?_
  with_reducible repeat (first | refine xq_then ?_ | refine xq_blockN ?_ | refine xq_scopeN ?_)
  cases hi : decide (idxF p xs 0 = -1)
  all_goals
    with_reducible repeat refine xc_seq ?_
    with_reducible refine xc_region ?_
    refine xo_mv rfl rfl rfl ?_
    refine xo_eql rfl rfl rfl rfl ?_
    refine xo_as (i := 12) rfl (congrArg Value.bool hi) ?_
    with_reducible refine xo_nil ?_
    with_reducible repeat (first | refine xq_then ?_ | refine xq_blockN ?_ | refine xq_scopeN ?_)
    with_reducible repeat refine xc_seq ?_
    first | refine xc_condT rfl ?_ | refine xc_condF rfl ?_
  rotate_left
  · have hall := idxF_neg p xs 0 (of_decide_eq_true hi)
    have hf : (xs.filter fun x => !p x) = xs := List.filter_eq_self.2 (fun x hx => by simp [hall x hx])
    with_reducible repeat refine xc_seq ?_
    with_reducible refine xc_region ?_
    refine xo_mv rfl rfl rfl ?_
    refine xo_asg rfl rfl rfl ?_
    with_reducible refine xo_nil ?_
    with_reducible repeat (first | refine xq_then ?_ | refine xq_blockN ?_ | refine xq_scopeN ?_)
    with_reducible repeat refine xc_seq ?_
    with_reducible refine xc_ret ?_
    with_reducible repeat (first | refine xq_thenR ?_ | refine xq_blockR ?_ | refine xq_scopeR ?_)
    refine xq_ret1 rfl rfl fun w' hw => ⟨by rw [hf], hw.kx, ?_⟩
    rw [hf]
    exact hw.bl _ (List.Mem.head _)
  obtain ⟨k0, hk0, hk1, hk2, hk3⟩ := idxF_pos p 0 xs 0 (of_decide_eq_false hi)
  rw [Nat.zero_add] at hk0
  rw [hk0]
  clear hi
  with_reducible refine xc_skip ?_
  with_reducible repeat (first | refine xq_then ?_ | refine xq_blockN ?_ | refine xq_scopeN ?_)
  with_reducible repeat refine xc_seq ?_
  with_reducible refine xc_region ?_
  refine xo_mv rfl rfl rfl ?_
  refine xo_add rfl rfl rfl (by omega) rfl ?_
  refine xo_asg rfl rfl rfl ?_
  with_reducible refine xo_nil ?_
  with_reducible repeat (first | refine xq_then ?_ | refine xq_blockN ?_ | refine xq_scopeN ?_)
  with_reducible repeat refine xc_seq ?_
  with_reducible refine xc_block ?_
  refine xc_loop (γ := Nat × List Int) (fun q => q.1 ≤ xs.length ∧ ((xs.take q.1).filter fun x => !p x).length < q.1 ∧ q.2.length = xs.length ∧ q.2.take ((xs.take q.1).filter fun x => !p x).length = (xs.take q.1).filter (fun x => !p x) ∧ q.2.drop q.1 = xs.drop q.1)
    (fun q => [(0, .slice (some ⟨b, 0, none⟩) xs.length cap), (1, .func (.func g) #[] cs.toArray), (5, .int .i64 (((xs.take q.1).filter fun x => !p x).length : Int)), (6, .int .i64 (q.1 : Int))]) (fun q => [(b, true, orow 3 1 xs.length cap (q.2.map (.int .i64)))]) (fun q => xs.length - q.1) (k0 + 1, xs) ?_ ?_ (by repeat (first | exact List.Sublist.refl _ | apply List.Sublist.cons_cons | apply List.Sublist.cons | exact List.nil_sublist _)) ?_
  · have hk2' : (!p (xs.getD k0 0)) = false := by rw [hk2]; rfl
    have e1 : (xs.take (k0 + 1)).filter (fun x => !p x) = xs.take k0 := by
      simp only [take_succ_filter (fun x => !p x) xs k0 hk1, hk3, hk2', Bool.false_eq_true, ↓reduceIte, List.append_nil]
    have e2 : (xs.take k0).length = k0 := by rw [List.length_take]; omega
    show k0 + 1 ≤ xs.length ∧ ((xs.take (k0 + 1)).filter fun x => !p x).length < k0 + 1 ∧ xs.length = xs.length ∧ xs.take ((xs.take (k0 + 1)).filter fun x => !p x).length = (xs.take (k0 + 1)).filter (fun x => !p x) ∧ xs.drop (k0 + 1) = xs.drop (k0 + 1)
    rw [e1, e2]
    exact ⟨hk1, by omega, rfl, rfl, rfl⟩
  · have hk2' : (!p (xs.getD k0 0)) = false := by rw [hk2]; rfl
    have e : ((xs.take (k0 + 1)).filter fun x => !p x).length = k0 := by
      simp only [take_succ_filter (fun x => !p x) xs k0 hk1, hk3, hk2', Bool.false_eq_true, ↓reduceIte, List.append_nil, List.length_take]
      omega
    show subS [(0, _), (1, _), (5, .int .i64 (((xs.take (k0 + 1)).filter fun x => !p x).length : Int)), (6, _)] _
    rw [e]
    exact ⟨rfl, rfl, rfl, rfl, trivial⟩
  rintro ⟨j, ys⟩ ⟨hj, hcnt, hyl, hyt, hyd⟩
  simp only at hj hcnt hyl hyt hyd ⊢
  with_reducible repeat refine xc_seq ?_
  with_reducible refine xc_region ?_
  refine xo_mv rfl rfl rfl ?_
  refine xo_mv rfl rfl rfl ?_
  refine xo_len T_ rfl rfl rfl rfl ?_
  refine xo_lss rfl rfl rfl rfl ?_
  with_reducible refine xo_nil ?_
  with_reducible repeat (first | refine xq_then ?_ | refine xq_blockN ?_ | refine xq_scopeN ?_)
  with_reducible repeat refine xc_seq ?_
  refine xc_cond rfl (fun h => ?_) (fun h => ?_)
  · have hjl : j < xs.length := by have := of_decide_eq_true h; omega
    have hyj : ys[j]? = some (xs.getD j 0) := by
      have := congrArg (fun l : List Int => l[0]?) hyd
      simp only [List.getElem?_drop, Nat.add_zero] at this
      rw [this]
      simp [List.getD_eq_getElem?_getD, List.getElem?_eq_getElem hjl]
    have hsf := take_succ_filter (fun x => !p x) xs j hjl
    have hyd2 : ys.drop (j + 1) = xs.drop (j + 1) := by
      have := congrArg (List.drop 1) hyd
      simpa [List.drop_drop, Nat.add_comm] using this
    generalize xs.getD j 0 = y at *
    generalize hc0 : ((xs.take j).filter fun x => !p x) = fl at *
    with_reducible refine xc_skip ?_
    with_reducible repeat (first | refine xq_then ?_ | refine xq_blockN ?_ | refine xq_scopeN ?_)
    with_reducible repeat refine xc_seq ?_
    with_reducible refine xc_block ?_
    with_reducible repeat refine xc_seq ?_
    with_reducible refine xc_region ?_
    refine xo_mv rfl rfl rfl ?_
    refine xo_mv rfl rfl rfl ?_
    refine xo_ia T_ rfl rfl rfl rfl rfl ⟨by omega, by omega⟩ rfl ?_
    refine xo_loadO (v := .int .i64 y) T_ rfl rfl rfl (by repeat (first | exact List.Mem.head _ | apply List.Mem.tail | apply List.mem_append_right)) (by simp [szN, hyj]) rfl ?_
    refine xo_asg rfl rfl rfl ?_
    with_reducible refine xo_nil ?_
    with_reducible repeat (first | refine xq_then ?_ | refine xq_blockN ?_ | refine xq_scopeN ?_)
    with_reducible repeat refine xc_seq ?_
    with_reducible refine xc_region ?_
    refine xo_mv rfl rfl rfl ?_
    refine xo_mv rfl rfl rfl ?_
    refine xo_callB (fs := []) rfl rfl rfl eg rfl (fun w1 hw1 => hp y w1 hw1.kx) ?_
    refine xo_notOp rfl rfl rfl ?_
    with_reducible refine xo_nil ?_
    with_reducible repeat (first | refine xq_then ?_ | refine xq_blockN ?_ | refine xq_scopeN ?_)
    with_reducible repeat refine xc_seq ?_
    refine xc_cond rfl (fun h2 => ?_) (fun h2 => ?_)
    · rw [if_pos h2] at hsf
      with_reducible repeat refine xc_seq ?_
      with_reducible refine xc_region ?_
      refine xo_mv rfl rfl rfl ?_
      refine xo_mv rfl rfl rfl ?_
      refine xo_mv rfl rfl rfl ?_
      refine xo_ia T_ rfl rfl rfl rfl rfl ⟨by omega, by omega⟩ rfl ?_
      refine xo_storeO T_ rfl rfl rfl rfl (by repeat (first | exact List.Mem.head _ | apply List.Mem.tail | apply List.mem_append_right)) rfl rfl (by simp [szN]; omega) (by repeat (first | exact Upd.head | apply Upd.tail | apply Upd.app)) rfl ?_
      with_reducible refine xo_nil ?_
      with_reducible repeat (first | refine xq_then ?_ | refine xq_blockN ?_ | refine xq_scopeN ?_)
      with_reducible repeat refine xc_seq ?_
      with_reducible refine xc_region ?_
      refine xo_mv rfl rfl rfl ?_
      refine xo_add rfl rfl rfl (by omega) rfl ?_
      refine xo_asg rfl rfl rfl ?_
      with_reducible refine xo_nil ?_
      with_reducible repeat (first | refine xq_then ?_ | refine xq_blockN ?_ | refine xq_scopeN ?_)
      with_reducible repeat refine xc_seq ?_
      with_reducible refine xc_region ?_
      refine xo_mv rfl rfl rfl ?_
      refine xo_add rfl rfl rfl (by omega) rfl ?_
      refine xo_asg rfl rfl rfl ?_
      with_reducible refine xo_nil ?_
      with_reducible repeat (first | refine xq_then ?_ | refine xq_blockN ?_ | refine xq_scopeN ?_)
      refine xq_again _ _ _ _ _ (j + 1, ys.set fl.length y) ?_ (by first | omega | (simp only; omega)) ?_ ?_
      · simp only [hsf, List.length_append, List.length_cons, List.length_nil, List.length_set]
        refine ⟨hjl, by omega, hyl, ?_, ?_⟩
        · rw [List.take_succ_eq_append_getElem (by simp; omega)]
          simp only [List.getElem_set_self, List.take_set_of_le (Nat.le_refl _), hyt, Nat.zero_add]
        · rw [List.drop_set_of_lt (by omega)]; exact hyd2
      · show subS [(0, _), (1, _), (5, .int .i64 (((xs.take (j + 1)).filter fun x => !p x).length : Int)), (6, _)] _
        rw [hsf, List.length_append]
        exact ⟨rfl, rfl, rfl, rfl, trivial⟩
      · have e3 : ((fl.length : Nat) : Int).toNat * szN 0 = fl.length := by simp [szN]
        simp only [List.map_set, e3]
        exact List.Sublist.refl _
    · have h2' : (!p y) = false := h2
      rw [h2'] at hsf
      simp only [Bool.false_eq_true, ↓reduceIte, List.append_nil] at hsf
      with_reducible refine xc_skip ?_
      with_reducible repeat (first | refine xq_then ?_ | refine xq_blockN ?_ | refine xq_scopeN ?_)
      with_reducible repeat refine xc_seq ?_
      with_reducible refine xc_region ?_
      refine xo_mv rfl rfl rfl ?_
      refine xo_add rfl rfl rfl (by omega) rfl ?_
      refine xo_asg rfl rfl rfl ?_
      with_reducible refine xo_nil ?_
      with_reducible repeat (first | refine xq_then ?_ | refine xq_blockN ?_ | refine xq_scopeN ?_)
      refine xq_again _ _ _ _ _ (j + 1, ys) ?_ (by first | omega | (simp only; omega)) ?_ (List.Sublist.refl _)
      · simp only [hsf]
        exact ⟨hjl, by omega, hyl, hyt, hyd2⟩
      · show subS [(0, _), (1, _), (5, .int .i64 (((xs.take (j + 1)).filter fun x => !p x).length : Int)), (6, _)] _
        rw [hsf]
        exact ⟨rfl, rfl, rfl, rfl, trivial⟩
  · have hge : j = xs.length := by have := of_decide_eq_false h; omega
    subst hge
    rw [List.take_length] at *
    have hfl : (xs.filter fun x => !p x).length ≤ xs.length := List.length_filter_le _ _
    with_reducible refine xc_exit ?_
    with_reducible repeat (first | refine xq_blockX ?_ | refine xq_thenE ?_ | refine xq_blockE rfl ?_ | refine xq_scopeE ?_)
    with_reducible repeat (first | refine xq_then ?_ | refine xq_blockN ?_ | refine xq_scopeN ?_)
    with_reducible repeat refine xc_seq ?_
    with_reducible refine xc_region ?_
    refine xo_mv rfl rfl rfl ?_
    refine xo_mv rfl rfl rfl ?_
    refine xo_sliceLo T_ rfl rfl rfl rfl rfl (by omega) (by omega) rfl ?_
    refine xo_clear (m := xs.length) (i := (xs.filter fun x => !p x).length) T_ rfl rfl rfl rfl rfl rfl (by omega) (by omega) (by repeat (first | exact List.Mem.head _ | apply List.Mem.tail | apply List.mem_append_right)) (by repeat (first | exact Upd.head | apply Upd.tail | apply Upd.app)) rfl ?_
    with_reducible refine xo_nil ?_
    with_reducible repeat (first | refine xq_then ?_ | refine xq_blockN ?_ | refine xq_scopeN ?_)
    with_reducible repeat refine xc_seq ?_
    with_reducible refine xc_region ?_
    refine xo_mv rfl rfl rfl ?_
    refine xo_mv rfl rfl rfl ?_
    refine xo_sliceHi T_ rfl rfl rfl rfl rfl (by omega) rfl ?_
    refine xo_asg rfl rfl rfl ?_
    with_reducible refine xo_nil ?_
    with_reducible repeat (first | refine xq_then ?_ | refine xq_blockN ?_ | refine xq_scopeN ?_)
    with_reducible repeat refine xc_seq ?_
    with_reducible refine xc_ret ?_
    with_reducible repeat (first | refine xq_thenR ?_ | refine xq_blockR ?_ | refine xq_scopeR ?_)
    refine xq_ret1 rfl rfl fun w' hw => ⟨rfl, hw.kx, ?_⟩
    obtain ⟨o', h5, h6⟩ := hw.bl _ (List.Mem.head _)
    refine ⟨o', h5, ?_⟩
    have : (ys.map (Value.int .i64)).take (xs.filter fun x => !p x).length = (xs.filter fun x => !p x).map (.int .i64) := by rw [← List.map_take, hyt]
    rw [← this]
    exact h6
end Go.Proofs.YtcmepdamemnbkaaDoor
namespace Go.Proofs.YtcmepdamemnbkaaDoor
open Go.RowKit Go.Proofs.YtcmepdamemnbkaaDoorW.PrintWords
set_option linter.unusedVariables false
set_option linter.unusedSimpArgs false
def openF (r : List RecT) (l : List LetT) (day : Int) (ids : List Int) : Int := if checkF r l = 0 then (if inF 0 100000 day then (if ids.all (knownF r) then 0 else 6) else 2) else checkF r l
theorem on_enters : ∀ args w, (callFunc 69 args).run Tryd.prog w = .ok (.enter 69 args) w := enters_of Tryd.func69 (by kernel_rfl) rfl
set_option maxHeartbeats 4000000 in
theorem open_calls (A B D : Option Addr) (c c' c2 : Nat) (r : List RecT) (l : List LetT) (day : Int) (ids : List Int) (w : World) (hr : Kd.C recK w A r.length r) (hl : Kd.C letK w B l.length l) (hi : Kd.C (Kd.int .i64) w D ids.length ids) (hk : Bytes r) (hkl : BytesL l) :
    Calls Tryd.prog 50 #[.slice A r.length c, .slice B l.length c', .int .i64 day, .slice D ids.length c2] w fun e w' => ∃ sv : List Value, e = .returned (.tuple #[.agg sv.toArray, .int .i64 (openF r l day ids)]) ∧ Below w.heap.size w w' ∧
      (openF r l day ids ≠ 0 → sv = [.slice none 0 0, .map none]) ∧ (openF r l day ids = 0 → ∃ M, sv = [.slice A r.length c, .map (some M)] ∧ w.heap.size ≤ M ∧ IMap w' M (setV (goneF r l day))) := by
  have hn := hi.2.1
  refine x_calls (X := XNone) Tryd.func50 rfl rfl rfl ?_
  with_reducible repeat refine xc_seq ?_
  with_reducible refine xc_region ?_
  refine xo_alloc T_ rfl rfl rfl rfl (fun b8 => ?_)
  refine xo_asg rfl rfl rfl ?_
  with_reducible refine xo_nil ?_
  with_reducible repeat (first | refine xq_then ?_ | refine xq_blockN ?_ | refine xq_scopeN ?_)
  with_reducible repeat refine xc_seq ?_
  with_reducible refine xc_region ?_
  refine xo_mv rfl rfl rfl ?_
  refine xo_mv rfl rfl rfl ?_
  refine xo_callB (fs := []) (cs := []) rfl rfl rfl check_enters rfl (fun w1 hw1 => check_calls A B c c' r l w1 (Kd.C_below hr hw1.kx.below) (Kd.C_below hl hw1.kx.below) hk hkl) ?_
  refine xo_asg rfl rfl rfl ?_
  with_reducible refine xo_nil ?_
  with_reducible repeat (first | refine xq_then ?_ | refine xq_blockN ?_ | refine xq_scopeN ?_)
  with_reducible repeat refine xc_seq ?_
  with_reducible refine xc_region ?_
  refine xo_mv rfl rfl rfl ?_
  refine xo_neq rfl rfl rfl rfl ?_
  with_reducible refine xo_nil ?_
  with_reducible repeat (first | refine xq_then ?_ | refine xq_blockN ?_ | refine xq_scopeN ?_)
  with_reducible repeat refine xc_seq ?_
  refine xc_cond rfl (fun h => ?_) (fun h => ?_)
  · have hc : ¬ checkF r l = 0 := by simpa using h
    have ho : openF r l day ids = checkF r l := if_neg hc
    with_reducible repeat refine xc_seq ?_
    with_reducible refine xc_region ?_
    refine xo_build TB_ rfl rfl rfl rfl rfl ?_
    refine xo_mv rfl rfl rfl ?_
    refine xo_store T_ rfl rfl rfl rfl (by repeat (first | exact List.Mem.head _ | apply List.Mem.tail | apply List.mem_append_right)) rfl rfl rfl rfl (by repeat (first | exact Upd.head | apply Upd.tail | apply Upd.app)) rfl ?_
    refine xo_asg rfl rfl rfl ?_
    with_reducible refine xo_nil ?_
    with_reducible repeat (first | refine xq_then ?_ | refine xq_blockN ?_ | refine xq_scopeN ?_)
    with_reducible repeat refine xc_seq ?_
    with_reducible refine xc_ret ?_
    with_reducible repeat (first | refine xq_thenR ?_ | refine xq_blockR ?_ | refine xq_scopeR ?_)
    exact xq_retC1 T_ rfl rfl rfl rfl (by repeat (first | exact List.Mem.head _ | apply List.Mem.tail | apply List.mem_append_right)) rfl fun w' hw => ⟨_, by rw [ho], hw.kx.below, fun _ => rfl, fun h => absurd (ho ▸ h) hc⟩
  have hc : checkF r l = 0 := by simpa using h
  with_reducible refine xc_skip ?_
  with_reducible repeat (first | refine xq_then ?_ | refine xq_blockN ?_ | refine xq_scopeN ?_)
  with_reducible repeat refine xc_seq ?_
  with_reducible refine xc_region ?_
  refine xo_mv rfl rfl rfl ?_
  refine xo_bs1 T_ rfl rfl rfl rfl rfl rfl rfl rfl (fun b21 => ?_)
  refine xo_callB (fs := []) (cs := []) rfl rfl rfl in_enters rfl (fun w1 hw1 => in_calls hw1 _ _ _ (by repeat (first | exact List.Mem.head _ | apply List.Mem.tail | apply List.mem_append_right))) ?_
  refine xo_notOp rfl rfl rfl ?_
  with_reducible refine xo_nil ?_
  with_reducible repeat (first | refine xq_then ?_ | refine xq_blockN ?_ | refine xq_scopeN ?_)
  with_reducible repeat refine xc_seq ?_
  refine xc_cond rfl (fun hd => ?_) (fun hd => ?_)
  · have ho : openF r l day ids = 2 := by
      simp only [Bool.not_eq_true'] at hd
      simp [openF, hc, hd]
    with_reducible repeat refine xc_seq ?_
    with_reducible refine xc_region ?_
    refine xo_build TB_ rfl rfl rfl rfl rfl ?_
    refine xo_store T_ rfl rfl rfl rfl (by repeat (first | exact List.Mem.head _ | apply List.Mem.tail | apply List.mem_append_right)) rfl rfl rfl rfl (by repeat (first | exact Upd.head | apply Upd.tail | apply Upd.app)) rfl ?_
    refine xo_asg rfl rfl rfl ?_
    with_reducible refine xo_nil ?_
    with_reducible repeat (first | refine xq_then ?_ | refine xq_blockN ?_ | refine xq_scopeN ?_)
    with_reducible repeat refine xc_seq ?_
    with_reducible refine xc_ret ?_
    with_reducible repeat (first | refine xq_thenR ?_ | refine xq_blockR ?_ | refine xq_scopeR ?_)
    exact xq_retC1 T_ rfl rfl rfl rfl (by repeat (first | exact List.Mem.head _ | apply List.Mem.tail | apply List.mem_append_right)) rfl fun w' hw => ⟨_, by rw [ho], hw.kx.below, fun _ => rfl, fun h => by rw [ho] at h; cases h⟩
  simp only [Bool.not_eq_false'] at hd
  with_reducible refine xc_skip ?_
  with_reducible repeat (first | refine xq_then ?_ | refine xq_blockN ?_ | refine xq_scopeN ?_)
  with_reducible repeat refine xc_seq ?_
  with_reducible refine xc_region ?_
  refine xo_mv rfl rfl rfl ?_
  refine xo_len T_ rfl rfl rfl rfl ?_
  refine xo_mv rfl rfl rfl ?_
  with_reducible refine xo_nil ?_
  with_reducible repeat (first | refine xq_then ?_ | refine xq_blockN ?_ | refine xq_scopeN ?_)
  with_reducible repeat refine xc_seq ?_
  with_reducible refine xc_block ?_
  refine xc_loop (γ := Nat) (fun k => k ≤ ids.length ∧ ids.all (knownF r) = (ids.drop k).all (knownF r)) (fun k => [(0, .slice A r.length c), (1, .slice B l.length c'), (2, .int .i64 day), (8, .pointer (some ⟨b8, 0, none⟩)), (25, .slice D ids.length c2), (26, .int .i64 (ids.length : Int)), (27, .int .i64 (k : Int))])
    (fun _ => [(b8, true, cel [.slice none 0 0, .map none] 91)]) (fun k => ids.length - k) 0 ⟨Nat.zero_le _, rfl⟩ ⟨rfl, rfl, rfl, rfl, rfl, rfl, rfl, trivial⟩ (by repeat (first | exact List.Sublist.refl _ | apply List.Sublist.cons_cons | apply List.Sublist.cons | exact List.nil_sublist _)) ?_
  rintro k ⟨hk1, hall⟩
  with_reducible repeat refine xc_seq ?_
  with_reducible refine xc_region ?_
  refine xo_lss rfl rfl rfl rfl ?_
  with_reducible refine xo_nil ?_
  with_reducible repeat (first | refine xq_then ?_ | refine xq_blockN ?_ | refine xq_scopeN ?_)
  with_reducible repeat refine xc_seq ?_
  refine xc_cond rfl (fun h2 => ?_) (fun h2 => ?_)
  · have hlt : k < ids.length := by have := of_decide_eq_true h2; omega
    obtain ⟨ad, rfl, r1⟩ := int_at hi k hlt
    rw [drop_at ids 0 k hlt, List.all_cons] at hall
    generalize ids.getD k 0 = y at *
    with_reducible refine xc_skip ?_
    with_reducible repeat (first | refine xq_then ?_ | refine xq_blockN ?_ | refine xq_scopeN ?_)
    with_reducible repeat refine xc_seq ?_
    with_reducible refine xc_block ?_
    with_reducible repeat refine xc_seq ?_
    with_reducible refine xc_region ?_
    refine xo_ia T_ rfl rfl rfl rfl rfl ⟨by omega, by omega⟩ rfl ?_
    refine xo_loadR0 T_ rfl rfl rfl (by first | assumption | exact RO.fld (by assumption) rfl) rfl ?_
    refine xo_asg rfl rfl rfl ?_
    with_reducible refine xo_nil ?_
    with_reducible repeat (first | refine xq_then ?_ | refine xq_blockN ?_ | refine xq_scopeN ?_)
    with_reducible repeat refine xc_seq ?_
    with_reducible refine xc_region ?_
    refine xo_mv rfl rfl rfl ?_
    refine xo_mv rfl rfl rfl ?_
    refine xo_callB (fs := []) (cs := []) rfl rfl rfl known_enters rfl (fun w1 hw1 => known_calls A c r _ w1 (Kd.C_below hr hw1.kx.below)) ?_
    refine xo_notOp rfl rfl rfl ?_
    with_reducible refine xo_nil ?_
    with_reducible repeat (first | refine xq_then ?_ | refine xq_blockN ?_ | refine xq_scopeN ?_)
    with_reducible repeat refine xc_seq ?_
    refine xc_cond rfl (fun h3 => ?_) (fun h3 => ?_)
    · have ho : openF r l day ids = 6 := by
        simp only [Bool.not_eq_true'] at h3
        simp [openF, hc, hd, hall, h3]
      with_reducible repeat refine xc_seq ?_
      with_reducible refine xc_region ?_
      refine xo_build TB_ rfl rfl rfl rfl rfl ?_
      refine xo_store T_ rfl rfl rfl rfl (by repeat (first | exact List.Mem.head _ | apply List.Mem.tail | apply List.mem_append_right)) rfl rfl rfl rfl (by repeat (first | exact Upd.head | apply Upd.tail | apply Upd.app)) rfl ?_
      refine xo_asg rfl rfl rfl ?_
      with_reducible refine xo_nil ?_
      with_reducible repeat (first | refine xq_then ?_ | refine xq_blockN ?_ | refine xq_scopeN ?_)
      with_reducible repeat refine xc_seq ?_
      with_reducible refine xc_ret ?_
      with_reducible repeat (first | refine xq_thenR ?_ | refine xq_blockR ?_ | refine xq_scopeR ?_)
      exact xq_retC1 T_ rfl rfl rfl rfl (by repeat (first | exact List.Mem.head _ | apply List.Mem.tail | apply List.mem_append_right)) rfl fun w' hw => ⟨_, by rw [ho], hw.kx.below, fun _ => rfl, fun h => by rw [ho] at h; cases h⟩
    · simp only [Bool.not_eq_false'] at h3
      with_reducible refine xc_skip ?_
      with_reducible repeat (first | refine xq_then ?_ | refine xq_blockN ?_ | refine xq_scopeN ?_)
      with_reducible repeat refine xc_seq ?_
      with_reducible refine xc_region ?_
      refine xo_add rfl rfl rfl (by omega) rfl ?_
      refine xo_mv rfl rfl rfl ?_
      with_reducible refine xo_nil ?_
      with_reducible repeat (first | refine xq_then ?_ | refine xq_blockN ?_ | refine xq_scopeN ?_)
      exact xq_again _ _ _ _ _ (k + 1) ⟨hlt, by rw [hall, h3, Bool.true_and]⟩ (by omega) ⟨rfl, rfl, rfl, rfl, rfl, rfl, rfl, trivial⟩ (by repeat (first | exact List.Sublist.refl _ | apply List.Sublist.cons_cons | apply List.Sublist.cons | exact List.nil_sublist _))
  · have hge : ¬ k < ids.length := by have := of_decide_eq_false h2; omega
    rw [List.drop_of_length_le (by omega)] at hall
    have ho : openF r l day ids = 0 := by simp [openF, hc, hd, hall]
    with_reducible refine xc_exit ?_
    with_reducible repeat (first | refine xq_blockX ?_ | refine xq_thenE ?_ | refine xq_blockE rfl ?_ | refine xq_scopeE ?_)
    with_reducible repeat (first | refine xq_then ?_ | refine xq_blockN ?_ | refine xq_scopeN ?_)
    with_reducible repeat refine xc_seq ?_
    with_reducible refine xc_region ?_
    refine xo_mv rfl rfl rfl ?_
    refine xo_mv rfl rfl rfl ?_
    refine xo_mv rfl rfl rfl ?_
    refine xo_call (fs := []) (cs := []) rfl rfl rfl on_enters rfl (fun w1 hw1 => (on_calls A B c c' r l day w1 (Kd.C_below hr hw1.kx.below) (Kd.C_below hl hw1.kx.below)).mono ?_)
    rintro e w2 ⟨M, rfl, hM1, hM2, hb⟩
    obtain ⟨oM, hM3, hM4⟩ := hmap_of hM2
    refine ⟨_, _, rfl, hw1.more hb hM1 hM3 hM4, ?_⟩
    refine xo_store T_ rfl rfl rfl rfl (by repeat (first | exact List.Mem.head _ | apply List.Mem.tail | apply List.mem_append_right)) rfl rfl rfl rfl (by repeat (first | exact Upd.head | apply Upd.tail | apply Upd.app)) rfl ?_
    refine xo_asg rfl rfl rfl ?_
    with_reducible refine xo_nil ?_
    with_reducible repeat (first | refine xq_then ?_ | refine xq_blockN ?_ | refine xq_scopeN ?_)
    with_reducible repeat refine xc_seq ?_
    with_reducible refine xc_ret ?_
    with_reducible repeat (first | refine xq_thenR ?_ | refine xq_blockR ?_ | refine xq_scopeR ?_)
    exact xq_retC1 T_ rfl rfl rfl rfl (by repeat (first | exact List.Mem.head _ | apply List.Mem.tail | apply List.mem_append_right)) rfl fun w' hw => ⟨_, by rw [ho], hw.kx.below, fun h => absurd ho h, fun _ => ⟨M, rfl, hw.own (List.Mem.head _), hw.imap (wr := true) (by repeat (first | exact List.Mem.head _ | apply List.Mem.tail | apply List.mem_append_right))⟩⟩
theorem open_enters : ∀ args w, (callFunc 50 args).run Tryd.prog w = .ok (.enter 50 args) w := enters_of Tryd.func50 (by kernel_rfl) rfl
theorem holdsL_len (gone : List Int) : ∀ (r : List RecT) (bs : List Int), (holdsL gone bs r).length ≤ r.length
  | [], _ => by simp [holdsL]
  | x :: r, bs => by
    unfold holdsL
    split
    · have := holdsL_len gone r bs; simp; omega
    · have := holdsL_len gone r (insN x.f0 bs); simp; omega
theorem openF_len {r : List RecT} {l : List LetT} {day : Int} {ids : List Int} (h : openF r l day ids = 0) : r.length ≤ 12 := by
  unfold openF at h
  split at h
  · rename_i hc
    unfold checkF at hc
    split at hc
    · rename_i hr
      unfold recordedF at hr
      simp only [Bool.and_eq_true, decide_eq_true_eq] at hr
      exact hr.2
    · cases hc
  · rename_i hc
    exact absurd h hc
def holdsR (r : List RecT) (l : List LetT) (day : Int) : List Int := if openF r l day [] = 0 then holdsF r (goneF r l day) else []
set_option maxHeartbeats 4000000 in
theorem trustHolds_calls (A B : Option Addr) (c c' : Nat) (r : List RecT) (l : List LetT) (day : Int) (w : World) (hr : Kd.C recK w A r.length r) (hl : Kd.C letK w B l.length l) (hk : Bytes r) (hkl : BytesL l) :
    Calls Tryd.prog 28 #[.slice A r.length c, .slice B l.length c', .int .i64 day] w fun e w' => ∃ rr : RowR, e = .returned (.tuple #[valR rr (holdsR r l day).length, .int .i64 (openF r l day [])]) ∧ RowAt 3 w.heap.size w' rr (holdsR r l day) ∧ Below w.heap.size w w' := by
  refine x_calls (X := XNone) Tryd.func28 rfl rfl rfl ?_
  with_reducible repeat refine xc_seq ?_
  with_reducible refine xc_region ?_
  refine xo_asg rfl rfl rfl ?_
  refine xo_asg rfl rfl rfl ?_
  with_reducible refine xo_nil ?_
  with_reducible repeat (first | refine xq_then ?_ | refine xq_blockN ?_ | refine xq_scopeN ?_)
  with_reducible repeat refine xc_seq ?_
  with_reducible refine xc_region ?_
  refine xo_mv rfl rfl rfl ?_
  refine xo_mv rfl rfl rfl ?_
  refine xo_mv rfl rfl rfl ?_
  refine xo_call (fs := []) (cs := []) rfl rfl rfl open_enters rfl (fun w1 hw1 => (open_calls A B none c c' 0 r l day [] w1 (Kd.C_below hr hw1.kx.below) (Kd.C_below hl hw1.kx.below) (Kd.C_nil _ _) hk hkl).mono ?_)
  rintro e w2 ⟨sv, rfl, hb, hne, h0⟩
  by_cases ho : openF r l day [] = 0
  · obtain ⟨M, rfl, hM1, hM2⟩ := h0 ho
    obtain ⟨oM, hM3, hM4⟩ := hmap_of hM2
    rw [ho]
    refine ⟨_, _, rfl, hw1.more hb hM1 hM3 hM4, ?_⟩
    clear hb hM2 hM3 hM4 hne h0 hM1
    have hlen : (holdsF r (goneF r l day)).length ≤ 1000000 := by have := holdsL_len (goneF r l day) r []; have := openF_len ho; unfold holdsF; omega
    refine xo_mv rfl rfl rfl ?_
    refine xo_ext rfl rfl rfl rfl ?_
    refine xo_ext rfl rfl rfl rfl ?_
    refine xo_alloc T_ rfl rfl rfl rfl (fun b8 => ?_)
    refine xo_store T_ rfl rfl rfl rfl (by repeat (first | exact List.Mem.head _ | apply List.Mem.tail | apply List.mem_append_right)) rfl rfl rfl rfl (by repeat (first | exact Upd.head | apply Upd.tail | apply Upd.app)) rfl ?_
    refine xo_asg rfl rfl rfl ?_
    with_reducible refine xo_nil ?_
    with_reducible repeat (first | refine xq_then ?_ | refine xq_blockN ?_ | refine xq_scopeN ?_)
    with_reducible repeat refine xc_seq ?_
    with_reducible refine xc_region ?_
    refine xo_mv rfl rfl rfl ?_
    refine xo_neq rfl rfl rfl rfl ?_
    with_reducible refine xo_nil ?_
    with_reducible repeat (first | refine xq_then ?_ | refine xq_blockN ?_ | refine xq_scopeN ?_)
    with_reducible repeat refine xc_seq ?_
    refine xc_condF rfl ?_
    with_reducible refine xc_skip ?_
    with_reducible repeat (first | refine xq_then ?_ | refine xq_blockN ?_ | refine xq_scopeN ?_)
    with_reducible repeat refine xc_seq ?_
    with_reducible refine xc_region ?_
    refine xo_loadN T_ rfl rfl rfl (by repeat (first | exact List.Mem.head _ | apply List.Mem.tail | apply List.mem_append_right)) rfl rfl ?_
    refine xo_fa T_ rfl rfl rfl rfl rfl ?_
    refine xo_load0 T_ rfl rfl rfl (by repeat (first | exact List.Mem.head _ | apply List.Mem.tail | apply List.mem_append_right)) rfl rfl ?_
    refine xo_holds rfl rfl rfl rfl (fun b2 b3 => ?_)
    refine xo_collect (r := r) hr (by have := openF_len ho; omega) rfl rfl (by repeat (first | exact List.Mem.head _ | apply List.Mem.tail | apply List.mem_append_right)) (by repeat (first | exact List.Mem.head _ | apply List.Mem.tail | apply List.mem_append_right)) (by repeat (first | exact List.Mem.head _ | apply List.Mem.tail | apply List.mem_append_right)) (fun w1 hw1 => ne_of_nd hw1) rfl (fun rr hrr => ?_)
    refine xo_asg rfl rfl rfl ?_
    refine xo_asg rfl rfl rfl ?_
    with_reducible refine xo_nil ?_
    with_reducible repeat (first | refine xq_then ?_ | refine xq_blockN ?_ | refine xq_scopeN ?_)
    with_reducible repeat refine xc_seq ?_
    with_reducible refine xc_ret ?_
    with_reducible repeat (first | refine xq_thenR ?_ | refine xq_blockR ?_ | refine xq_scopeR ?_)
    refine xq_ret2 rfl rfl rfl fun w' hw => ⟨rr, by rw [holdsR, if_pos ho], ?_, hw.kx.below⟩
    rw [holdsR, if_pos ho]
    exact RowAt.of hw hrr
  · obtain rfl := hne ho
    refine ⟨_, _, rfl, hw1.below hb, ?_⟩
    clear hb hne h0
    refine xo_mv rfl rfl rfl ?_
    refine xo_ext rfl rfl rfl rfl ?_
    refine xo_ext rfl rfl rfl rfl ?_
    refine xo_alloc T_ rfl rfl rfl rfl (fun b8 => ?_)
    refine xo_store T_ rfl rfl rfl rfl (by repeat (first | exact List.Mem.head _ | apply List.Mem.tail | apply List.mem_append_right)) rfl rfl rfl rfl (by repeat (first | exact Upd.head | apply Upd.tail | apply Upd.app)) rfl ?_
    refine xo_asg rfl rfl rfl ?_
    with_reducible refine xo_nil ?_
    with_reducible repeat (first | refine xq_then ?_ | refine xq_blockN ?_ | refine xq_scopeN ?_)
    have hd : (!decide (openF r l day [] = 0)) = true := by simp [ho]
    with_reducible repeat refine xc_seq ?_
    with_reducible refine xc_region ?_
    refine xo_mv rfl rfl rfl ?_
    refine xo_neq rfl rfl rfl rfl ?_
    refine xo_as (i := 18) rfl (congrArg Value.bool hd) ?_
    with_reducible refine xo_nil ?_
    with_reducible repeat (first | refine xq_then ?_ | refine xq_blockN ?_ | refine xq_scopeN ?_)
    with_reducible repeat refine xc_seq ?_
    refine xc_condT rfl ?_
    with_reducible repeat refine xc_seq ?_
    with_reducible refine xc_region ?_
    refine xo_mv rfl rfl rfl ?_
    refine xo_asg rfl rfl rfl ?_
    refine xo_asg rfl rfl rfl ?_
    with_reducible refine xo_nil ?_
    with_reducible repeat (first | refine xq_then ?_ | refine xq_blockN ?_ | refine xq_scopeN ?_)
    with_reducible repeat refine xc_seq ?_
    with_reducible refine xc_ret ?_
    with_reducible repeat (first | refine xq_thenR ?_ | refine xq_blockR ?_ | refine xq_scopeR ?_)
    refine xq_ret2 rfl rfl rfl fun w' hw => ⟨none, by rw [holdsR, if_neg ho]; rfl, ?_, hw.kx.below⟩
    rw [holdsR, if_neg ho]
    exact ⟨fun _ => rfl, fun p hp => by cases hp⟩
end Go.Proofs.YtcmepdamemnbkaaDoor
namespace Go.Proofs.YtcmepdamemnbkaaDoor
open Go.RowKit Go.Proofs.YtcmepdamemnbkaaDoorW.PrintWords
set_option linter.unusedVariables false
set_option linter.unusedSimpArgs false
theorem takes1_calls (x : Int) (A : Option Addr) (c : Nat) (zs : List Int) (B : Nat) (w : World) (hB : w.cell? ⟨B, 0, none⟩ = some (.slice A zs.length c)) (hr : Kd.C (Kd.int .i64) w A zs.length zs) :
    Calls Tryd.prog 58 #[.int .i64 x, .pointer (some ⟨B, 0, none⟩)] w fun e w' => e = .returned (.bool (decide (x ∈ zs))) ∧ Below w.heap.size w w' := by
  have r1 := ro1 hB
  refine x_calls (X := XNone) Tryd.func58 rfl rfl rfl ?_
  with_reducible repeat refine xc_seq ?_
  with_reducible refine xc_region ?_
  refine xo_asg rfl rfl rfl ?_
  with_reducible refine xo_nil ?_
  with_reducible repeat (first | refine xq_then ?_ | refine xq_blockN ?_ | refine xq_scopeN ?_)
  with_reducible repeat refine xc_seq ?_
  with_reducible refine xc_region ?_
  refine xo_loadR0 T_ rfl rfl rfl (by first | assumption | exact RO.fld (by assumption) rfl) rfl ?_
  refine xo_mv rfl rfl rfl ?_
  refine xo_callB (fs := []) (cs := []) rfl rfl rfl contains_enters rfl (fun w1 hw1 => contains_calls A c zs x w1 (Kd.C_below hr hw1.kx.below)) ?_
  refine xo_asg rfl rfl rfl ?_
  with_reducible refine xo_nil ?_
  with_reducible repeat (first | refine xq_then ?_ | refine xq_blockN ?_ | refine xq_scopeN ?_)
  with_reducible repeat refine xc_seq ?_
  with_reducible refine xc_ret ?_
  with_reducible repeat (first | refine xq_thenR ?_ | refine xq_blockR ?_ | refine xq_scopeR ?_)
  exact xq_ret1 rfl rfl fun w' hw => ⟨rfl, hw.kx.below⟩
theorem deleteFunc_nil (p : Int → Bool) (g : Nat) (cs : List Value) (eg : ∀ args w, (callFunc g args).run Tryd.prog w = .ok (.enter g args) w) (w : World) (hp : Asks Tryd.prog w g cs (.int .i64) p) :
    Calls Tryd.prog 57 #[.slice none 0 0, .func (.func g) #[] cs.toArray] w fun e w' => e = .returned (.slice none 0 0) ∧ Below w.heap.size w w' := by
  have eg2 := enters_of Tryd.func68 (by kernel_rfl) rfl
  refine x_calls (X := XNone) Tryd.func57 rfl rfl rfl ?_
  with_reducible repeat refine xc_seq ?_
  with_reducible refine xc_region ?_
  refine xo_asg rfl rfl rfl ?_
  with_reducible refine xo_nil ?_
  with_reducible repeat (first | refine xq_then ?_ | refine xq_blockN ?_ | refine xq_scopeN ?_)
  with_reducible repeat refine xc_seq ?_
  with_reducible refine xc_region ?_
  refine xo_mv rfl rfl rfl ?_
  refine xo_mv rfl rfl rfl ?_
  refine xo_callB (fs := []) (cs := []) rfl rfl rfl eg2 rfl (fun w1 hw1 => indexFunc_calls p g cs eg none 0 [] w1 (Kd.C_nil _ _) (fun x W hW => hp x W (below_step hw1.kx.below hW))) ?_
  refine xo_asg rfl rfl rfl ?_
  with_reducible refine xo_nil ?_
  with_reducible repeat (first | refine xq_then ?_ | refine xq_blockN ?_ | refine xq_scopeN ?_)
  with_reducible repeat refine xc_seq ?_
  with_reducible refine xc_region ?_
  refine xo_mv rfl rfl rfl ?_
  refine xo_eql rfl rfl rfl rfl ?_
  with_reducible refine xo_nil ?_
  with_reducible repeat (first | refine xq_then ?_ | refine xq_blockN ?_ | refine xq_scopeN ?_)
  with_reducible repeat refine xc_seq ?_
  refine xc_condT rfl ?_
  with_reducible repeat refine xc_seq ?_
  with_reducible refine xc_region ?_
  refine xo_mv rfl rfl rfl ?_
  refine xo_asg rfl rfl rfl ?_
  with_reducible refine xo_nil ?_
  with_reducible repeat (first | refine xq_then ?_ | refine xq_blockN ?_ | refine xq_scopeN ?_)
  with_reducible repeat refine xc_seq ?_
  with_reducible refine xc_ret ?_
  with_reducible repeat (first | refine xq_thenR ?_ | refine xq_blockR ?_ | refine xq_scopeR ?_)
  exact xq_ret1 rfl rfl fun w' hw => ⟨rfl, hw.kx.below⟩
theorem delete_enters : ∀ args w, (callFunc 57 args).run Tryd.prog w = .ok (.enter 57 args) w := enters_of Tryd.func57 (by kernel_rfl) rfl
theorem takes1_enters : ∀ args w, (callFunc 58 args).run Tryd.prog w = .ok (.enter 58 args) w := enters_of Tryd.func58 (by kernel_rfl) rfl
def takesF (r : List RecT) (gone : List Int) (id : Int) : List Int := (holdsF r gone).filter fun n => !decide (n ∈ holdsF r (insN id gone))
def takesR (r : List RecT) (l : List LetT) (day id : Int) : List Int := if openF r l day [id] = 0 then takesF r (goneF r l day) id else []
theorem holdsF_len (r : List RecT) (gone : List Int) : (holdsF r gone).length ≤ r.length := holdsL_len gone r []
theorem RowAt.kx {e : TypeId} {base : Nat} {w w' : World} {X : Nat → Prop} {rr : RowR} {xs : List Int} (h : RowAt e base w rr xs) (k : Kx X w w') (hX : ∀ p, rr = some p → ¬ X p.1) : RowAt e base w' rr xs :=
  ⟨h.1, fun p hp => by
    obtain ⟨h1, o, h2, h3⟩ := h.2 p hp
    exact ⟨h1, o, (k.block _ (Array.getElem?_eq_some_iff.1 h2).1 (hX p hp)).trans h2, h3⟩⟩
theorem WOK.rowAt {w0 : World} {X : Nat → Prop} {η : Hp} {w : World} (h : WOK w0 X η w) {e : TypeId} {rr : RowR} {xs : List Int} (h0 : rr = none → xs = []) (hs : ∀ p, rr = some p → (p.1, true, orow e 1 xs.length p.2 (xs.map (.int .i64))) ∈ η) : RowAt e 0 w rr xs :=
  ⟨h0, fun p hp => ⟨Nat.zero_le _, h.bl _ (hs p hp)⟩⟩
theorem WOK.neH {w0 : World} {X : Nat → Prop} {η : Hp} {w : World} {e e' : Nat × Bool × HP} (h : WOK w0 X (e :: η) w) (he : e' ∈ η) : e.1 ≠ e'.1 := by
  have := h.nd
  simp only [List.map_cons, List.nodup_cons, List.mem_map, not_exists, not_and] at this
  exact fun q => this.1 e' he q.symm
theorem valR_cells (r : RowR) (n : Nat) : (valR r n).cells.toList = [valR r n] := by cases r <;> rfl
theorem takes_asks {X X0 : Nat → Prop} {w0 : World} {η : Hp} {w : World} {rr2 : RowR} {zs : List Int} {t : TypeId} {b13 : Nat} {wr : Bool} (hw : WOK w0 X0 η w) (hb : (b13, wr, cel [valR rr2 zs.length] t) ∈ η) (hr : RowAt 3 0 w rr2 zs) (hz : zs.length ≤ 1000000) (hX : ¬ X b13) (hX2 : ∀ p, rr2 = some p → ¬ X p.1) :
    AsksK Tryd.prog X w 58 [.pointer (some ⟨b13, 0, none⟩)] (fun x => decide (x ∈ zs)) := fun x W hW => by
  obtain ⟨A, c, e, hc, hC⟩ := (RowAt.kx hr hW hX2).C (by omega)
  have h1 := hW.cell (hw.cell hb 0 rfl) hX
  rw [e] at h1
  exact takes1_calls x A c zs b13 W h1 hC
set_option maxHeartbeats 8000000 in
theorem trustTakes_calls (A B : Option Addr) (c c' : Nat) (r : List RecT) (l : List LetT) (day id : Int) (w : World) (hr : Kd.C recK w A r.length r) (hl : Kd.C letK w B l.length l) (hk : Bytes r) (hkl : BytesL l) :
    Calls Tryd.prog 29 #[.slice A r.length c, .slice B l.length c', .int .i64 day, .int .i64 id] w fun e w' => ∃ rr : RowR, e = .returned (.tuple #[valR rr (takesR r l day id).length, .int .i64 (openF r l day [id])]) ∧ RowAt 3 w.heap.size w' rr (takesR r l day id) ∧ Below w.heap.size w w' := by
  refine x_calls (X := XNone) Tryd.func29 rfl rfl rfl ?_
  with_reducible repeat refine xc_seq ?_
  with_reducible refine xc_region ?_
  refine xo_asg rfl rfl rfl ?_
  refine xo_asg rfl rfl rfl ?_
  with_reducible refine xo_nil ?_
  with_reducible repeat (first | refine xq_then ?_ | refine xq_blockN ?_ | refine xq_scopeN ?_)
  with_reducible repeat refine xc_seq ?_
  with_reducible refine xc_region ?_
  refine xo_mv rfl rfl rfl ?_
  refine xo_mv rfl rfl rfl ?_
  refine xo_mv rfl rfl rfl ?_
  refine xo_mv rfl rfl rfl ?_
  refine xo_bs1 T_ rfl rfl rfl rfl rfl rfl rfl rfl (fun b19 => ?_)
  refine xo_call (fs := []) (cs := []) rfl rfl rfl open_enters rfl (fun w1 hw1 => (open_calls A B (some ⟨b19, 0, none⟩) c c' 1 r l day [id] w1 (Kd.C_below hr hw1.kx.below) (Kd.C_below hl hw1.kx.below) (C_cel hw1 (xs := [id]) (List.Mem.head _) (by simp)) hk hkl).mono ?_)
  rintro e w2 ⟨sv, rfl, hb, hne, h0⟩
  by_cases ho : openF r l day [id] = 0
  · obtain ⟨M, rfl, hM1, hM2⟩ := h0 ho
    obtain ⟨oM, hM3, hM4⟩ := hmap_of hM2
    rw [ho]
    refine ⟨_, _, rfl, hw1.more hb hM1 hM3 hM4, ?_⟩
    clear hb hM2 hM3 hM4 hne h0 hM1
    have hlen : r.length ≤ 1000000 := by have := openF_len ho; omega
    refine xo_mv rfl rfl rfl ?_
    refine xo_ext rfl rfl rfl rfl ?_
    refine xo_ext rfl rfl rfl rfl ?_
    refine xo_alloc T_ rfl rfl rfl rfl (fun b10 => ?_)
    refine xo_store T_ rfl rfl rfl rfl (by repeat (first | exact List.Mem.head _ | apply List.Mem.tail | apply List.mem_append_right)) rfl rfl rfl rfl (by repeat (first | exact Upd.head | apply Upd.tail | apply Upd.app)) rfl ?_
    refine xo_asg rfl rfl rfl ?_
    with_reducible refine xo_nil ?_
    with_reducible repeat (first | refine xq_then ?_ | refine xq_blockN ?_ | refine xq_scopeN ?_)
    with_reducible repeat refine xc_seq ?_
    with_reducible refine xc_region ?_
    refine xo_mv rfl rfl rfl ?_
    refine xo_neq rfl rfl rfl rfl ?_
    with_reducible refine xo_nil ?_
    with_reducible repeat (first | refine xq_then ?_ | refine xq_blockN ?_ | refine xq_scopeN ?_)
    with_reducible repeat refine xc_seq ?_
    refine xc_condF rfl ?_
    with_reducible refine xc_skip ?_
    with_reducible repeat (first | refine xq_then ?_ | refine xq_blockN ?_ | refine xq_scopeN ?_)
    with_reducible repeat refine xc_seq ?_
    with_reducible refine xc_region ?_
    refine xo_loadN T_ rfl rfl rfl (by repeat (first | exact List.Mem.head _ | apply List.Mem.tail | apply List.mem_append_right)) rfl rfl ?_
    refine xo_fa T_ rfl rfl rfl rfl rfl ?_
    refine xo_load0 T_ rfl rfl rfl (by repeat (first | exact List.Mem.head _ | apply List.Mem.tail | apply List.mem_append_right)) rfl rfl ?_
    refine xo_holds rfl rfl rfl rfl (fun b2 b3 => ?_)
    refine xo_collect (r := r) hr hlen rfl rfl (by repeat (first | exact List.Mem.head _ | apply List.Mem.tail | apply List.mem_append_right)) (by repeat (first | exact List.Mem.head _ | apply List.Mem.tail | apply List.mem_append_right)) (by repeat (first | exact List.Mem.head _ | apply List.Mem.tail | apply List.mem_append_right)) (fun w1 hw1 => ne_of_nd hw1) rfl (fun rr hrr => ?_)
    refine xo_asg rfl rfl rfl ?_
    with_reducible refine xo_nil ?_
    with_reducible repeat (first | refine xq_then ?_ | refine xq_blockN ?_ | refine xq_scopeN ?_)
    with_reducible repeat refine xc_seq ?_
    with_reducible refine xc_region ?_
    refine xo_fa T_ rfl rfl rfl rfl rfl ?_
    refine xo_load0 T_ rfl rfl rfl (by repeat (first | exact List.Mem.head _ | apply List.Mem.tail | apply List.mem_append_right)) rfl rfl ?_
    refine xo_mv rfl rfl rfl ?_
    refine xo_sins T_ rfl rfl rfl rfl rfl rfl (by repeat (first | exact List.Mem.head _ | apply List.Mem.tail | apply List.mem_append_right)) (by repeat (first | exact Upd.head | apply Upd.tail | apply Upd.app)) rfl ?_
    with_reducible refine xo_nil ?_
    with_reducible repeat (first | refine xq_then ?_ | refine xq_blockN ?_ | refine xq_scopeN ?_)
    with_reducible repeat refine xc_seq ?_
    with_reducible refine xc_region ?_
    refine xo_loadN T_ rfl rfl rfl (by repeat (first | exact List.Mem.head _ | apply List.Mem.tail | apply List.mem_append_right)) rfl rfl ?_
    refine xo_fa T_ rfl rfl rfl rfl rfl ?_
    refine xo_load0 T_ rfl rfl rfl (by repeat (first | exact List.Mem.head _ | apply List.Mem.tail | apply List.mem_append_right)) rfl rfl ?_
    refine xo_holds rfl rfl rfl rfl (fun b4 b5 => ?_)
    refine xo_collect (r := r) hr hlen rfl rfl (by repeat (first | exact List.Mem.head _ | apply List.Mem.tail | apply List.mem_append_right)) (by repeat (first | exact List.Mem.head _ | apply List.Mem.tail | apply List.mem_append_right)) (by repeat (first | exact List.Mem.head _ | apply List.Mem.tail | apply List.mem_append_right)) (fun w1 hw1 => ne_of_nd hw1) rfl (fun rr2 hrr2 => ?_)
    refine xo_alloc T_ rfl rfl rfl rfl (fun b13 => ?_)
    refine xo_store T_ rfl rfl rfl rfl (by repeat (first | exact List.Mem.head _ | apply List.Mem.tail | apply List.mem_append_right)) (valR_cells _ _) rfl (by cases rr2 <;> rfl) rfl (by repeat (first | exact Upd.head | apply Upd.tail | apply Upd.app)) rfl ?_
    with_reducible refine xo_nil ?_
    with_reducible repeat (first | refine xq_then ?_ | refine xq_blockN ?_ | refine xq_scopeN ?_)
    have hz : (holdsF r (insN id (goneF r l day))).length ≤ 1000000 := by have := holdsF_len r (insN id (goneF r l day)); omega
    have hz' : (holdsF r (goneF r l day)).length ≤ 1000000 := by have := holdsF_len r (goneF r l day); omega
    have ht : takesR r l day id = takesF r (goneF r l day) id := by rw [takesR, if_pos ho]
    rcases rr with _ | ⟨g1, cap1⟩
    · have hx0 := hrr rfl
      have ht0 : takesF r (goneF r l day) id = [] := by rw [takesF, hx0]; rfl
      with_reducible repeat refine xc_seq ?_
      with_reducible refine xc_region ?_
      refine xo_mv rfl rfl rfl ?_
      refine xo_mkf rfl rfl rfl rfl ?_
      refine xo_callB (fs := []) (cs := []) rfl rfl rfl delete_enters rfl (fun w1 hw1 => deleteFunc_nil (fun x => decide (x ∈ holdsF r (insN id (goneF r l day)))) _ _ takes1_enters w1 (fun x W hW => takes_asks (X := XNone) hw1 (List.Mem.head _) (hw1.rowAt hrr2 (fun p hp => by subst hp; exact List.Mem.tail _ (List.mem_append_left _ (List.Mem.head _)))) hz (fun h => h) (fun _ _ h => h) x W (Kx.of_below hW))) ?_
      refine xo_asg rfl rfl rfl ?_
      refine xo_asg rfl rfl rfl ?_
      with_reducible refine xo_nil ?_
      with_reducible repeat (first | refine xq_then ?_ | refine xq_blockN ?_ | refine xq_scopeN ?_)
      with_reducible repeat refine xc_seq ?_
      with_reducible refine xc_ret ?_
      with_reducible repeat (first | refine xq_thenR ?_ | refine xq_blockR ?_ | refine xq_scopeR ?_)
      refine xq_ret2 rfl rfl rfl fun w' hw => ⟨none, by rw [ht, ht0]; rfl, ?_, hw.kx.below⟩
      rw [ht, ht0]
      exact ⟨fun _ => rfl, fun p hp => by cases hp⟩
    · with_reducible repeat refine xc_seq ?_
      with_reducible refine xc_region ?_
      refine xo_mv rfl rfl rfl ?_
      refine xo_mkf rfl rfl rfl rfl ?_
      refine xo_call (fs := []) (cs := []) rfl rfl rfl delete_enters rfl (fun w1 hw1 => ?_)
      have hm1 := hw1.neH (e' := (g1, true, orow 3 1 (holdsF r (goneF r l day)).length cap1 ((holdsF r (goneF r l day)).map (.int .i64)))) (List.mem_append_right _ (by repeat (first | exact List.Mem.head _ | apply List.Mem.tail)))
      have hm2 : ∀ p, rr2 = some p → p.1 ≠ g1 := fun p hp => by subst hp; exact (hw1.sub (List.Sublist.cons _ (List.Sublist.refl _))).neH (e' := (g1, true, orow 3 1 (holdsF r (goneF r l day)).length cap1 ((holdsF r (goneF r l day)).map (.int .i64)))) (List.Mem.tail _ (List.Mem.tail _ (List.Mem.head _)))
      obtain ⟨o1, ho1, ho2⟩ := hw1.bl (g1, true, orow 3 1 (holdsF r (goneF r l day)).length cap1 ((holdsF r (goneF r l day)).map (.int .i64))) (List.Mem.tail _ (List.mem_append_right _ (by repeat (first | exact List.Mem.head _ | apply List.Mem.tail))))
      refine (deleteFunc_calls (fun x => decide (x ∈ holdsF r (insN id (goneF r l day)))) _ _ takes1_enters g1 cap1 (holdsF r (goneF r l day)) w1 o1 ho1 ho2 hz' (takes_asks hw1 (List.Mem.head _) (hw1.rowAt hrr2 (fun p hp => by subst hp; exact List.Mem.tail _ (List.mem_append_left _ (List.Mem.head _)))) hz hm1 hm2)).mono ?_
      rintro e w3 ⟨rfl, hk3, o3, ho3, ho4⟩
      refine ⟨_, _, rfl, hw1.updK (φ' := orow 3 1 (takesF r (goneF r l day) id).length cap1 ((takesF r (goneF r l day) id).map (.int .i64))) (Upd.tail (Upd.app (by repeat (first | exact Upd.head | apply Upd.tail)) _)) hk3 ho3 ho4, ?_⟩
      refine xo_asg rfl rfl rfl ?_
      refine xo_asg rfl rfl rfl ?_
      with_reducible refine xo_nil ?_
      with_reducible repeat (first | refine xq_then ?_ | refine xq_blockN ?_ | refine xq_scopeN ?_)
      with_reducible repeat refine xc_seq ?_
      with_reducible refine xc_ret ?_
      with_reducible repeat (first | refine xq_thenR ?_ | refine xq_blockR ?_ | refine xq_scopeR ?_)
      refine xq_ret2 rfl rfl rfl fun w' hw => ⟨some (g1, cap1), by rw [ht]; rfl, ?_, hw.kx.below⟩
      rw [ht]
      exact ⟨(fun h => by cases h), fun p hp => by
        cases hp
        exact ⟨hw.own (List.Mem.tail _ (List.mem_append_right _ (by repeat (first | exact List.Mem.head _ | apply List.Mem.tail)))), hw.bl (g1, true, orow 3 1 (takesF r (goneF r l day) id).length cap1 ((takesF r (goneF r l day) id).map (.int .i64))) (List.Mem.tail _ (List.mem_append_right _ (by repeat (first | exact List.Mem.head _ | apply List.Mem.tail))))⟩⟩
  · obtain rfl := hne ho
    refine ⟨_, _, rfl, hw1.below hb, ?_⟩
    clear hb hne h0
    refine xo_mv rfl rfl rfl ?_
    refine xo_ext rfl rfl rfl rfl ?_
    refine xo_ext rfl rfl rfl rfl ?_
    refine xo_alloc T_ rfl rfl rfl rfl (fun b8 => ?_)
    refine xo_store T_ rfl rfl rfl rfl (by repeat (first | exact List.Mem.head _ | apply List.Mem.tail | apply List.mem_append_right)) rfl rfl rfl rfl (by repeat (first | exact Upd.head | apply Upd.tail | apply Upd.app)) rfl ?_
    refine xo_asg rfl rfl rfl ?_
    with_reducible refine xo_nil ?_
    with_reducible repeat (first | refine xq_then ?_ | refine xq_blockN ?_ | refine xq_scopeN ?_)
    have hd : (!decide (openF r l day [id] = 0)) = true := by simp [ho]
    with_reducible repeat refine xc_seq ?_
    with_reducible refine xc_region ?_
    refine xo_mv rfl rfl rfl ?_
    refine xo_neq rfl rfl rfl rfl ?_
    refine xo_as (i := 24) rfl (congrArg Value.bool hd) ?_
    with_reducible refine xo_nil ?_
    with_reducible repeat (first | refine xq_then ?_ | refine xq_blockN ?_ | refine xq_scopeN ?_)
    with_reducible repeat refine xc_seq ?_
    refine xc_condT rfl ?_
    with_reducible repeat refine xc_seq ?_
    with_reducible refine xc_region ?_
    refine xo_mv rfl rfl rfl ?_
    refine xo_asg rfl rfl rfl ?_
    refine xo_asg rfl rfl rfl ?_
    with_reducible refine xo_nil ?_
    with_reducible repeat (first | refine xq_then ?_ | refine xq_blockN ?_ | refine xq_scopeN ?_)
    with_reducible repeat refine xc_seq ?_
    with_reducible refine xc_ret ?_
    with_reducible repeat (first | refine xq_thenR ?_ | refine xq_blockR ?_ | refine xq_scopeR ?_)
    refine xq_ret2 rfl rfl rfl fun w' hw => ⟨none, by rw [takesR, if_neg ho]; rfl, ?_, hw.kx.below⟩
    rw [takesR, if_neg ho]
    exact ⟨fun _ => rfl, fun p hp => by cases hp⟩
end Go.Proofs.YtcmepdamemnbkaaDoor
namespace Go.Proofs.YtcmepdamemnbkaaDoorW.PrintWords
open Go.RowKit
section
variable {P : Program} {d : Nat} {xs ys : Array Value} {f : Field} {fs : List Field} {a b : Value} {r s : Bool} {w : World}
/-- The last field that counts. -/
theorem eqf_last (hn : (f.name == "_") = false) (ha : (part f.type xs f.offset).run P w = .ok a w) (hb : (part f.type ys f.offset).run P w = .ok b w) (he : (Op.equalIn d f.type a b).run P w = .ok r w) : (Op.eqFields d xs ys [f]).run P w = .ok r w := by
  have hn' : f.name ≠ "_" := by simpa using hn
  simp only [Op.eqFields, if_pos hn', Sem.run_bind, ha, hb, he, Result.andThen_ok]
  cases r <;> simp
theorem eqf_cons (hn : (f.name == "_") = false) (ha : (part f.type xs f.offset).run P w = .ok a w) (hb : (part f.type ys f.offset).run P w = .ok b w) (he : (Op.equalIn d f.type a b).run P w = .ok r w) (hr : (Op.eqFields d xs ys fs).run P w = .ok s w) : (Op.eqFields d xs ys (f :: fs)).run P w = .ok (r && s) w := by
  have hn' : f.name ≠ "_" := by simpa using hn
  rw [Op.eqFields]
  simp only [if_pos hn', Sem.run_bind, ha, hb, he, Result.andThen_ok]
  cases r
  · simp
  · simpa using hr
theorem eqA_of {t : TypeId} {fs : Array Field} (hu : P.underlying t = some (.struct fs)) (hp : P.stoodInHeld t = false) (h : (Op.eqFields d xs ys fs.toList).run P w = .ok r w) : (Op.equalIn (d + 1) t (.agg xs) (.agg ys)).run P w = .ok r w := by
  have hf : P.fieldsOf t = fs := by simp [Program.fieldsOf, hu]
  rw [run_equalIn_struct (P := P) w d t xs ys (by rw [hf]; exact hu) hp, hf]
  exact h
end
end Go.Proofs.YtcmepdamemnbkaaDoorW.PrintWords
