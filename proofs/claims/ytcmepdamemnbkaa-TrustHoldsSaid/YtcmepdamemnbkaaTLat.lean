/- trust.latest, trust.on's closures, (holding).stands. -/
import Derived.Test.YtcmepdamemnbkaaTKnown
import Derived.Test.YtcmepdamemnbkaaSD
namespace Go.Proofs.Ytcmepdamemnbkaa
open Go.RowKit Go.Proofs.YtcmepdamemnbkaaW.PrintWords
set_option linter.unusedVariables false
set_option linter.unusedSimpArgs false
def latStep (so : LetT → Bool) (when_ : LetT → Int) (s : LetT × Bool) (x : LetT) : LetT × Bool := if so x && (!s.2 || decide (when_ s.1 ≤ when_ x)) then (x, true) else s
def latF (so : LetT → Bool) (when_ : LetT → Int) (s : LetT × Bool) (l : List LetT) : LetT × Bool := l.foldl (latStep so when_) s
/-- a closure over letters that answers what enc tells -/
def AsksL (P : Program) (w : World) (g : Nat) (cs : List Value) (p : LetT → Value) : Prop :=
  ∀ (x : LetT) (W : World), Below w.heap.size w W → Calls P g ([Value.agg (letV x).toArray] ++ cs).toArray W fun e W' => e = .returned (p x) ∧ Below W.heap.size W W'
set_option maxHeartbeats 4000000 in
theorem latest_calls (so : LetT → Bool) (when_ : LetT → Int) (g1 g2 : Nat) (cs1 cs2 : List Value) (eg1 : ∀ args w, (callFunc g1 args).run Try.prog w = .ok (.enter g1 args) w) (eg2 : ∀ args w, (callFunc g2 args).run Try.prog w = .ok (.enter g2 args) w)
    (A : Option Addr) (c : Nat) (l : List LetT) (w : World) (hl : Kd.C letK w A l.length l) (h1 : AsksL Try.prog w g1 cs1 (fun x => .bool (so x))) (h2 : AsksL Try.prog w g2 cs2 (fun x => .int .i64 (when_ x))) :
    Calls Try.prog 60 #[.slice A l.length c, .func (.func g1) #[] cs1.toArray, .func (.func g2) #[] cs2.toArray] w fun e w' => e = .returned (.tuple #[.agg (letV (latF so when_ (zLet, false) l).1).toArray, .bool (latF so when_ (zLet, false) l).2]) ∧ Below w.heap.size w w' := by
  have hn := hl.2.1
  refine x_calls (X := XNone) Try.func60 rfl rfl rfl ?_
  with_reducible repeat refine xc_seq ?_
  with_reducible refine xc_region ?_
  refine xo_alloc T_ rfl rfl rfl rfl (fun b6 => ?_)
  refine xo_asg rfl rfl rfl ?_
  with_reducible refine xo_nil ?_
  with_reducible repeat (first | refine xq_then ?_ | refine xq_blockN ?_ | refine xq_scopeN ?_)
  with_reducible repeat refine xc_seq ?_
  with_reducible refine xc_region ?_
  refine xo_mv rfl rfl rfl ?_
  refine xo_len T_ rfl rfl rfl rfl ?_
  refine xo_mv rfl rfl rfl ?_
  with_reducible refine xo_nil ?_
  with_reducible repeat (first | refine xq_then ?_ | refine xq_blockN ?_ | refine xq_scopeN ?_)
  with_reducible repeat refine xc_seq ?_
  with_reducible refine xc_block ?_
  refine xc_loop (γ := Nat × (LetT × Bool)) (fun q => q.1 ≤ l.length ∧ latF so when_ (zLet, false) l = latF so when_ q.2 (l.drop q.1)) (fun q => [(0, .slice A l.length c), (1, .func (.func g1) #[] cs1.toArray), (2, .func (.func g2) #[] cs2.toArray), (6, .pointer (some ⟨b6, 0, none⟩)), (7, .bool q.2.2), (10, .slice A l.length c), (11, .int .i64 (l.length : Int)), (12, .int .i64 (q.1 : Int))])
    (fun q => [(b6, true, cel (letV q.2.1) 65)]) (fun q => l.length - q.1) (0, (zLet, false)) ⟨Nat.zero_le _, rfl⟩ ⟨rfl, rfl, rfl, rfl, rfl, rfl, rfl, rfl, trivial⟩ (by repeat (first | exact List.Sublist.refl _ | apply List.Sublist.cons₂ | apply List.Sublist.cons | exact List.nil_sublist _)) ?_
  rintro ⟨k, last, is⟩ ⟨hk1, hlat⟩
  simp only at hk1 hlat ⊢
  with_reducible repeat refine xc_seq ?_
  with_reducible refine xc_region ?_
  refine xo_lss rfl rfl rfl rfl ?_
  with_reducible refine xo_nil ?_
  with_reducible repeat (first | refine xq_then ?_ | refine xq_blockN ?_ | refine xq_scopeN ?_)
  with_reducible repeat refine xc_seq ?_
  refine xc_cond rfl (fun h => ?_) (fun h => ?_)
  · have hlt : k < l.length := by have := of_decide_eq_true h; omega
    obtain ⟨ad, rfl, r1⟩ := let_at hl k hlt
    rw [drop_at l zLet k hlt] at hlat
    generalize l.getD k zLet = x at *
    with_reducible refine xc_skip ?_
    with_reducible repeat (first | refine xq_then ?_ | refine xq_blockN ?_ | refine xq_scopeN ?_)
    with_reducible repeat refine xc_seq ?_
    with_reducible refine xc_block ?_
    with_reducible repeat refine xc_seq ?_
    with_reducible refine xc_region ?_
    refine xo_ia T_ rfl rfl rfl rfl rfl ⟨by omega, by omega⟩ rfl ?_
    refine xo_loadRN T_ rfl rfl rfl (by assumption) rfl rfl ?_
    refine xo_alloc T_ rfl rfl rfl rfl (fun b9 => ?_)
    refine xo_store T_ rfl rfl rfl rfl (by repeat (first | exact List.Mem.head _ | apply List.Mem.tail | apply List.mem_append_right)) rfl rfl rfl rfl (by repeat (first | exact Upd.head | apply Upd.tail | apply Upd.app)) rfl ?_
    with_reducible refine xo_nil ?_
    with_reducible repeat (first | refine xq_then ?_ | refine xq_blockN ?_ | refine xq_scopeN ?_)
    have h1x := h1 x
    have h2x := h2 x
    have h2y := h2 last
    have fin : ∀ s : LetT × Bool, latStep so when_ (last, is) x = s → latF so when_ (zLet, false) l = latF so when_ s (l.drop (k + 1)) := fun s hs => by rw [hlat, ← hs]; rfl
    cases hs : so x
    · simp only [hs] at h1x
      with_reducible repeat refine xc_seq ?_
      refine xc_draw [.func (.func g1) #[] cs1.toArray, .agg (letV x).toArray, .bool false, .bool false, undef, undef, undef, undef, undef, undef, undef, undef, undef, undef, undef, .bool false] T_.mixed rfl rfl rfl rfl rfl ⟨fun τ => ?_, fun τ => ?_, fun τ => ?_, fun τ => ?_, fun τ => ?_, fun τ => ?_, fun τ => ?_, fun τ => ?_, fun τ => ?_, fun τ => ?_, fun τ => ?_, fun τ => ?_, fun τ => ?_, fun τ => ?_, fun τ => ?_, fun τ => ?_, trivial⟩ ?_
      · refine xo_mv rfl rfl rfl ?_
        exact xo_nil fun a w ha hw => ⟨ha, hw⟩
      · refine xo_loadN T_ rfl rfl rfl (by repeat (first | exact List.Mem.head _ | apply List.Mem.tail | apply List.mem_append_right)) rfl rfl ?_
        exact xo_nil fun a w ha hw => ⟨ha, hw⟩
      · refine xo_callB (fs := []) rfl rfl rfl eg1 rfl (fun w1 hw1 => h1x w1 hw1.kx.below) ?_
        exact xo_nil fun a w ha hw => ⟨ha, hw⟩
      · refine xo_mv rfl rfl rfl ?_
        exact xo_nil fun a w ha hw => ⟨ha, hw⟩
      · first
          | refine xo_not rfl rfl ?_
          | (refine xo_mv rfl rfl rfl ?_)
        exact xo_nil fun a w ha hw => ⟨ha, hw⟩
      · first
          | refine xo_not rfl rfl ?_
          | (refine xo_notOp rfl rfl rfl ?_)
        exact xo_nil fun a w ha hw => ⟨ha, hw⟩
      · first
          | refine xo_not rfl rfl ?_
          | (refine xo_mv rfl rfl rfl ?_)
        exact xo_nil fun a w ha hw => ⟨ha, hw⟩
      · first
          | refine xo_not rfl rfl ?_
          | (refine xo_mv rfl rfl rfl ?_)
        exact xo_nil fun a w ha hw => ⟨ha, hw⟩
      · first
          | refine xo_not rfl rfl ?_
          | (refine xo_loadN T_ rfl rfl rfl (by repeat (first | exact List.Mem.head _ | apply List.Mem.tail | apply List.mem_append_right)) rfl rfl ?_)
        exact xo_nil fun a w ha hw => ⟨ha, hw⟩
      · first
          | refine xo_not rfl rfl ?_
          | (fail "NO RULE: Op.call -9")
        exact xo_nil fun a w ha hw => ⟨ha, hw⟩
      · first
          | refine xo_not rfl rfl ?_
          | (refine xo_mv rfl rfl rfl ?_)
        exact xo_nil fun a w ha hw => ⟨ha, hw⟩
      · first
          | refine xo_not rfl rfl ?_
          | (refine xo_loadN T_ rfl rfl rfl (by repeat (first | exact List.Mem.head _ | apply List.Mem.tail | apply List.mem_append_right)) rfl rfl ?_)
        exact xo_nil fun a w ha hw => ⟨ha, hw⟩
      · first
          | refine xo_not rfl rfl ?_
          | (fail "NO RULE: Op.call -12")
        exact xo_nil fun a w ha hw => ⟨ha, hw⟩
      · first
          | refine xo_not rfl rfl ?_
          | (refine xo_geq rfl rfl rfl rfl ?_)
        exact xo_nil fun a w ha hw => ⟨ha, hw⟩
      · first
          | refine xo_not rfl rfl ?_
          | (first | refine xo_pickT rfl rfl rfl rfl ?_ | refine xo_pickF rfl rfl rfl rfl ?_)
        exact xo_nil fun a w ha hw => ⟨ha, hw⟩
      · first | refine xo_pickT rfl rfl rfl rfl ?_ | refine xo_pickF rfl rfl rfl rfl ?_
        exact xo_nil fun a w ha hw => ⟨ha, hw⟩
      with_reducible repeat (first | refine xq_then ?_ | refine xq_blockN ?_ | refine xq_scopeN ?_)
      with_reducible repeat refine xc_seq ?_
      refine xc_condF rfl ?_
      with_reducible refine xc_skip ?_
      with_reducible repeat (first | refine xq_then ?_ | refine xq_blockN ?_ | refine xq_scopeN ?_)
      with_reducible repeat refine xc_seq ?_
      with_reducible refine xc_region ?_
      refine xo_add rfl rfl rfl (by omega) rfl ?_
      refine xo_mv rfl rfl rfl ?_
      with_reducible refine xo_nil ?_
      with_reducible repeat (first | refine xq_then ?_ | refine xq_blockN ?_ | refine xq_scopeN ?_)
      exact xq_again _ _ _ _ _ (k + 1, last, is) ⟨hlt, fin _ (by simp [latStep, hs])⟩ (by first | omega | (simp only; omega)) ⟨rfl, rfl, rfl, rfl, rfl, rfl, rfl, rfl, trivial⟩ (by repeat (first | exact List.Sublist.refl _ | apply List.Sublist.cons₂ | apply List.Sublist.cons | exact List.nil_sublist _))
    · simp only [hs] at h1x
      cases hi : is
      · with_reducible repeat refine xc_seq ?_
        refine xc_draw [.func (.func g1) #[] cs1.toArray, .agg (letV x).toArray, .bool true, .bool true, .bool false, .bool true, .bool true, undef, undef, undef, undef, undef, undef, undef, .bool true, .bool true] T_.mixed rfl rfl rfl rfl rfl ⟨fun τ => ?_, fun τ => ?_, fun τ => ?_, fun τ => ?_, fun τ => ?_, fun τ => ?_, fun τ => ?_, fun τ => ?_, fun τ => ?_, fun τ => ?_, fun τ => ?_, fun τ => ?_, fun τ => ?_, fun τ => ?_, fun τ => ?_, fun τ => ?_, trivial⟩ ?_
        · refine xo_mv rfl rfl rfl ?_
          exact xo_nil fun a w ha hw => ⟨ha, hw⟩
        · refine xo_loadN T_ rfl rfl rfl (by repeat (first | exact List.Mem.head _ | apply List.Mem.tail | apply List.mem_append_right)) rfl rfl ?_
          exact xo_nil fun a w ha hw => ⟨ha, hw⟩
        · refine xo_callB (fs := []) rfl rfl rfl eg1 rfl (fun w1 hw1 => h1x w1 hw1.kx.below) ?_
          exact xo_nil fun a w ha hw => ⟨ha, hw⟩
        · refine xo_mv rfl rfl rfl ?_
          exact xo_nil fun a w ha hw => ⟨ha, hw⟩
        · first
            | refine xo_not rfl rfl ?_
            | (refine xo_mv rfl rfl rfl ?_)
          exact xo_nil fun a w ha hw => ⟨ha, hw⟩
        · first
            | refine xo_not rfl rfl ?_
            | (refine xo_notOp rfl rfl rfl ?_)
          exact xo_nil fun a w ha hw => ⟨ha, hw⟩
        · first
            | refine xo_not rfl rfl ?_
            | (refine xo_mv rfl rfl rfl ?_)
          exact xo_nil fun a w ha hw => ⟨ha, hw⟩
        · first
            | refine xo_not rfl rfl ?_
            | (refine xo_mv rfl rfl rfl ?_)
          exact xo_nil fun a w ha hw => ⟨ha, hw⟩
        · first
            | refine xo_not rfl rfl ?_
            | (refine xo_loadN T_ rfl rfl rfl (by repeat (first | exact List.Mem.head _ | apply List.Mem.tail | apply List.mem_append_right)) rfl rfl ?_)
          exact xo_nil fun a w ha hw => ⟨ha, hw⟩
        · first
            | refine xo_not rfl rfl ?_
            | (fail "NO RULE: Op.call -9")
          exact xo_nil fun a w ha hw => ⟨ha, hw⟩
        · first
            | refine xo_not rfl rfl ?_
            | (refine xo_mv rfl rfl rfl ?_)
          exact xo_nil fun a w ha hw => ⟨ha, hw⟩
        · first
            | refine xo_not rfl rfl ?_
            | (refine xo_loadN T_ rfl rfl rfl (by repeat (first | exact List.Mem.head _ | apply List.Mem.tail | apply List.mem_append_right)) rfl rfl ?_)
          exact xo_nil fun a w ha hw => ⟨ha, hw⟩
        · first
            | refine xo_not rfl rfl ?_
            | (fail "NO RULE: Op.call -12")
          exact xo_nil fun a w ha hw => ⟨ha, hw⟩
        · first
            | refine xo_not rfl rfl ?_
            | (refine xo_geq rfl rfl rfl rfl ?_)
          exact xo_nil fun a w ha hw => ⟨ha, hw⟩
        · first
            | refine xo_not rfl rfl ?_
            | (first | refine xo_pickT rfl rfl rfl rfl ?_ | refine xo_pickF rfl rfl rfl rfl ?_)
          exact xo_nil fun a w ha hw => ⟨ha, hw⟩
        · first | refine xo_pickT rfl rfl rfl rfl ?_ | refine xo_pickF rfl rfl rfl rfl ?_
          exact xo_nil fun a w ha hw => ⟨ha, hw⟩
        with_reducible repeat (first | refine xq_then ?_ | refine xq_blockN ?_ | refine xq_scopeN ?_)
        with_reducible repeat refine xc_seq ?_
        refine xc_condT rfl ?_
        with_reducible repeat refine xc_seq ?_
        with_reducible refine xc_region ?_
        refine xo_loadN T_ rfl rfl rfl (by repeat (first | exact List.Mem.head _ | apply List.Mem.tail | apply List.mem_append_right)) rfl rfl ?_
        refine xo_store T_ rfl rfl rfl rfl (by repeat (first | exact List.Mem.head _ | apply List.Mem.tail | apply List.mem_append_right)) rfl rfl rfl rfl (by repeat (first | exact Upd.head | apply Upd.tail | apply Upd.app)) rfl ?_
        refine xo_asg rfl rfl rfl ?_
        with_reducible refine xo_nil ?_
        with_reducible repeat (first | refine xq_then ?_ | refine xq_blockN ?_ | refine xq_scopeN ?_)
        with_reducible repeat refine xc_seq ?_
        with_reducible refine xc_region ?_
        refine xo_add rfl rfl rfl (by omega) rfl ?_
        refine xo_mv rfl rfl rfl ?_
        with_reducible refine xo_nil ?_
        with_reducible repeat (first | refine xq_then ?_ | refine xq_blockN ?_ | refine xq_scopeN ?_)
        exact xq_again _ _ _ _ _ (k + 1, x, true) ⟨hlt, fin _ (by simp [latStep, hs, hi])⟩ (by first | omega | (simp only; omega)) ⟨rfl, rfl, rfl, rfl, rfl, rfl, rfl, rfl, trivial⟩ (by repeat (first | exact List.Sublist.refl _ | apply List.Sublist.cons₂ | apply List.Sublist.cons | exact List.nil_sublist _))
      · with_reducible repeat refine xc_seq ?_
        refine xc_draw [.func (.func g1) #[] cs1.toArray, .agg (letV x).toArray, .bool true, .bool true, .bool true, .bool false, .bool false, .func (.func g2) #[] cs2.toArray, .agg (letV x).toArray, .int .i64 (when_ x), .func (.func g2) #[] cs2.toArray, .agg (letV last).toArray, .int .i64 (when_ last), .bool (decide (when_ last ≤ when_ x)), .bool (decide (when_ last ≤ when_ x)), .bool (decide (when_ last ≤ when_ x))] T_.mixed rfl rfl rfl rfl rfl ⟨fun τ => ?_, fun τ => ?_, fun τ => ?_, fun τ => ?_, fun τ => ?_, fun τ => ?_, fun τ => ?_, fun τ => ?_, fun τ => ?_, fun τ => ?_, fun τ => ?_, fun τ => ?_, fun τ => ?_, fun τ => ?_, fun τ => ?_, fun τ => ?_, trivial⟩ ?_
        · refine xo_mv rfl rfl rfl ?_
          exact xo_nil fun a w ha hw => ⟨ha, hw⟩
        · refine xo_loadN T_ rfl rfl rfl (by repeat (first | exact List.Mem.head _ | apply List.Mem.tail | apply List.mem_append_right)) rfl rfl ?_
          exact xo_nil fun a w ha hw => ⟨ha, hw⟩
        · refine xo_callB (fs := []) rfl rfl rfl eg1 rfl (fun w1 hw1 => h1x w1 hw1.kx.below) ?_
          exact xo_nil fun a w ha hw => ⟨ha, hw⟩
        · refine xo_mv rfl rfl rfl ?_
          exact xo_nil fun a w ha hw => ⟨ha, hw⟩
        · first
            | refine xo_not rfl rfl ?_
            | (refine xo_mv rfl rfl rfl ?_)
          exact xo_nil fun a w ha hw => ⟨ha, hw⟩
        · first
            | refine xo_not rfl rfl ?_
            | (refine xo_notOp rfl rfl rfl ?_)
          exact xo_nil fun a w ha hw => ⟨ha, hw⟩
        · first
            | refine xo_not rfl rfl ?_
            | (refine xo_mv rfl rfl rfl ?_)
          exact xo_nil fun a w ha hw => ⟨ha, hw⟩
        · first
            | refine xo_not rfl rfl ?_
            | (refine xo_mv rfl rfl rfl ?_)
          exact xo_nil fun a w ha hw => ⟨ha, hw⟩
        · first
            | refine xo_not rfl rfl ?_
            | (refine xo_loadN T_ rfl rfl rfl (by repeat (first | exact List.Mem.head _ | apply List.Mem.tail | apply List.mem_append_right)) rfl rfl ?_)
          exact xo_nil fun a w ha hw => ⟨ha, hw⟩
        · first
            | refine xo_not rfl rfl ?_
            | (refine xo_callB (fs := []) rfl rfl rfl eg2 rfl (fun w1 hw1 => h2x w1 hw1.kx.below) ?_)
          exact xo_nil fun a w ha hw => ⟨ha, hw⟩
        · first
            | refine xo_not rfl rfl ?_
            | (refine xo_mv rfl rfl rfl ?_)
          exact xo_nil fun a w ha hw => ⟨ha, hw⟩
        · first
            | refine xo_not rfl rfl ?_
            | (refine xo_loadN T_ rfl rfl rfl (by repeat (first | exact List.Mem.head _ | apply List.Mem.tail | apply List.mem_append_right)) rfl rfl ?_)
          exact xo_nil fun a w ha hw => ⟨ha, hw⟩
        · first
            | refine xo_not rfl rfl ?_
            | (refine xo_callB (fs := []) rfl rfl rfl eg2 rfl (fun w1 hw1 => h2y w1 hw1.kx.below) ?_)
          exact xo_nil fun a w ha hw => ⟨ha, hw⟩
        · first
            | refine xo_not rfl rfl ?_
            | (refine xo_geq rfl rfl rfl rfl ?_)
          exact xo_nil fun a w ha hw => ⟨ha, hw⟩
        · first
            | refine xo_not rfl rfl ?_
            | (first | refine xo_pickT rfl rfl rfl rfl ?_ | refine xo_pickF rfl rfl rfl rfl ?_)
          exact xo_nil fun a w ha hw => ⟨ha, hw⟩
        · first | refine xo_pickT rfl rfl rfl rfl ?_ | refine xo_pickF rfl rfl rfl rfl ?_
          exact xo_nil fun a w ha hw => ⟨ha, hw⟩
        with_reducible repeat (first | refine xq_then ?_ | refine xq_blockN ?_ | refine xq_scopeN ?_)
        with_reducible repeat refine xc_seq ?_
        refine xc_cond rfl (fun hd => ?_) (fun hd => ?_)
        · with_reducible repeat refine xc_seq ?_
          with_reducible refine xc_region ?_
          refine xo_loadN T_ rfl rfl rfl (by repeat (first | exact List.Mem.head _ | apply List.Mem.tail | apply List.mem_append_right)) rfl rfl ?_
          refine xo_store T_ rfl rfl rfl rfl (by repeat (first | exact List.Mem.head _ | apply List.Mem.tail | apply List.mem_append_right)) rfl rfl rfl rfl (by repeat (first | exact Upd.head | apply Upd.tail | apply Upd.app)) rfl ?_
          refine xo_asg rfl rfl rfl ?_
          with_reducible refine xo_nil ?_
          with_reducible repeat (first | refine xq_then ?_ | refine xq_blockN ?_ | refine xq_scopeN ?_)
          with_reducible repeat refine xc_seq ?_
          with_reducible refine xc_region ?_
          refine xo_add rfl rfl rfl (by omega) rfl ?_
          refine xo_mv rfl rfl rfl ?_
          with_reducible refine xo_nil ?_
          with_reducible repeat (first | refine xq_then ?_ | refine xq_blockN ?_ | refine xq_scopeN ?_)
          exact xq_again _ _ _ _ _ (k + 1, x, true) ⟨hlt, fin _ (by simp [latStep, hs, hi, hd])⟩ (by first | omega | (simp only; omega)) ⟨rfl, rfl, rfl, rfl, rfl, rfl, rfl, rfl, trivial⟩ (by repeat (first | exact List.Sublist.refl _ | apply List.Sublist.cons₂ | apply List.Sublist.cons | exact List.nil_sublist _))
        · with_reducible refine xc_skip ?_
          with_reducible repeat (first | refine xq_then ?_ | refine xq_blockN ?_ | refine xq_scopeN ?_)
          with_reducible repeat refine xc_seq ?_
          with_reducible refine xc_region ?_
          refine xo_add rfl rfl rfl (by omega) rfl ?_
          refine xo_mv rfl rfl rfl ?_
          with_reducible refine xo_nil ?_
          with_reducible repeat (first | refine xq_then ?_ | refine xq_blockN ?_ | refine xq_scopeN ?_)
          exact xq_again _ _ _ _ _ (k + 1, last, true) ⟨hlt, fin _ (by simp [latStep, hs, hi, hd])⟩ (by first | omega | (simp only; omega)) ⟨rfl, rfl, rfl, rfl, rfl, rfl, rfl, rfl, trivial⟩ (by repeat (first | exact List.Sublist.refl _ | apply List.Sublist.cons₂ | apply List.Sublist.cons | exact List.nil_sublist _))
  · have hge : ¬ k < l.length := by have := of_decide_eq_false h; omega
    rw [List.drop_of_length_le (by omega)] at hlat
    with_reducible refine xc_exit ?_
    with_reducible repeat (first | refine xq_blockX ?_ | refine xq_thenE ?_ | refine xq_blockE rfl ?_ | refine xq_scopeE ?_)
    with_reducible repeat (first | refine xq_then ?_ | refine xq_blockN ?_ | refine xq_scopeN ?_)
    with_reducible repeat refine xc_seq ?_
    with_reducible refine xc_region ?_
    refine xo_loadN T_ rfl rfl rfl (by repeat (first | exact List.Mem.head _ | apply List.Mem.tail | apply List.mem_append_right)) rfl rfl ?_
    refine xo_mv rfl rfl rfl ?_
    refine xo_store T_ rfl rfl rfl rfl (by repeat (first | exact List.Mem.head _ | apply List.Mem.tail | apply List.mem_append_right)) rfl rfl rfl rfl (by repeat (first | exact Upd.head | apply Upd.tail | apply Upd.app)) rfl ?_
    refine xo_asg rfl rfl rfl ?_
    with_reducible refine xo_nil ?_
    with_reducible repeat (first | refine xq_then ?_ | refine xq_blockN ?_ | refine xq_scopeN ?_)
    with_reducible repeat refine xc_seq ?_
    with_reducible refine xc_ret ?_
    with_reducible repeat (first | refine xq_thenR ?_ | refine xq_blockR ?_ | refine xq_scopeR ?_)
    refine xq_retC1 T_ rfl rfl rfl rfl (by repeat (first | exact List.Mem.head _ | apply List.Mem.tail | apply List.mem_append_right)) rfl fun w' hw => ⟨?_, hw.kx.below⟩
    rw [hlat]
    rfl
end Go.Proofs.Ytcmepdamemnbkaa
namespace Go.Proofs.Ytcmepdamemnbkaa
open Go.RowKit Go.Proofs.YtcmepdamemnbkaaW.PrintWords
set_option linter.unusedVariables false
set_option linter.unusedSimpArgs false
theorem latest_enters : ∀ args w, (callFunc 60 args).run Try.prog w = .ok (.enter 60 args) w := enters_of Try.func60 (by kernel_rfl) rfl
theorem on1_calls (x : LetT) (y : RecT) (A2 : Option Addr) (c2 : Nat) (day : Int) (B C : Nat) (w : World) (hB : w.cell? ⟨B, 0, none⟩ = some (.int .i64 y.f0)) (hC : w.cell? ⟨C, 0, none⟩ = some (.int .i64 day)) :
    Calls Try.prog 59 #[.agg (letV x).toArray, .pointer (some ⟨B, 0, none⟩), .pointer (some ⟨C, 0, none⟩)] w fun e w' => e = .returned (.bool (decide (x.f2 = y.f0) && decide (x.f1 ≤ day))) ∧ Below w.heap.size w w' := by
  have r1 : RO w XNone ((⟨B, 0, none⟩ : Addr).add 0) [.int .i64 y.f0] := by rw [Addr.add_zero']; exact ro1 hB
  have r2 := ro1 hC
  refine x_calls (X := XNone) Try.func59 rfl rfl rfl ?_
  with_reducible repeat refine xc_seq ?_
  with_reducible refine xc_region ?_
  refine xo_box rfl rfl rfl rfl (fun b3 => ?_)
  refine xo_asg rfl rfl rfl ?_
  with_reducible refine xo_nil ?_
  with_reducible repeat (first | refine xq_then ?_ | refine xq_blockN ?_ | refine xq_scopeN ?_)
  cases h : decide (x.f2 = y.f0)
  all_goals
    with_reducible repeat refine xc_seq ?_
    with_reducible refine xc_region ?_
    refine xo_fa T_ rfl rfl rfl rfl rfl ?_
    refine xo_load0 T_ rfl rfl rfl (by repeat (first | exact List.Mem.head _ | apply List.Mem.tail | apply List.mem_append_right)) rfl rfl ?_
    refine xo_faR T_ rfl rfl rfl rfl rfl ?_
    refine xo_loadR0 T_ rfl rfl rfl (by assumption) rfl ?_
    refine xo_eql rfl rfl rfl rfl ?_
    refine xo_mv rfl rfl rfl ?_
    refine xo_as (i := 10) rfl (congrArg Value.bool h) ?_
    first
      | refine xo_not rfl rfl ?_
      | (refine xo_fa T_ rfl rfl rfl rfl rfl ?_)
    first
      | refine xo_not rfl rfl ?_
      | (refine xo_load0 T_ rfl rfl rfl (by repeat (first | exact List.Mem.head _ | apply List.Mem.tail | apply List.mem_append_right)) rfl rfl ?_)
    first
      | refine xo_not rfl rfl ?_
      | (refine xo_loadR0 T_ rfl rfl rfl (by assumption) rfl ?_)
    first
      | refine xo_not rfl rfl ?_
      | (refine xo_leq rfl rfl rfl rfl ?_)
    first | refine xo_pickT rfl rfl rfl rfl ?_ | refine xo_pickF rfl rfl rfl rfl ?_
    refine xo_asg rfl rfl rfl ?_
    with_reducible refine xo_nil ?_
    with_reducible repeat (first | refine xq_then ?_ | refine xq_blockN ?_ | refine xq_scopeN ?_)
    with_reducible repeat refine xc_seq ?_
    with_reducible refine xc_ret ?_
    with_reducible repeat (first | refine xq_thenR ?_ | refine xq_blockR ?_ | refine xq_scopeR ?_)
    exact xq_ret1 rfl rfl fun w' hw => ⟨rfl, hw.kx.below⟩
theorem on2_calls (x : LetT) (w : World) : Calls Try.prog 61 #[.agg (letV x).toArray] w fun e w' => e = .returned (.int .i64 x.f1) ∧ Below w.heap.size w w' := by
  refine x_calls (X := XNone) Try.func61 rfl rfl rfl ?_
  with_reducible repeat refine xc_seq ?_
  with_reducible refine xc_region ?_
  refine xo_box rfl rfl rfl rfl (fun b1 => ?_)
  refine xo_asg rfl rfl rfl ?_
  with_reducible refine xo_nil ?_
  with_reducible repeat (first | refine xq_then ?_ | refine xq_blockN ?_ | refine xq_scopeN ?_)
  with_reducible repeat refine xc_seq ?_
  with_reducible refine xc_region ?_
  refine xo_fa T_ rfl rfl rfl rfl rfl ?_
  refine xo_load0 T_ rfl rfl rfl (by repeat (first | exact List.Mem.head _ | apply List.Mem.tail | apply List.mem_append_right)) rfl rfl ?_
  refine xo_asg rfl rfl rfl ?_
  with_reducible refine xo_nil ?_
  with_reducible repeat (first | refine xq_then ?_ | refine xq_blockN ?_ | refine xq_scopeN ?_)
  with_reducible repeat refine xc_seq ?_
  with_reducible refine xc_ret ?_
  with_reducible repeat (first | refine xq_thenR ?_ | refine xq_blockR ?_ | refine xq_scopeR ?_)
  exact xq_ret1 rfl rfl fun w' hw => ⟨rfl, hw.kx.below⟩
def lastF (l : List LetT) (day id : Int) : LetT × Bool := latF (fun y => decide (y.f2 = id) && decide (y.f1 ≤ day)) (fun y => y.f1) (zLet, false) l
def goneB (l : List LetT) (day id : Int) : Bool := (lastF l day id).2 && decide ((lastF l day id).1.f3 = 1)
def goneL (l : List LetT) (day : Int) : List Int → List RecT → List Int
  | acc, [] => acc
  | acc, x :: r => goneL l day (if goneB l day x.f0 then insN x.f0 acc else acc) r
def goneF (r : List RecT) (l : List LetT) (day : Int) : List Int := goneL l day [] r
set_option maxHeartbeats 4000000 in
theorem on_calls (A B : Option Addr) (c c' : Nat) (r : List RecT) (l : List LetT) (day : Int) (w : World) (hr : Kd.C recK w A r.length r) (hl : Kd.C letK w B l.length l) :
    Calls Try.prog 45 #[.slice A r.length c, .slice B l.length c', .int .i64 day] w fun e w' => ∃ M, e = .returned (.agg #[.slice A r.length c, .map (some M)]) ∧ w.heap.size ≤ M ∧ IMap w' M (setV (goneF r l day)) ∧ Below w.heap.size w w' := by
  have hn := hr.2.1
  have eg1 : ∀ args w, (callFunc 59 args).run Try.prog w = .ok (.enter 59 args) w := enters_of Try.func59 (by kernel_rfl) rfl
  have eg2 : ∀ args w, (callFunc 61 args).run Try.prog w = .ok (.enter 61 args) w := enters_of Try.func61 (by kernel_rfl) rfl
  refine x_calls (X := XNone) Try.func45 rfl rfl rfl ?_
  with_reducible repeat refine xc_seq ?_
  with_reducible refine xc_region ?_
  refine xo_box rfl rfl rfl rfl (fun b5 => ?_)
  refine xo_alloc T_ rfl rfl rfl rfl (fun b6 => ?_)
  with_reducible refine xo_nil ?_
  with_reducible repeat (first | refine xq_then ?_ | refine xq_blockN ?_ | refine xq_scopeN ?_)
  with_reducible repeat refine xc_seq ?_
  with_reducible refine xc_region ?_
  refine xo_mv rfl rfl rfl ?_
  refine xo_mkm rfl rfl (fun b14 => ?_)
  refine xo_build TB_ rfl rfl rfl rfl rfl ?_
  refine xo_alloc T_ rfl rfl rfl rfl (fun b7 => ?_)
  refine xo_store T_ rfl rfl rfl rfl (by repeat (first | exact List.Mem.head _ | apply List.Mem.tail | apply List.mem_append_right)) rfl rfl rfl rfl (by repeat (first | exact Upd.head | apply Upd.tail | apply Upd.app)) rfl ?_
  with_reducible refine xo_nil ?_
  with_reducible repeat (first | refine xq_then ?_ | refine xq_blockN ?_ | refine xq_scopeN ?_)
  with_reducible repeat refine xc_seq ?_
  with_reducible refine xc_region ?_
  refine xo_mv rfl rfl rfl ?_
  refine xo_len T_ rfl rfl rfl rfl ?_
  refine xo_mv rfl rfl rfl ?_
  with_reducible refine xo_nil ?_
  with_reducible repeat (first | refine xq_then ?_ | refine xq_blockN ?_ | refine xq_scopeN ?_)
  with_reducible repeat refine xc_seq ?_
  with_reducible refine xc_block ?_
  refine xc_loop (γ := Nat × List Int) (fun q => q.1 ≤ r.length ∧ goneF r l day = goneL l day q.2 (r.drop q.1)) (fun q => [(0, .slice A r.length c), (1, .slice B l.length c'), (5, .pointer (some ⟨b5, 0, none⟩)), (6, .pointer (some ⟨b6, 0, none⟩)), (7, .pointer (some ⟨b7, 0, none⟩)), (16, .slice A r.length c), (17, .int .i64 (r.length : Int)), (18, .int .i64 (q.1 : Int))])
    (fun q => [(b7, true, cel [.slice A r.length c, .map (some b14)] 46), (b14, true, hmap (setV q.2)), (b6, true, cel [.slice none 0 0, .map none] 46), (b5, true, cel [.int .i64 day] 3)]) (fun q => r.length - q.1) (0, []) ⟨Nat.zero_le _, rfl⟩ ⟨rfl, rfl, rfl, rfl, rfl, rfl, rfl, rfl, trivial⟩ (by repeat (first | exact List.Sublist.refl _ | apply List.Sublist.cons₂ | apply List.Sublist.cons | exact List.nil_sublist _)) ?_
  rintro ⟨k, acc⟩ ⟨hk1, hgone⟩
  simp only at hk1 hgone ⊢
  with_reducible repeat refine xc_seq ?_
  with_reducible refine xc_region ?_
  refine xo_lss rfl rfl rfl rfl ?_
  with_reducible refine xo_nil ?_
  with_reducible repeat (first | refine xq_then ?_ | refine xq_blockN ?_ | refine xq_scopeN ?_)
  with_reducible repeat refine xc_seq ?_
  refine xc_cond rfl (fun h => ?_) (fun h => ?_)
  · have hlt : k < r.length := by have := of_decide_eq_true h; omega
    obtain ⟨ad, A2, c2, rfl, r1, hc2, hw2⟩ := rec_at hr k hlt
    rw [drop_at r zRec k hlt, goneL] at hgone
    generalize r.getD k zRec = x at *
    with_reducible refine xc_skip ?_
    with_reducible repeat (first | refine xq_then ?_ | refine xq_blockN ?_ | refine xq_scopeN ?_)
    with_reducible repeat refine xc_seq ?_
    with_reducible refine xc_block ?_
    with_reducible repeat refine xc_seq ?_
    with_reducible refine xc_region ?_
    refine xo_ia T_ rfl rfl rfl rfl rfl ⟨by omega, by omega⟩ rfl ?_
    refine xo_loadRN T_ rfl rfl rfl (by assumption) rfl rfl ?_
    refine xo_alloc T_ rfl rfl rfl rfl (fun b9 => ?_)
    refine xo_store T_ rfl rfl rfl rfl (by repeat (first | exact List.Mem.head _ | apply List.Mem.tail | apply List.mem_append_right)) rfl rfl rfl rfl (by repeat (first | exact Upd.head | apply Upd.tail | apply Upd.app)) rfl ?_
    with_reducible refine xo_nil ?_
    with_reducible repeat (first | refine xq_then ?_ | refine xq_blockN ?_ | refine xq_scopeN ?_)
    with_reducible repeat refine xc_seq ?_
    with_reducible refine xc_region ?_
    refine xo_mkf rfl rfl rfl rfl ?_
    refine xo_asg rfl rfl rfl ?_
    with_reducible refine xo_nil ?_
    with_reducible repeat (first | refine xq_then ?_ | refine xq_blockN ?_ | refine xq_scopeN ?_)
    with_reducible repeat refine xc_seq ?_
    with_reducible refine xc_region ?_
    refine xo_mv rfl rfl rfl ?_
    refine xo_mv rfl rfl rfl ?_
    refine xo_callB (fs := []) (cs := []) rfl rfl rfl latest_enters rfl (fun w1 hw1 => latest_calls (fun y => decide (y.f2 = x.f0) && decide (y.f1 ≤ day)) (fun y => y.f1) _ _ [.pointer (some ⟨b9, 0, none⟩), .pointer (some ⟨b5, 0, none⟩)] [] eg1 eg2 B c' l w1 (Kd.C_below hl hw1.kx.below)
      (fun y W hW => on1_calls y x A2 c2 day b9 b5 W ((hw1.below hW).cell (by repeat (first | exact List.Mem.head _ | apply List.Mem.tail | apply List.mem_append_right)) 0 rfl) ((hw1.below hW).cell (by repeat (first | exact List.Mem.head _ | apply List.Mem.tail | apply List.mem_append_right)) 0 rfl)) (fun y W hW => on2_calls y W)) ?_
    refine xo_mv rfl rfl rfl ?_
    refine xo_ext rfl rfl rfl rfl ?_
    refine xo_ext rfl rfl rfl rfl ?_
    refine xo_alloc T_ rfl rfl rfl rfl (fun b11 => ?_)
    refine xo_store T_ rfl rfl rfl rfl (by repeat (first | exact List.Mem.head _ | apply List.Mem.tail | apply List.mem_append_right)) rfl rfl rfl rfl (by repeat (first | exact Upd.head | apply Upd.tail | apply Upd.app)) rfl ?_
    refine xo_asg rfl rfl rfl ?_
    with_reducible refine xo_nil ?_
    with_reducible repeat (first | refine xq_then ?_ | refine xq_blockN ?_ | refine xq_scopeN ?_)
    cases hs : (lastF l day x.f0).2 <;> cases h3 : decide ((lastF l day x.f0).1.f3 = 1)
    all_goals
      with_reducible repeat refine xc_seq ?_
      with_reducible refine xc_region ?_
      refine xo_as (i := 12) rfl (congrArg Value.bool hs) ?_
      refine xo_mv rfl rfl rfl ?_
      refine xo_mv rfl rfl rfl ?_
      first
        | refine xo_not rfl rfl ?_
        | (refine xo_fa T_ rfl rfl rfl rfl rfl ?_)
      first
        | refine xo_not rfl rfl ?_
        | (refine xo_load0 T_ rfl rfl rfl (by repeat (first | exact List.Mem.head _ | apply List.Mem.tail | apply List.mem_append_right)) rfl rfl ?_)
      first
        | refine xo_not rfl rfl ?_
        | (refine xo_eql rfl rfl rfl rfl ?_)
      first | refine xo_pickT rfl rfl rfl rfl ?_ | refine xo_pickF rfl rfl rfl rfl ?_
      first | refine xo_as (i := 34) rfl (congrArg Value.bool h3) ?_ | skip
      with_reducible refine xo_nil ?_
      with_reducible repeat (first | refine xq_then ?_ | refine xq_blockN ?_ | refine xq_scopeN ?_)
      with_reducible repeat refine xc_seq ?_
      first | refine xc_condT rfl ?_ | refine xc_condF rfl ?_
    iterate 3
      · with_reducible refine xc_skip ?_
        with_reducible repeat (first | refine xq_then ?_ | refine xq_blockN ?_ | refine xq_scopeN ?_)
        with_reducible repeat refine xc_seq ?_
        with_reducible refine xc_region ?_
        refine xo_add rfl rfl rfl (by omega) rfl ?_
        refine xo_mv rfl rfl rfl ?_
        with_reducible refine xo_nil ?_
        with_reducible repeat (first | refine xq_then ?_ | refine xq_blockN ?_ | refine xq_scopeN ?_)
        refine xq_again _ _ _ _ _ (k + 1, acc) ⟨hlt, ?_⟩ (by first | omega | (simp only; omega)) ⟨rfl, rfl, rfl, rfl, rfl, rfl, rfl, rfl, trivial⟩ (by repeat (first | exact List.Sublist.refl _ | apply List.Sublist.cons₂ | apply List.Sublist.cons | exact List.nil_sublist _))
        simpa only [goneB, hs, h3, Bool.and_self, Bool.false_and, Bool.and_false, Bool.false_eq_true, ↓reduceIte] using hgone
    with_reducible repeat refine xc_seq ?_
    with_reducible refine xc_region ?_
    refine xo_fa T_ rfl rfl rfl rfl rfl ?_
    refine xo_load0 T_ rfl rfl rfl (by repeat (first | exact List.Mem.head _ | apply List.Mem.tail | apply List.mem_append_right)) rfl rfl ?_
    refine xo_fa T_ rfl rfl rfl rfl rfl ?_
    refine xo_load0 T_ rfl rfl rfl (by repeat (first | exact List.Mem.head _ | apply List.Mem.tail | apply List.mem_append_right)) rfl rfl ?_
    refine xo_sins T_ rfl rfl rfl rfl rfl rfl (by repeat (first | exact List.Mem.head _ | apply List.Mem.tail | apply List.mem_append_right)) (by repeat (first | exact Upd.head | apply Upd.tail | apply Upd.app)) rfl ?_
    with_reducible refine xo_nil ?_
    with_reducible repeat (first | refine xq_then ?_ | refine xq_blockN ?_ | refine xq_scopeN ?_)
    with_reducible repeat refine xc_seq ?_
    with_reducible refine xc_region ?_
    refine xo_add rfl rfl rfl (by omega) rfl ?_
    refine xo_mv rfl rfl rfl ?_
    with_reducible refine xo_nil ?_
    with_reducible repeat (first | refine xq_then ?_ | refine xq_blockN ?_ | refine xq_scopeN ?_)
    refine xq_again _ _ _ _ _ (k + 1, insN x.f0 acc) ⟨hlt, ?_⟩ (by first | omega | (simp only; omega)) ⟨rfl, rfl, rfl, rfl, rfl, rfl, rfl, rfl, trivial⟩ (by repeat (first | exact List.Sublist.refl _ | apply List.Sublist.cons₂ | apply List.Sublist.cons | exact List.nil_sublist _))
    simpa only [goneB, hs, h3, Bool.and_self, ↓reduceIte] using hgone
  · have hge : ¬ k < r.length := by have := of_decide_eq_false h; omega
    rw [List.drop_of_length_le (by omega)] at hgone
    with_reducible refine xc_exit ?_
    with_reducible repeat (first | refine xq_blockX ?_ | refine xq_thenE ?_ | refine xq_blockE rfl ?_ | refine xq_scopeE ?_)
    with_reducible repeat (first | refine xq_then ?_ | refine xq_blockN ?_ | refine xq_scopeN ?_)
    with_reducible repeat refine xc_seq ?_
    with_reducible refine xc_region ?_
    refine xo_loadN T_ rfl rfl rfl (by repeat (first | exact List.Mem.head _ | apply List.Mem.tail | apply List.mem_append_right)) rfl rfl ?_
    refine xo_store T_ rfl rfl rfl rfl (by repeat (first | exact List.Mem.head _ | apply List.Mem.tail | apply List.mem_append_right)) rfl rfl rfl rfl (by repeat (first | exact Upd.head | apply Upd.tail | apply Upd.app)) rfl ?_
    with_reducible refine xo_nil ?_
    with_reducible repeat (first | refine xq_then ?_ | refine xq_blockN ?_ | refine xq_scopeN ?_)
    with_reducible repeat refine xc_seq ?_
    with_reducible refine xc_ret ?_
    with_reducible repeat (first | refine xq_thenR ?_ | refine xq_blockR ?_ | refine xq_scopeR ?_)
    refine xq_retC T_ rfl rfl rfl (by repeat (first | exact List.Mem.head _ | apply List.Mem.tail | apply List.mem_append_right)) rfl fun w' hw => ⟨b14, rfl, ?_, ?_, hw.kx.below⟩
    · rcases hw.ow (b14, true, hmap (setV acc)) (by repeat (first | exact List.Mem.head _ | apply List.Mem.tail | apply List.mem_append_right)) rfl with h1 | h1
      · exact h1
      · exact h1.elim
    · rw [hgone]
      exact hw.imap (wr := true) (by repeat (first | exact List.Mem.head _ | apply List.Mem.tail | apply List.mem_append_right))
theorem WOK.startM (X : Nat → Prop) {w : World} {M : Nat} {l : List (Int × Value)} (h : IMap w M l) : WOK w X [(M, false, hmap l)] w := by
  refine ⟨Kx.refl X w, ?_, by simp, ?_⟩
  · intro e he
    simp only [List.mem_singleton] at he
    subst he
    obtain ⟨o, h1, h2⟩ := hmap_of h
    exact ⟨o, h1, h2⟩
  · intro e he hw
    simp only [List.mem_singleton] at he
    subst he
    cases hw
def allIn (bs : List Int) (w : List Int) : Bool := w.all fun n => decide (n ∈ bs)
theorem allIn_cons (bs : List Int) (n : Int) (w : List Int) : allIn bs (n :: w) = (decide (n ∈ bs) && allIn bs w) := rfl
def standsF (bs : List Int) (ways : List (List Int)) : Bool := decide (ways.length = 0) || ways.any (allIn bs)
set_option maxHeartbeats 4000000 in
theorem stands_calls (id kd : Int) (A : Option Addr) (c M : Nat) (ways : List (List Int)) (bs : List Int) (w : World) (hr : Kd.C waysK w A ways.length ways) (hM : IMap w M (setV bs)) :
    Calls Try.prog 48 #[.agg #[.int .i64 id, .int .u8 kd, .slice A ways.length c, .map (some M)]] w fun e w' => e = .returned (.bool (standsF bs ways)) ∧ Below w.heap.size w w' := by
  have hn := hr.2.1
  refine x_callsH (X := XNone) Try.func48 rfl rfl rfl (WOK.startM XNone hM) ?_
  with_reducible repeat refine xc_seq ?_
  with_reducible refine xc_region ?_
  refine xo_box rfl rfl rfl rfl (fun b1 => ?_)
  refine xo_asg rfl rfl rfl ?_
  with_reducible refine xo_nil ?_
  with_reducible repeat (first | refine xq_then ?_ | refine xq_blockN ?_ | refine xq_scopeN ?_)
  refine xc_scope ?_
  with_reducible repeat refine xc_seq ?_
  with_reducible refine xc_region ?_
  refine xo_fa T_ rfl rfl rfl rfl rfl ?_
  refine xo_fa T_ rfl rfl rfl rfl rfl ?_
  refine xo_load0 T_ rfl rfl rfl (by repeat (first | exact List.Mem.head _ | apply List.Mem.tail | apply List.mem_append_right)) rfl rfl ?_
  refine xo_len T_ rfl rfl rfl rfl ?_
  refine xo_eql rfl rfl rfl rfl ?_
  with_reducible refine xo_nil ?_
  with_reducible repeat (first | refine xq_then ?_ | refine xq_blockN ?_ | refine xq_scopeN ?_)
  with_reducible repeat refine xc_seq ?_
  refine xc_cond rfl (fun h => ?_) (fun h => ?_)
  · with_reducible repeat refine xc_seq ?_
    with_reducible refine xc_region ?_
    refine xo_asg rfl rfl rfl ?_
    with_reducible refine xo_nil ?_
    with_reducible repeat (first | refine xq_then ?_ | refine xq_blockN ?_ | refine xq_scopeN ?_)
    with_reducible repeat refine xc_seq ?_
    with_reducible refine xc_ret ?_
    with_reducible repeat (first | refine xq_thenR ?_ | refine xq_blockR ?_ | refine xq_scopeR ?_)
    refine xq_ret1 rfl rfl fun w' hw => ⟨?_, hw.kx.below⟩
    rw [standsF, show decide (ways.length = 0) = true from decide_eq_true (by have := of_decide_eq_true h; omega)]
    rfl
  have hd : decide (ways.length = 0) = false := decide_eq_false (by have := of_decide_eq_false h; omega)
  with_reducible refine xc_skip ?_
  with_reducible repeat (first | refine xq_then ?_ | refine xq_blockN ?_ | refine xq_scopeN ?_)
  with_reducible repeat refine xc_seq ?_
  refine xc_label ?_
  with_reducible repeat (first | refine xq_then ?_ | refine xq_blockN ?_ | refine xq_scopeN ?_)
  with_reducible repeat refine xc_seq ?_
  with_reducible refine xc_region ?_
  refine xo_fa T_ rfl rfl rfl rfl rfl ?_
  refine xo_fa T_ rfl rfl rfl rfl rfl ?_
  refine xo_load0 T_ rfl rfl rfl (by repeat (first | exact List.Mem.head _ | apply List.Mem.tail | apply List.mem_append_right)) rfl rfl ?_
  refine xo_len T_ rfl rfl rfl rfl ?_
  refine xo_mv rfl rfl rfl ?_
  with_reducible refine xo_nil ?_
  with_reducible repeat (first | refine xq_then ?_ | refine xq_blockN ?_ | refine xq_scopeN ?_)
  with_reducible repeat refine xc_seq ?_
  with_reducible refine xc_block ?_
  refine xc_loop (γ := Nat) (fun j => j ≤ ways.length ∧ ways.any (allIn bs) = (ways.drop j).any (allIn bs)) (fun j => [(1, .pointer (some ⟨b1, 0, none⟩)), (14, .slice A ways.length c), (15, .int .i64 (ways.length : Int)), (16, .int .i64 (j : Int))])
    (fun _ => [(b1, true, cel [.int .i64 id, .int .u8 kd, .slice A ways.length c, .map (some M)] 77), (M, false, hmap (setV bs))]) (fun j => ways.length - j) 0 ⟨Nat.zero_le _, rfl⟩ ⟨rfl, rfl, rfl, rfl, trivial⟩ (by repeat (first | exact List.Sublist.refl _ | apply List.Sublist.cons₂ | apply List.Sublist.cons | exact List.nil_sublist _)) ?_
  rintro j ⟨hj, hany⟩
  with_reducible repeat refine xc_seq ?_
  with_reducible refine xc_region ?_
  refine xo_lss rfl rfl rfl rfl ?_
  with_reducible refine xo_nil ?_
  with_reducible repeat (first | refine xq_then ?_ | refine xq_blockN ?_ | refine xq_scopeN ?_)
  with_reducible repeat refine xc_seq ?_
  refine xc_cond rfl (fun hj2 => ?_) (fun hj2 => ?_)
  · have hjl : j < ways.length := by have := of_decide_eq_true hj2; omega
    obtain ⟨ad, A3, c3, rfl, r2, hc3, hw3⟩ := way_at hr j hjl
    rw [drop_at ways [] j hjl, List.any_cons] at hany
    generalize ways.getD j [] = way at *
    have hm3 := hw3.2.1
    with_reducible refine xc_skip ?_
    with_reducible repeat (first | refine xq_then ?_ | refine xq_blockN ?_ | refine xq_scopeN ?_)
    with_reducible repeat refine xc_seq ?_
    with_reducible refine xc_block ?_
    with_reducible repeat refine xc_seq ?_
    with_reducible refine xc_region ?_
    refine xo_ia T_ rfl rfl rfl rfl rfl ⟨by omega, by omega⟩ rfl ?_
    refine xo_loadR0 T_ rfl rfl rfl (by assumption) rfl ?_
    refine xo_asg rfl rfl rfl ?_
    with_reducible refine xo_nil ?_
    with_reducible repeat (first | refine xq_then ?_ | refine xq_blockN ?_ | refine xq_scopeN ?_)
    with_reducible repeat refine xc_seq ?_
    with_reducible refine xc_region ?_
    refine xo_mv rfl rfl rfl ?_
    refine xo_len T_ rfl rfl rfl rfl ?_
    refine xo_mv rfl rfl rfl ?_
    with_reducible refine xo_nil ?_
    with_reducible repeat (first | refine xq_then ?_ | refine xq_blockN ?_ | refine xq_scopeN ?_)
    with_reducible repeat refine xc_seq ?_
    with_reducible refine xc_block ?_
    refine xc_loop (γ := Nat) (fun i => i ≤ way.length ∧ allIn bs way = allIn bs (way.drop i)) (fun i => [(1, .pointer (some ⟨b1, 0, none⟩)), (14, .slice (some ad) ways.length c), (15, .int .i64 (ways.length : Int)), (16, .int .i64 (j : Int)), (20, .slice A3 way.length c3), (21, .int .i64 (way.length : Int)), (22, .int .i64 (i : Int))])
      (fun _ => [(b1, true, cel [.int .i64 id, .int .u8 kd, .slice (some ad) ways.length c, .map (some M)] 77), (M, false, hmap (setV bs))]) (fun i => way.length - i) 0 ⟨Nat.zero_le _, rfl⟩ ⟨rfl, rfl, rfl, rfl, rfl, rfl, rfl, trivial⟩ (by repeat (first | exact List.Sublist.refl _ | apply List.Sublist.cons₂ | apply List.Sublist.cons | exact List.nil_sublist _)) ?_
    rintro i ⟨hi, hall⟩
    with_reducible repeat refine xc_seq ?_
    with_reducible refine xc_region ?_
    refine xo_lss rfl rfl rfl rfl ?_
    with_reducible refine xo_nil ?_
    with_reducible repeat (first | refine xq_then ?_ | refine xq_blockN ?_ | refine xq_scopeN ?_)
    with_reducible repeat refine xc_seq ?_
    refine xc_cond rfl (fun hi2 => ?_) (fun hi2 => ?_)
    · have hil : i < way.length := by have := of_decide_eq_true hi2; omega
      obtain ⟨ad3, rfl, r3⟩ := int_at hw3 i hil
      rw [drop_at way 0 i hil, allIn_cons] at hall
      generalize way.getD i 0 = y at *
      with_reducible refine xc_skip ?_
      with_reducible repeat (first | refine xq_then ?_ | refine xq_blockN ?_ | refine xq_scopeN ?_)
      with_reducible repeat refine xc_seq ?_
      with_reducible refine xc_block ?_
      with_reducible repeat refine xc_seq ?_
      with_reducible refine xc_region ?_
      refine xo_ia T_ rfl rfl rfl rfl rfl ⟨by omega, by omega⟩ rfl ?_
      refine xo_loadR0 T_ rfl rfl rfl (by assumption) rfl ?_
      refine xo_asg rfl rfl rfl ?_
      with_reducible refine xo_nil ?_
      with_reducible repeat (first | refine xq_then ?_ | refine xq_blockN ?_ | refine xq_scopeN ?_)
      with_reducible repeat refine xc_seq ?_
      with_reducible refine xc_region ?_
      refine xo_fa T_ rfl rfl rfl rfl rfl ?_
      refine xo_load0 T_ rfl rfl rfl (by repeat (first | exact List.Mem.head _ | apply List.Mem.tail | apply List.mem_append_right)) rfl rfl ?_
      refine xo_mv rfl rfl rfl ?_
      refine xo_sget T_ rfl rfl rfl rfl rfl rfl (by repeat (first | exact List.Mem.head _ | apply List.Mem.tail | apply List.mem_append_right)) rfl ?_
      refine xo_notOp rfl rfl rfl ?_
      with_reducible refine xo_nil ?_
      with_reducible repeat (first | refine xq_then ?_ | refine xq_blockN ?_ | refine xq_scopeN ?_)
      with_reducible repeat refine xc_seq ?_
      refine xc_cond rfl (fun h5 => ?_) (fun h5 => ?_)
      · with_reducible refine xc_exit ?_
        with_reducible repeat (first | refine xq_blockX ?_ | refine xq_thenE ?_ | refine xq_blockE rfl ?_ | refine xq_scopeE ?_)
        with_reducible repeat (first | refine xq_then ?_ | refine xq_blockN ?_ | refine xq_scopeN ?_)
        with_reducible repeat refine xc_seq ?_
        with_reducible refine xc_region ?_
        refine xo_add rfl rfl rfl (by omega) rfl ?_
        refine xo_mv rfl rfl rfl ?_
        with_reducible refine xo_nil ?_
        with_reducible repeat (first | refine xq_then ?_ | refine xq_blockN ?_ | refine xq_scopeN ?_)
        simp only [Bool.not_eq_true'] at h5
        refine xq_again _ _ _ _ _ (j + 1) ⟨hjl, ?_⟩ (by first | omega | (simp only; omega)) ⟨rfl, rfl, rfl, rfl, trivial⟩ (by repeat (first | exact List.Sublist.refl _ | apply List.Sublist.cons₂ | apply List.Sublist.cons | exact List.nil_sublist _))
        rw [hany, hall, h5, Bool.false_and, Bool.false_or]
      · with_reducible refine xc_skip ?_
        with_reducible repeat (first | refine xq_then ?_ | refine xq_blockN ?_ | refine xq_scopeN ?_)
        with_reducible repeat refine xc_seq ?_
        with_reducible refine xc_region ?_
        refine xo_add rfl rfl rfl (by omega) rfl ?_
        refine xo_mv rfl rfl rfl ?_
        with_reducible refine xo_nil ?_
        with_reducible repeat (first | refine xq_then ?_ | refine xq_blockN ?_ | refine xq_scopeN ?_)
        simp only [Bool.not_eq_false'] at h5
        refine xq_again _ _ _ _ _ (i + 1) ⟨hil, ?_⟩ (by first | omega | (simp only; omega)) ⟨rfl, rfl, rfl, rfl, rfl, rfl, rfl, trivial⟩ (by repeat (first | exact List.Sublist.refl _ | apply List.Sublist.cons₂ | apply List.Sublist.cons | exact List.nil_sublist _))
        rw [hall, h5, Bool.true_and]
    · have hige : ¬ i < way.length := by have := of_decide_eq_false hi2; omega
      rw [List.drop_of_length_le (by omega)] at hall
      with_reducible refine xc_exit ?_
      with_reducible repeat (first | refine xq_blockX ?_ | refine xq_thenE ?_ | refine xq_blockE rfl ?_ | refine xq_scopeE ?_)
      with_reducible repeat (first | refine xq_then ?_ | refine xq_blockN ?_ | refine xq_scopeN ?_)
      with_reducible repeat refine xc_seq ?_
      with_reducible refine xc_region ?_
      refine xo_asg rfl rfl rfl ?_
      with_reducible refine xo_nil ?_
      with_reducible repeat (first | refine xq_then ?_ | refine xq_blockN ?_ | refine xq_scopeN ?_)
      with_reducible repeat refine xc_seq ?_
      with_reducible refine xc_ret ?_
      with_reducible repeat (first | refine xq_thenR ?_ | refine xq_blockR ?_ | refine xq_scopeR ?_)
      refine xq_ret1 rfl rfl fun w' hw => ⟨?_, hw.kx.below⟩
      rw [standsF, hd, hany, hall]
      rfl
  · have hjge : ¬ j < ways.length := by have := of_decide_eq_false hj2; omega
    rw [List.drop_of_length_le (by omega)] at hany
    with_reducible refine xc_exit ?_
    with_reducible repeat (first | refine xq_blockX ?_ | refine xq_thenE ?_ | refine xq_blockE rfl ?_ | refine xq_scopeE ?_)
    with_reducible repeat (first | refine xq_then ?_ | refine xq_blockN ?_ | refine xq_scopeN ?_)
    with_reducible repeat refine xc_seq ?_
    with_reducible refine xc_region ?_
    refine xo_asg rfl rfl rfl ?_
    with_reducible refine xo_nil ?_
    with_reducible repeat (first | refine xq_then ?_ | refine xq_blockN ?_ | refine xq_scopeN ?_)
    with_reducible repeat refine xc_seq ?_
    with_reducible refine xc_ret ?_
    with_reducible repeat (first | refine xq_thenR ?_ | refine xq_blockR ?_ | refine xq_scopeR ?_)
    refine xq_ret1 rfl rfl fun w' hw => ⟨?_, hw.kx.below⟩
    rw [standsF, hd, hany]
    rfl
theorem stands_enters : ∀ args w, (callFunc 48 args).run Try.prog w = .ok (.enter 48 args) w := enters_of Try.func48 (by kernel_rfl) rfl
end Go.Proofs.Ytcmepdamemnbkaa
