/- ref08.ids, Holds, open. -/
import Derived.Test.YtcmepdamemnbkaaRHoldW
namespace Go.Proofs.Ytcmepdamemnbkaa
open Go.RowKit Go.Proofs.YtcmepdamemnbkaaW.PrintWords
set_option linter.unusedVariables false
set_option linter.unusedSimpArgs false
def idsF (r : List RecT) (p : Int → Bool) : List Int := (r.filter fun x => p x.f0).map (·.f0)
theorem idsF_len (r : List RecT) (p : Int → Bool) : (idsF r p).length ≤ r.length := by
  rw [idsF, List.length_map]
  exact List.length_filter_le _ _
theorem idsF_take (r : List RecT) (p : Int → Bool) (k : Nat) (hk : k < r.length) : idsF (r.take (k + 1)) p = idsF (r.take k) p ++ if p (idAt r k) then [idAt r k] else [] := by
  rw [List.take_succ_eq_append_getElem hk, idsF, List.filter_append, List.map_append]
  have : idAt r k = r[k].f0 := by simp [idAt, List.getD_eq_getElem?_getD, List.getElem?_eq_getElem hk]
  rw [this]
  by_cases h : p r[k].f0 = true
  · simp [h, idsF]
  · simp [h, idsF]
theorem idsF_holdsL {G : List Int} {H : List Int} : ∀ (r : List RecT) (bs : List Int), SortedIds r → (∀ i, i < r.length → (idAt r i ∈ H ↔ idAt r i ∈ holdsL G bs r)) → idsF r (fun n => decide (n ∈ H)) = holdsL G bs r
  | [], _, _, _ => rfl
  | x :: r, bs, hs, h => by
    have hs2 : SortedIds r := fun j hj => by
      have := hs (j + 1) (by simpa using hj)
      simpa [idAt] using this
    have h0 := h 0 (by simp)
    have hx : idAt (x :: r) 0 = x.f0 := rfl
    rw [hx] at h0
    have hi : ∀ i, idAt (x :: r) (i + 1) = idAt r i := fun i => by simp [idAt]
    have hne : ∀ i, i < r.length → idAt r i ≠ x.f0 := fun i hil e => by
      have := sorted_inj hs (i := i + 1) (j := 0) (by simpa using hil) (by simp) (by rw [hi, hx, e])
      omega
    have hno : ∀ bs, x.f0 ∉ holdsL G bs r := fun bs hm => by
      obtain ⟨i, h1, h2⟩ := holdsL_mem r bs _ hm
      exact hne i h1 h2
    unfold holdsL at h0 h ⊢
    split
    · rename_i hc
      rw [if_pos hc] at h0
      have ih := idsF_holdsL (H := H) r bs hs2 fun i hil => by
        have := h (i + 1) (by simpa using hil)
        rwa [if_pos hc, hi] at this
      rw [← ih, idsF, List.filter_cons, if_neg (by simp; exact fun q => hno _ (h0.1 q))]
      rfl
    · rename_i hc
      rw [if_neg hc] at h0
      have ih := idsF_holdsL (H := H) r (insN x.f0 bs) hs2 fun i hil => by
        have := h (i + 1) (by simpa using hil)
        rw [if_neg hc, hi, List.mem_cons] at this
        rw [this]
        exact ⟨fun q => q.resolve_left (hne i hil), .inr⟩
      rw [← ih, idsF, List.filter_cons, if_pos (by simp; exact h0.2 (List.mem_cons_self ..))]
      rfl
theorem ids_holds {r : List RecT} (hs : SortedIds r) (G : List Int) : idsF r (fun n => decide (n ∈ holdsF r G)) = holdsF r G := idsF_holdsL r [] hs fun _ _ => Iff.rfl
def pB (r : List RecT) (p : Int → Bool) : List Bool := r.map fun x => p x.f0
theorem pB_get {r : List RecT} {p : Int → Bool} {k : Nat} (hk : k < r.length) : (pB r p).getD k false = p (idAt r k) := by
  simp [pB, idAt, List.getD_eq_getElem?_getD, List.getElem?_eq_getElem hk]
set_option maxHeartbeats 16000000 in
theorem ids_calls (A B : Option Addr) (c c' : Nat) (r : List RecT) (p : Int → Bool) (w : World) (hr : Kd.C recK w A r.length r) (hg : Kd.C Kd.bool w B r.length (pB r p)) (hlen : r.length ≤ 1000000) :
    Calls Try.prog 24 #[.slice A r.length c, .slice B r.length c'] w fun e w' => ∃ rr : RowR, e = .returned (valR rr (idsF r p).length) ∧ RowAt 3 w.heap.size w' rr (idsF r p) ∧ Below w.heap.size w w' := by
  refine x_calls (X := XNone) Try.func24 rfl rfl rfl ?_
  with_reducible repeat refine xc_seq ?_
  with_reducible refine xc_region ?_
  refine xo_asg rfl rfl rfl ?_
  with_reducible refine xo_nil ?_
  with_reducible repeat (first | refine xq_then ?_ | refine xq_blockN ?_ | refine xq_scopeN ?_)
  with_reducible repeat refine xc_seq ?_
  with_reducible refine xc_region ?_
  refine xo_asg rfl rfl rfl ?_
  with_reducible refine xo_nil ?_
  with_reducible repeat (first | refine xq_then ?_ | refine xq_blockN ?_ | refine xq_scopeN ?_)
  with_reducible repeat refine xc_seq ?_
  with_reducible refine xc_region ?_
  refine xo_asg rfl rfl rfl ?_
  with_reducible refine xo_nil ?_
  with_reducible repeat (first | refine xq_then ?_ | refine xq_blockN ?_ | refine xq_scopeN ?_)
  with_reducible repeat refine xc_seq ?_
  with_reducible refine xc_block ?_
  refine xc_loop (γ := Nat × RowR) (fun q => q.1 ≤ r.length ∧ (q.2 = none → idsF (r.take q.1) p = [])) (fun q => [(0, .slice A r.length c), (1, .slice B r.length c'), (5, valR q.2 (idsF (r.take q.1) p).length), (6, .int .i64 (q.1 : Int))])
    (fun q => hpR 3 1 q.2 (idsF (r.take q.1) p).length ((idsF (r.take q.1) p).map (.int .i64)) ++ []) (fun q => r.length - q.1) (0, none) ⟨Nat.zero_le _, fun _ => rfl⟩ ⟨rfl, rfl, rfl, rfl, trivial⟩ (List.nil_sublist _) ?_
  rintro ⟨k, rr⟩ ⟨hk1, hrr⟩
  simp only at hk1 hrr ⊢
  with_reducible repeat refine xc_seq ?_
  with_reducible refine xc_region ?_
  refine xo_mv rfl rfl rfl ?_
  refine xo_mv rfl rfl rfl ?_
  refine xo_len T_ rfl rfl rfl rfl ?_
  refine xo_lss rfl rfl rfl rfl ?_
  with_reducible refine xo_nil ?_
  with_reducible repeat (first | refine xq_then ?_ | refine xq_blockN ?_ | refine xq_scopeN ?_)
  with_reducible repeat refine xc_seq ?_
  refine xc_cond rfl (fun h => ?_) (fun h => ?_)
  · have hlt : k < r.length := by have := of_decide_eq_true h; omega
    have hll : (idsF (r.take k) p).length ≤ 1000000 := by have := idsF_len (r.take k) p; have := List.length_take_le k r; omega
    obtain ⟨ad, A2, c2, rfl, r1, hc2, hw2⟩ := rec_at hr k hlt
    obtain ⟨bd, rfl, r2⟩ := bool_at hg k hlt
    rw [pB_get hlt] at r2
    have htk := idsF_take r p k hlt
    have hid : idAt r k = (r.getD k zRec).f0 := rfl
    generalize r.getD k zRec = x at *
    rw [hid] at htk r2
    with_reducible refine xc_skip ?_
    with_reducible repeat (first | refine xq_then ?_ | refine xq_blockN ?_ | refine xq_scopeN ?_)
    with_reducible repeat refine xc_seq ?_
    with_reducible refine xc_block ?_
    with_reducible repeat refine xc_seq ?_
    with_reducible refine xc_region ?_
    refine xo_mv rfl rfl rfl ?_
    refine xo_mv rfl rfl rfl ?_
    refine xo_ia T_ rfl rfl rfl rfl rfl ⟨by omega, by omega⟩ rfl ?_
    refine xo_loadR0 T_ rfl rfl rfl (by first | assumption | exact RO.fld (by assumption) rfl) rfl ?_
    with_reducible refine xo_nil ?_
    with_reducible repeat (first | refine xq_then ?_ | refine xq_blockN ?_ | refine xq_scopeN ?_)
    with_reducible repeat refine xc_seq ?_
    refine xc_cond rfl (fun hp => ?_) (fun hp => ?_)
    · rw [hp, if_pos rfl] at htk
      with_reducible repeat refine xc_seq ?_
      with_reducible refine xc_region ?_
      refine xo_mv rfl rfl rfl ?_
      refine xo_mv rfl rfl rfl ?_
      refine xo_mv rfl rfl rfl ?_
      refine xo_ia T_ rfl rfl rfl rfl rfl ⟨by omega, by omega⟩ rfl ?_
      refine xo_faR T_ rfl rfl rfl rfl rfl ?_
      refine xo_loadR0 T_ rfl rfl rfl (by first | assumption | exact RO.fld (by assumption) rfl) rfl ?_
      refine xo_bs1 T_ rfl rfl rfl rfl rfl rfl rfl rfl (fun b23 => ?_)
      refine xo_app TR_ rfl rfl rfl rfl rfl rfl rfl rfl (by simp) rfl rfl (fun h => by rw [hrr h]; rfl) (by omega) rfl rfl (fun r' hr' => ?_)
      refine xo_asg rfl rfl rfl ?_
      with_reducible refine xo_nil ?_
      with_reducible repeat (first | refine xq_then ?_ | refine xq_blockN ?_ | refine xq_scopeN ?_)
      with_reducible repeat refine xc_seq ?_
      with_reducible refine xc_region ?_
      refine xo_mv rfl rfl rfl ?_
      refine xo_add rfl rfl rfl (by omega) rfl ?_
      refine xo_asg rfl rfl rfl ?_
      with_reducible refine xo_nil ?_
      with_reducible repeat (first | refine xq_then ?_ | refine xq_blockN ?_ | refine xq_scopeN ?_)
      refine xq_again _ _ _ _ _ (k + 1, r') ⟨hlt, fun h => absurd h hr'⟩ (by first | omega | (simp only; omega)) ⟨rfl, rfl, by rw [htk, List.length_append]; rfl, rfl, trivial⟩ ?_
      simp only [htk, List.length_append, List.map_append, List.append_nil]
      exact List.Sublist.refl _
    · rw [hp, if_neg (by simp), List.append_nil] at htk
      with_reducible refine xc_skip ?_
      with_reducible repeat (first | refine xq_then ?_ | refine xq_blockN ?_ | refine xq_scopeN ?_)
      with_reducible repeat refine xc_seq ?_
      with_reducible refine xc_region ?_
      refine xo_mv rfl rfl rfl ?_
      refine xo_add rfl rfl rfl (by omega) rfl ?_
      refine xo_asg rfl rfl rfl ?_
      with_reducible refine xo_nil ?_
      with_reducible repeat (first | refine xq_then ?_ | refine xq_blockN ?_ | refine xq_scopeN ?_)
      refine xq_again _ _ _ _ _ (k + 1, rr) ⟨hlt, fun h => by rw [htk]; exact hrr h⟩ (by first | omega | (simp only; omega)) ⟨rfl, rfl, by rw [htk]; rfl, rfl, trivial⟩ ?_
      simp only [htk]
      exact List.Sublist.refl _
  · have hge : ¬ k < r.length := by have := of_decide_eq_false h; omega
    rw [List.take_of_length_le (by omega)]
    rw [List.take_of_length_le (by omega)] at hrr
    with_reducible refine xc_exit ?_
    with_reducible repeat (first | refine xq_blockX ?_ | refine xq_thenE ?_ | refine xq_blockE rfl ?_ | refine xq_scopeE ?_)
    with_reducible repeat (first | refine xq_then ?_ | refine xq_blockN ?_ | refine xq_scopeN ?_)
    with_reducible repeat refine xc_seq ?_
    with_reducible refine xc_region ?_
    refine xo_mv rfl rfl rfl ?_
    refine xo_asg rfl rfl rfl ?_
    with_reducible refine xo_nil ?_
    with_reducible repeat (first | refine xq_then ?_ | refine xq_blockN ?_ | refine xq_scopeN ?_)
    with_reducible repeat refine xc_seq ?_
    with_reducible refine xc_ret ?_
    with_reducible repeat (first | refine xq_thenR ?_ | refine xq_blockR ?_ | refine xq_scopeR ?_)
    exact xq_ret1 rfl rfl fun w' hw => ⟨rr, rfl, RowAt.of (by rwa [List.append_nil] at hw) hrr, hw.kx.below⟩
theorem ids_enters : ∀ args w, (callFunc 24 args).run Try.prog w = .ok (.enter 24 args) w := enters_of Try.func24 (by kernel_rfl) rfl
end Go.Proofs.Ytcmepdamemnbkaa
