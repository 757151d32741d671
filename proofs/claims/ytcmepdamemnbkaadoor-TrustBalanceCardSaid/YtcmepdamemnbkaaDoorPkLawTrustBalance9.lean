/- ref08.Pieces, Recall answer what trust.Pieces, Recall answer. / law08: sums of moves: balances, any order (plain). / law08: lists that are numbered anew in place, one by one (plain). / ref08.Recall answers what trust.Recall answers; SameMoves. / law08: what is called back, and what a letter more calls back (plain). / law08: ledger; maps that are written to; bounds of sums. / law08.TrustPieces: the walk. / law08.TrustBalance: the walk. -/
import Derived.Test.YtcmepdamemnbkaaDoorPkLawTrustBalance6
import Derived.Test.YtcmepdamemnbkaaDoorPkLawTrustBalance8
import Derived.Test.YtcmepdamemnbkaaDoorPkLawTrustBalance5
import Derived.Test.YtcmepdamemnbkaaDoorPkLawTrustBalance7
import Derived.Test.YtcmepdamemnbkaaDoorPkLawTrustBalance3
namespace Go.Proofs.YtcmepdamemnbkaaDoor
open Go.RowKit Go.Proofs.YtcmepdamemnbkaaDoorW.PrintWords
set_option linter.unusedVariables false
set_option linter.unusedSimpArgs false
def sumL (m : List MovT) (C : List Int) : StT → List RecT → StT
  | s, [] => s
  | s, x :: r => sumL m C (if decide (x.f0 ∈ C) then addS s (storeF m x.f0) else s) r
theorem pieces_sum {r : List RecT} (hs : SortedIds r) (m : List MovT) (id : Int) : ∀ (j k : Nat) (s : StT), j + k = r.length → piecesL m id (cmF r id k) s (r.drop k) = sumL m (comesF r id) s (r.drop k)
  | 0, k, s, h => by rw [List.drop_of_length_le (by omega)]; rfl
  | j + 1, k, s, h => by
    have hc := comes_at hs id (show k < r.length by omega)
    rw [drop_at r zRec k (by omega), piecesL, sumL, show (r.getD k zRec).f0 = idAt r k from rfl, hc]
    have hcs := cmF_succ id (show k < r.length by omega)
    rw [show (fromF id (cmF r id k) (r.getD k zRec) && decide ((r.getD k zRec).f1 = 3)) = condF r id k from rfl]
    by_cases q : condF r id k = true
    · rw [if_pos q] at hcs ⊢
      rw [if_pos q, ← hcs]
      exact pieces_sum hs m id j (k + 1) _ (by omega)
    · rw [if_neg q] at hcs ⊢
      rw [if_neg q, ← hcs]
      exact pieces_sum hs m id j (k + 1) _ (by omega)
theorem pieces_sum0 {r : List RecT} (hs : SortedIds r) (m : List MovT) (id : Int) : piecesL m id [] st0 r = sumL m (comesF r id) st0 r := pieces_sum hs m id r.length 0 st0 (by omega)
end Go.Proofs.YtcmepdamemnbkaaDoor
namespace Go.Proofs.YtcmepdamemnbkaaDoor
open Go.RowKit Go.Proofs.YtcmepdamemnbkaaDoorW.PrintWords
theorem step_add (s : StT) (k n : Int) : stStep s k n = addS s (stStep st0 k n) := by
  unfold stStep addS st0
  (repeat' split) <;> simp only [StT.mk.injEq] <;> omega
theorem addS_comm (s t : StT) : addS s t = addS t s := by
  unfold addS
  simp only [StT.mk.injEq]
  omega
theorem addS_assoc (s t u : StT) : addS (addS s t) u = addS s (addS t u) := by
  unfold addS
  simp only [StT.mk.injEq]
  omega
theorem addS_zero' (s : StT) : addS st0 s = s := by rw [addS_comm, addS_zero]
theorem step_right (s t : StT) (k n : Int) : addS s (stStep t k n) = stStep (addS s t) k n := by rw [step_add, ← addS_assoc, ← step_add]
theorem step_left (s t : StT) (k n : Int) : addS (stStep s k n) t = stStep (addS s t) k n := by rw [addS_comm, step_right, addS_comm t s]
theorem store_from (id : Int) : ∀ (m : List MovT) (s : StT), m.foldl (fun s x => if x.f1 = id then stStep s x.f2 x.f3 else s) s = addS s (storeF m id)
  | [], s => (addS_zero s).symm
  | x :: m, s => by
    rw [List.foldl_cons, store_from id m]
    have e : storeF (x :: m) id = addS (if x.f1 = id then stStep st0 x.f2 x.f3 else st0) (storeF m id) := store_from id m _
    rw [e]
    by_cases h : x.f1 = id
    · rw [if_pos h, if_pos h, step_left, step_left, addS_zero', step_right]
    · rw [if_neg h, if_neg h, addS_zero']
theorem store_app (m m' : List MovT) (id : Int) : storeF (m ++ m') id = addS (storeF m id) (storeF m' id) := by
  rw [storeF, List.foldl_append, store_from]
  rfl
theorem store_rot (m : List MovT) (k : Nat) (id : Int) : storeF (rotL m k) id = storeF m id := by
  rw [rotL, store_app, addS_comm, ← store_app, List.take_append_drop]
def numM (t : Int) : Nat → List MovT → List MovT
  | _, [] => []
  | i, y :: l => ⟨3 * (i : Int) + t, y.f1, y.f2, y.f3⟩ :: numM t (i + 1) l
theorem numM_len (t : Int) : ∀ (l : List MovT) (i : Nat), (numM t i l).length = l.length
  | [], _ => rfl
  | _ :: l, i => by simp only [numM, List.length_cons, numM_len t l (i + 1)]
theorem store_num (t id : Int) : ∀ (m : List MovT) (i : Nat) (s : StT), (numM t i m).foldl (fun s x => if x.f1 = id then stStep s x.f2 x.f3 else s) s = m.foldl (fun s x => if x.f1 = id then stStep s x.f2 x.f3 else s) s
  | [], _, _ => rfl
  | y :: m, i, s => by
    rw [numM, List.foldl_cons, List.foldl_cons]
    exact store_num t id m (i + 1) _
/-- moves in turn -/
def turnM (m : List MovT) (k : Nat) (t : Int) : List MovT := numM t 0 (rotL m k)
theorem turnM_store (m : List MovT) (k : Nat) (t id : Int) : storeF (turnM m k t) id = storeF m id := by
  rw [turnM, storeF, store_num]
  exact store_rot m k id
theorem numM_ok {bs : List Int} {t : Int} (ht : 0 ≤ t ∧ t ≤ 255) : ∀ (L : List MovT) (i : Nat) (last : Int), (∀ y ∈ L, y.f1 ∈ bs ∧ (1 ≤ y.f2 ∧ y.f2 ≤ 5) ∧ (1 ≤ y.f3 ∧ y.f3 ≤ 100000)) → last < 3 * (i : Int) + t → (i : Int) + (L.length : Int) ≤ 40 → movesL bs last i (numM t i L) = true
  | [], _, _, _, _, _ => rfl
  | y :: L, i, last, h, h1, h2 => by
    simp only [List.length_cons] at h2
    obtain ⟨h3, h4, h5⟩ := h y List.mem_cons_self
    have ih := numM_ok ht L (i + 1) (3 * (i : Int) + t) (fun x hx => h x (List.mem_cons_of_mem _ hx)) (by omega) (by omega)
    have h6 : inF (last + 1) 9999 (3 * (i : Int) + t) = true := by simp only [inF, Bool.and_eq_true, decide_eq_true_eq]; omega
    have h7 : inF 1 5 y.f2 = true := by simp only [inF, Bool.and_eq_true, decide_eq_true_eq]; exact h4
    have h8 : inF 1 100000 y.f3 = true := by simp only [inF, Bool.and_eq_true, decide_eq_true_eq]; exact h5
    have h9 : decide (40 ≤ (i : Int)) = false := decide_eq_false (by omega)
    simp only [numM, movesL, h3, h6, h7, h8, h9, decide_true, Bool.true_and, Bool.not_false]
    exact ih
theorem turnM_count {r : List RecT} {m : List MovT} (h : countF r m = true) {k : Nat} (hk : k ≤ m.length) {t : Int} (ht : 0 ≤ t ∧ t ≤ 255) : countF r (turnM m k t) = true := by
  rw [countF, Bool.and_eq_true] at h ⊢
  refine ⟨numM_ok ht _ 0 (-1) (fun y hy => movesL_mem m _ _ h.1 y (rotL_mem.1 hy)) (by omega) ?_, ?_⟩
  · rw [rotL_len m k hk]
    rcases movesL_len m _ _ h.1 with h3 | rfl
    · omega
    · simp
  · simp only [turnM_store]
    exact h.2
theorem piecesL_congr {m m' : List MovT} (h : ∀ id, storeF m id = storeF m' id) (id : Int) : ∀ (r : List RecT) (c : List Int) (s : StT), piecesL m id c s r = piecesL m' id c s r
  | [], _, _ => rfl
  | x :: r, c, s => by
    rw [piecesL, piecesL, h, piecesL_congr h id r, piecesL_congr h id r]
theorem turnM_pieces {r : List RecT} {m : List MovT} (h : countF r m = true) {k : Nat} (hk : k ≤ m.length) {t : Int} (ht : 0 ≤ t ∧ t ≤ 255) (id : Int) : piecesR r (turnM m k t) id = piecesR r m id ∧ piecesC r (turnM m k t) id = piecesC r m id := by
  have e : piecesC r (turnM m k t) id = piecesC r m id := by rw [piecesC, piecesC, turnM_count h hk ht, h]
  refine ⟨?_, e⟩
  rw [piecesR, piecesR, e, piecesL_congr (fun i => turnM_store m k t i)]
/-! ### move by move -/
theorem store_snoc (m : List MovT) (y : MovT) (id : Int) : storeF (m ++ [y]) id = if y.f1 = id then stStep (storeF m id) y.f2 y.f3 else storeF m id := by
  rw [storeF, List.foldl_append]
  rfl
theorem sumL_out (m : List MovT) (y : MovT) (C : List Int) : ∀ (r : List RecT) (s : StT), (∀ x ∈ r, x.f0 = y.f1 → x.f0 ∉ C) → sumL (m ++ [y]) C s r = sumL m C s r
  | [], _, _ => rfl
  | x :: r, s, h => by
    rw [sumL, sumL]
    by_cases hc : x.f0 ∈ C
    · rw [if_pos (decide_eq_true hc), if_pos (decide_eq_true hc), store_snoc, if_neg (fun e => h x List.mem_cons_self e.symm hc)]
      exact sumL_out m y C r _ fun z hz => h z (List.mem_cons_of_mem _ hz)
    · rw [if_neg (by simp [hc]), if_neg (by simp [hc])]
      exact sumL_out m y C r _ fun z hz => h z (List.mem_cons_of_mem _ hz)
theorem sumL_step (m : List MovT) (C : List Int) (k n : Int) : ∀ (r : List RecT) (s : StT), sumL m C (stStep s k n) r = stStep (sumL m C s r) k n
  | [], _ => rfl
  | x :: r, s => by
    rw [sumL, sumL]
    by_cases hc : x.f0 ∈ C
    · rw [if_pos (decide_eq_true hc), if_pos (decide_eq_true hc), step_left]
      exact sumL_step m C k n r _
    · rw [if_neg (by simp [hc]), if_neg (by simp [hc])]
      exact sumL_step m C k n r _
theorem sumL_in (m : List MovT) (y : MovT) (C : List Int) (hC : y.f1 ∈ C) : ∀ (r : List RecT) (s : StT), (idsL r).Nodup → y.f1 ∈ idsL r → sumL (m ++ [y]) C s r = stStep (sumL m C s r) y.f2 y.f3
  | [], _, _, h => by cases h
  | x :: r, s, hn, h => by
    have hn2 := List.nodup_cons.1 hn
    rw [sumL, sumL]
    by_cases e : x.f0 = y.f1
    · rw [if_pos (decide_eq_true (e ▸ hC)), if_pos (decide_eq_true (e ▸ hC)), store_snoc, if_pos e.symm, step_right]
      rw [sumL_out m y C r _ fun z hz e2 => absurd (List.mem_map.2 ⟨z, hz, e2.trans e.symm⟩) hn2.1]
      exact sumL_step m C _ _ r _
    · have h2 : y.f1 ∈ idsL r := by
        rcases List.mem_cons.1 h with h | h
        · exact absurd h.symm e
        · exact h
      have h3 : storeF (m ++ [y]) x.f0 = storeF m x.f0 := by rw [store_snoc, if_neg (fun q => e q.symm)]
      rw [h3]
      exact sumL_in m y C hC r _ hn2.2 h2
theorem sumL_nil (C : List Int) : ∀ (r : List RecT) (s : StT), sumL [] C s r = s
  | [], _ => rfl
  | x :: r, s => by
    rw [sumL, show storeF [] x.f0 = st0 from rfl, addS_zero, ite_self]
    exact sumL_nil C r s
/-- the law's sum after k moves -/
theorem sumL_take {r : List RecT} (hs : SortedIds r) {m : List MovT} {C : List Int} {k : Nat} (hk : k < m.length) (hin : (m.getD k zMov).f1 ∈ idsL r) :
    sumL (m.take (k + 1)) C st0 r = if decide ((m.getD k zMov).f1 ∈ C) then stStep (sumL (m.take k) C st0 r) (m.getD k zMov).f2 (m.getD k zMov).f3 else sumL (m.take k) C st0 r := by
  have h1 : m.getD k zMov = m[k] := by simp [List.getD_eq_getElem?_getD, List.getElem?_eq_getElem hk]
  rw [List.take_succ_eq_append_getElem hk, ← h1]
  by_cases hc : (m.getD k zMov).f1 ∈ C
  · rw [if_pos (decide_eq_true hc), sumL_in _ _ C hc r st0 (idsL_nodup hs) hin]
  · rw [if_neg (fun q => hc (of_decide_eq_true q)), sumL_out]
    intro x _ e
    rw [e]
    exact hc
/-! ### what balances -/
def BalS (s : StT) : Prop := s.a + s.b = s.c + s.d + s.e + s.l
theorem bal_step {s : StT} (h : BalS s) (k n : Int) : BalS (stStep s k n) := by
  unfold BalS stStep at *
  (repeat' split) <;> simp only <;> omega
theorem bal_store (m : List MovT) (id : Int) : BalS (storeF m id) := by
  have key : ∀ (m : List MovT) (s : StT), BalS s → BalS (m.foldl (fun s x => if x.f1 = id then stStep s x.f2 x.f3 else s) s) := by
    intro m
    induction m with
    | nil => intro s h; exact h
    | cons x m ih =>
      intro s h
      refine ih _ ?_
      show BalS (if x.f1 = id then stStep s x.f2 x.f3 else s)
      split
      · exact bal_step h _ _
      · exact h
  exact key m st0 (by simp [BalS, st0])
theorem bal_sum (m : List MovT) (C : List Int) : ∀ (r : List RecT) (s : StT), BalS s → BalS (sumL m C s r)
  | [], _, h => h
  | x :: r, s, h => by
    rw [sumL]
    refine bal_sum m C r _ ?_
    split
    · have := bal_store m x.f0
      unfold BalS addS at *
      simp only
      omega
    · exact h
theorem okS_iff {s : StT} : okS s = true ↔ s.b ≤ s.d ∧ 0 ≤ s.l := by
  simp only [okS, Bool.not_eq_true', Bool.or_eq_false_iff, decide_eq_false_iff_not]
  omega
theorem ok_sum (m : List MovT) (C : List Int) (hC : ∀ n ∈ C, okS (storeF m n) = true) : ∀ (r : List RecT) (s : StT), okS s = true → okS (sumL m C s r) = true
  | [], _, h => h
  | x :: r, s, h => by
    rw [sumL]
    refine ok_sum m C hC r _ ?_
    split
    · rename_i hc
      have h2 := okS_iff.1 (hC x.f0 (of_decide_eq_true hc))
      have h1 := okS_iff.1 h
      refine okS_iff.2 ⟨?_, ?_⟩
      · show s.b + (storeF m x.f0).b ≤ s.d + (storeF m x.f0).d
        omega
      · show 0 ≤ s.l + (storeF m x.f0).l
        omega
    · exact h
/-- what is asked of each record -/
theorem pieces_law {r : List RecT} (hok : recordedF r = true) {m : List MovT} (hcf : countF r m = true) {id : Int} (hid : knownF r id = true) :
    piecesC r m id = 0 ∧ piecesR r m id = sumL m (comesF r id) st0 r ∧ BalS (piecesR r m id) ∧ 0 ≤ (piecesR r m id).l ∧ (piecesR r m id).b ≤ (piecesR r m id).d := by
  have hs := sorted_of hok
  have e1 : piecesC r m id = 0 := by rw [piecesC, hok, hcf, hid]; rfl
  have e2 : piecesR r m id = sumL m (comesF r id) st0 r := by rw [piecesR, if_pos e1, pieces_sum0 hs]
  refine ⟨e1, e2, ?_, ?_⟩
  · rw [e2]
    exact bal_sum m _ r st0 (by simp [BalS, st0])
  · have h1 : okS (sumL m (comesF r id) st0 r) = true := ok_sum m _ (fun n hn => by
      have h2 := (cmF_mem id r.length (Nat.le_refl _) n).1 (by rw [cmF, List.take_length]; exact hn)
      obtain ⟨i, hi, rfl, hc⟩ := h2
      rw [condF, Bool.and_eq_true] at hc
      rw [countF, Bool.and_eq_true, List.all_eq_true] at hcf
      exact hcf.2 _ (of_decide_eq_true ((batch_mem hs hi).trans hc.2))) r st0 (by simp [okS, st0])
    rw [← e2] at h1
    exact ⟨(okS_iff.1 h1).2, (okS_iff.1 h1).1⟩
theorem comes_self {r : List RecT} (hs : SortedIds r) {k : Nat} (hk : k < r.length) : decide (idAt r k ∈ comesF r (idAt r k)) = decide ((r.getD k zRec).f1 = 3) := by
  rw [comes_at hs _ hk, condF, fromF]
  simp [idAt]
theorem moves_in {r : List RecT} {m : List MovT} (hcf : countF r m = true) {k : Nat} (hk : k < m.length) : (m.getD k zMov).f1 ∈ idsL r := by
  rw [countF, Bool.and_eq_true] at hcf
  have := (movesL_mem m _ _ hcf.1 _ (getD_mem m zMov k hk)).1
  simp only [batchesF, List.mem_map, List.mem_filter] at this
  obtain ⟨x, h1, h2⟩ := this
  exact List.mem_map.2 ⟨x, h1.1, h2⟩
end Go.Proofs.YtcmepdamemnbkaaDoor
namespace Go.Proofs.YtcmepdamemnbkaaDoor
open Go.RowKit Go.Proofs.YtcmepdamemnbkaaDoorW.PrintWords
theorem numM_snoc (t : Int) : ∀ (l : List MovT) (i : Nat) (y : MovT), numM t i (l ++ [y]) = numM t i l ++ [⟨3 * ((i + l.length : Nat) : Int) + t, y.f1, y.f2, y.f3⟩]
  | [], i, y => by simp [numM]
  | x :: l, i, y => by
    rw [List.cons_append, numM, numM_snoc t l (i + 1), numM, List.cons_append, List.length_cons]
    rw [show i + 1 + l.length = i + (l.length + 1) by omega]
def partM1 (t : Int) (R : List MovT) (j : Nat) : List MovT := numM t 0 (R.take j) ++ R.drop j
theorem partM1_full (t : Int) (R : List MovT) : partM1 t R R.length = numM t 0 R := by simp [partM1]
theorem partM1_zero (t : Int) (R : List MovT) : partM1 t R 0 = R := by simp [partM1, numM]
theorem partM1_step (t : Int) (R : List MovT) {j : Nat} (hj : j < R.length) : ((partM1 t R j).map movV).flatten.set (j * 4 + 0) (.int .i64 (3 * (j : Int) + t)) = ((partM1 t R (j + 1)).map movV).flatten := by
  have hl : (numM t 0 (R.take j)).length = j := by rw [numM_len, List.length_take]; omega
  have hat : (partM1 t R j)[j]? = some R[j] := by
    rw [partM1, List.getElem?_append_right (by omega), hl, Nat.sub_self, List.getElem?_drop, Nat.add_zero, List.getElem?_eq_getElem hj]
  rw [flat_set 4 _ j 0 (movV R[j]) _ (fun c hc => by obtain ⟨x, _, rfl⟩ := List.mem_map.1 hc; rfl) (by rw [List.getElem?_map, hat]; rfl) (by omega)]
  congr 1
  have e : (movV R[j]).set 0 (.int .i64 (3 * (j : Int) + t)) = movV ⟨3 * (j : Int) + t, R[j].f1, R[j].f2, R[j].f3⟩ := rfl
  rw [e, ← List.map_set]
  congr 1
  rw [partM1, partM1, List.set_append_right _ _ (by omega), hl, Nat.sub_self, List.drop_eq_getElem_cons hj, List.set_cons_zero, List.take_succ_eq_append_getElem hj, numM_snoc, List.length_take, show min j R.length = j by omega]
  simp
theorem ad4 (b i j : Nat) : (Addr.add (Addr.add ⟨b, 0, none⟩ ((i : Int).toNat * szN 4)) j) = ⟨b, i * 4 + j, none⟩ := by
  rw [Addr.add_lit, Addr.add_lit, show szN 4 = 4 from rfl]
  simp
end Go.Proofs.YtcmepdamemnbkaaDoor
namespace Go.Proofs.YtcmepdamemnbkaaDoor
open Go.RowKit Go.Proofs.YtcmepdamemnbkaaDoorW.PrintWords
set_option linter.unusedVariables false
set_option linter.unusedSimpArgs false
theorem eqMov (d : Nat) (w : World) (x y : MovT) :
    (Op.equalIn (d + 2) 54 (.agg (movV x).toArray) (.agg (movV y).toArray)).run Tryd.prog w = .ok (x.f0 == y.f0 && (x.f1 == y.f1 && (x.f2 == y.f2 && (x.f3 == y.f3)))) w := by
  refine eqA_of Tryd.underlying54 (by kernel_rfl) ?_
  refine eqf_cons (by rfl) (by go_simp; rfl) (by go_simp; rfl) (by go_simp) ?_
  refine eqf_cons (by rfl) (by go_simp; rfl) (by go_simp; rfl) (by go_simp) ?_
  refine eqf_cons (by rfl) (by go_simp; rfl) (by go_simp; rfl) (by go_simp) ?_
  exact eqf_last (by rfl) (by go_simp; rfl) (by go_simp; rfl) (by go_simp)
section
variable {ro : Option Nat} {n N : Nat} {ds : List Deferred} {w0 : World} {X : Nat → Prop} {Q : Exit → Act → World → Prop} {σ : Slots} {η : Hp} {ops rest : List Oper} {d : Option Tmp} {ty pos aft} {g : Option (Nat × Bool)}
attribute [local go_sem high] eqMov
end
end Go.Proofs.YtcmepdamemnbkaaDoor
namespace Go.Proofs.YtcmepdamemnbkaaDoor
open Go.RowKit Go.Proofs.YtcmepdamemnbkaaDoorW.PrintWords
theorem idsL_snoc {r : List RecT} {k : Nat} (hk : k < r.length) : idsL (r.take (k + 1)) = idsL (r.take k) ++ [idAt r k] := by
  have h1 : r.getD k zRec = r[k] := by simp [List.getD_eq_getElem?_getD, List.getElem?_eq_getElem hk]
  rw [idsL, List.take_succ_eq_append_getElem hk, List.map_append, ← h1]
  rfl
end Go.Proofs.YtcmepdamemnbkaaDoor
namespace Go.Proofs.YtcmepdamemnbkaaDoor
open Go.RowKit Go.Proofs.YtcmepdamemnbkaaDoorW.PrintWords
set_option linter.unusedVariables false
set_option linter.unusedSimpArgs false
theorem imGet_set {β : Type} (n k : Int) (v : β) : ∀ l : List (Int × β), imGet n (imSet k v l) = if n = k then some v else imGet n l
  | [] => by
    unfold imSet imGet
    by_cases e : n = k
    · rw [if_pos e, if_pos e.symm]
    · rw [if_neg e, if_neg (fun q => e q.symm)]; rfl
  | p :: l => by
    unfold imSet
    by_cases h : p.1 = k
    · rw [if_pos h]
      simp only [imGet]
      by_cases e : n = k
      · rw [if_pos e, if_pos e.symm]
      · rw [if_neg e, if_neg (fun q => e q.symm), if_neg (fun q => e (q.symm.trans h))]
    · rw [if_neg h]
      simp only [imGet]
      rw [imGet_set n k v l]
      by_cases e : p.1 = n
      · rw [if_pos e, if_pos e, if_neg (fun q => h (e.trans q))]
      · rw [if_neg e, if_neg e]
theorem nil_let (w : World) : Kd.C letK w none ([] : List LetT).length ([] : List LetT) := ⟨rfl, by simp, fun h => absurd h (by simp)⟩
theorem sumL_B {m : List MovT} {C : List Int} {D : Int} (hD : ∀ id, StB (storeF m id) D) (h0 : 0 ≤ D) : ∀ (r : List RecT) (s : StT) (B : Int), StB s B → StB (sumL m C s r) (B + D * (r.length : Int))
  | [], s, B, h => by simpa [sumL] using h
  | x :: r, s, B, h => by
    have h1 : StB (if decide (x.f0 ∈ C) then addS s (storeF m x.f0) else s) (B + D) := by
      split
      · exact h.add (hD _)
      · exact h.mono (by omega)
    have := sumL_B (C := C) hD h0 r _ _ h1
    rw [sumL]
    refine this.mono ?_
    rw [List.length_cons, Int.natCast_add, Int.mul_add]
    omega
theorem sum_B {r : List RecT} {m : List MovT} (hcf : countF r m = true) (hlen : r.length ≤ 12) (C : List Int) (k : Nat) : StB (sumL (m.take k) C st0 r) 100000000 := by
  rw [countF, Bool.and_eq_true] at hcf
  have h1 := movesL_mem m _ _ hcf.1
  have h2 : (m.take k).length ≤ 40 := by
    rw [List.length_take]
    rcases movesL_len m _ _ hcf.1 with h | rfl
    · omega
    · simp
  refine (sumL_B (D := 4000000) (fun id => (storeF_B (fun x hx => (h1 x (List.mem_of_mem_take hx)).2.2) id).mono (by omega)) (by omega) r st0 0 (by unfold StB st0; simp)).mono (by omega)
theorem numM_bytes {t : Int} : ∀ {l : List MovT} {i : Nat}, BytesM l → BytesM (numM t i l)
  | [], _, _, x, hx => by cases hx
  | y :: l, i, h, x, hx => by
    rcases List.mem_cons.1 hx with rfl | hx
    · exact h y List.mem_cons_self
    · exact numM_bytes (l := l) (fun z hz => h z (List.mem_cons_of_mem _ hz)) x hx
theorem turnM_bytes {m : List MovT} {k : Nat} {t : Int} (h : BytesM m) : BytesM (turnM m k t) := numM_bytes fun x hx => h x (rotL_mem.1 hx)
def nolS (s : StT) : StT := ⟨s.a, s.b, s.c, s.d, s.e, 0⟩
theorem ledger_calls (A C : Option Addr) (c c2 : Nat) (r : List RecT) (m : List MovT) (w : World) (hr : Kd.C recK w A r.length r) (hm : Kd.C movK w C m.length m) (hk : Bytes r) (hkm : BytesM m) :
    Calls Tryd.prog 39 #[.slice A r.length c, .slice C m.length c2] w fun e w' => ∃ b, e = .returned (.bool b) ∧ Below w.heap.size w w' ∧ (b = true → Small r ∧ m.length ≤ 60 ∧ recordedF r = true ∧ countF r m = true) := by
  refine x_calls (X := XNone) Tryd.func39 rfl rfl rfl ?_
  with_reducible repeat refine xc_seq ?_
  with_reducible refine xc_region ?_
  refine xo_asg rfl rfl rfl ?_
  with_reducible refine xo_nil ?_
  with_reducible repeat (first | refine xq_then ?_ | refine xq_blockN ?_ | refine xq_scopeN ?_)
  with_reducible repeat refine xc_seq ?_
  with_reducible refine xc_region ?_
  refine xo_mv rfl rfl rfl ?_
  refine xo_mv rfl rfl rfl ?_
  refine xo_call (fs := []) (cs := []) rfl rfl rfl great_enters rfl (fun w1 hw1 => (great_calls A none C c 0 c2 m.length r [] w1 (Kd.C_below hr hw1.kx.below) (nil_let w1)).mono ?_)
  rintro e w2 ⟨gb, rfl, hb, hgr⟩
  refine ⟨_, _, rfl, hw1.below hb, ?_⟩
  clear hb hw1
  cases gb
  rotate_left
  · refine xo_notOp rfl rfl rfl ?_
    refine xo_mv rfl rfl rfl ?_
    first
      | refine xo_not rfl rfl ?_
      | (refine xo_mv rfl rfl rfl ?_)
    first
      | refine xo_not rfl rfl ?_
      | (fail "NO RULE: Op.call -6")
    first | refine xo_pickT rfl rfl rfl rfl ?_ | refine xo_pickF rfl rfl rfl rfl ?_
    refine xo_mv rfl rfl rfl ?_
    first
      | refine xo_not rfl rfl ?_
      | (refine xo_mv rfl rfl rfl ?_)
    first
      | refine xo_not rfl rfl ?_
      | (refine xo_mv rfl rfl rfl ?_)
    first
      | refine xo_not rfl rfl ?_
      | (fail "NO RULE: Op.call -11")
    first | refine xo_pickT rfl rfl rfl rfl ?_ | refine xo_pickF rfl rfl rfl rfl ?_
    refine xo_asg rfl rfl rfl ?_
    with_reducible refine xo_nil ?_
    with_reducible repeat (first | refine xq_then ?_ | refine xq_blockN ?_ | refine xq_scopeN ?_)
    with_reducible repeat refine xc_seq ?_
    with_reducible refine xc_ret ?_
    with_reducible repeat (first | refine xq_thenR ?_ | refine xq_blockR ?_ | refine xq_scopeR ?_)
    exact xq_ret1 rfl rfl fun w' hw => ⟨false, rfl, hw.kx.below, fun h => by cases h⟩
  cases hrec : recordedF r
  · refine xo_notOp rfl rfl rfl ?_
    refine xo_mv rfl rfl rfl ?_
    first
      | refine xo_not rfl rfl ?_
      | (refine xo_mv rfl rfl rfl ?_)
    first
      | refine xo_not rfl rfl ?_
      | (refine xo_callB (fs := []) (cs := []) rfl rfl rfl records_enters rfl (fun w1 hw1 => records_calls A c r w1 (Kd.C_below hr hw1.kx.below) hk) ?_
         rw [hrec])
    first | refine xo_pickT rfl rfl rfl rfl ?_ | refine xo_pickF rfl rfl rfl rfl ?_
    refine xo_mv rfl rfl rfl ?_
    first
      | refine xo_not rfl rfl ?_
      | (refine xo_mv rfl rfl rfl ?_)
    first
      | refine xo_not rfl rfl ?_
      | (refine xo_mv rfl rfl rfl ?_)
    first
      | refine xo_not rfl rfl ?_
      | (fail "NO RULE: Op.call -11")
    first | refine xo_pickT rfl rfl rfl rfl ?_ | refine xo_pickF rfl rfl rfl rfl ?_
    refine xo_asg rfl rfl rfl ?_
    with_reducible refine xo_nil ?_
    with_reducible repeat (first | refine xq_then ?_ | refine xq_blockN ?_ | refine xq_scopeN ?_)
    with_reducible repeat refine xc_seq ?_
    with_reducible refine xc_ret ?_
    with_reducible repeat (first | refine xq_thenR ?_ | refine xq_blockR ?_ | refine xq_scopeR ?_)
    exact xq_ret1 rfl rfl fun w' hw => ⟨false, rfl, hw.kx.below, fun h => by cases h⟩
  cases hcf : countF r m
  · refine xo_notOp rfl rfl rfl ?_
    refine xo_mv rfl rfl rfl ?_
    first
      | refine xo_not rfl rfl ?_
      | (refine xo_mv rfl rfl rfl ?_)
    first
      | refine xo_not rfl rfl ?_
      | (refine xo_callB (fs := []) (cs := []) rfl rfl rfl records_enters rfl (fun w1 hw1 => records_calls A c r w1 (Kd.C_below hr hw1.kx.below) hk) ?_
         rw [hrec])
    first | refine xo_pickT rfl rfl rfl rfl ?_ | refine xo_pickF rfl rfl rfl rfl ?_
    refine xo_mv rfl rfl rfl ?_
    first
      | refine xo_not rfl rfl ?_
      | (refine xo_mv rfl rfl rfl ?_)
    first
      | refine xo_not rfl rfl ?_
      | (refine xo_mv rfl rfl rfl ?_)
    first
      | refine xo_not rfl rfl ?_
      | (refine xo_callB (fs := []) (cs := []) rfl rfl rfl moves_enters rfl (fun w1 hw1 => moves_calls A C c c2 r m w1 (Kd.C_below hr hw1.kx.below) (Kd.C_below hm hw1.kx.below) hkm (sorted_of hrec)) ?_
         rw [hcf])
    first | refine xo_pickT rfl rfl rfl rfl ?_ | refine xo_pickF rfl rfl rfl rfl ?_
    refine xo_asg rfl rfl rfl ?_
    with_reducible refine xo_nil ?_
    with_reducible repeat (first | refine xq_then ?_ | refine xq_blockN ?_ | refine xq_scopeN ?_)
    with_reducible repeat refine xc_seq ?_
    with_reducible refine xc_ret ?_
    with_reducible repeat (first | refine xq_thenR ?_ | refine xq_blockR ?_ | refine xq_scopeR ?_)
    exact xq_ret1 rfl rfl fun w' hw => ⟨false, rfl, hw.kx.below, fun h => by cases h⟩
  · refine xo_notOp rfl rfl rfl ?_
    refine xo_mv rfl rfl rfl ?_
    first
      | refine xo_not rfl rfl ?_
      | (refine xo_mv rfl rfl rfl ?_)
    first
      | refine xo_not rfl rfl ?_
      | (refine xo_callB (fs := []) (cs := []) rfl rfl rfl records_enters rfl (fun w1 hw1 => records_calls A c r w1 (Kd.C_below hr hw1.kx.below) hk) ?_
         rw [hrec])
    first | refine xo_pickT rfl rfl rfl rfl ?_ | refine xo_pickF rfl rfl rfl rfl ?_
    refine xo_mv rfl rfl rfl ?_
    first
      | refine xo_not rfl rfl ?_
      | (refine xo_mv rfl rfl rfl ?_)
    first
      | refine xo_not rfl rfl ?_
      | (refine xo_mv rfl rfl rfl ?_)
    first
      | refine xo_not rfl rfl ?_
      | (refine xo_callB (fs := []) (cs := []) rfl rfl rfl moves_enters rfl (fun w1 hw1 => moves_calls A C c c2 r m w1 (Kd.C_below hr hw1.kx.below) (Kd.C_below hm hw1.kx.below) hkm (sorted_of hrec)) ?_
         rw [hcf])
    first | refine xo_pickT rfl rfl rfl rfl ?_ | refine xo_pickF rfl rfl rfl rfl ?_
    refine xo_asg rfl rfl rfl ?_
    with_reducible refine xo_nil ?_
    with_reducible repeat (first | refine xq_then ?_ | refine xq_blockN ?_ | refine xq_scopeN ?_)
    with_reducible repeat refine xc_seq ?_
    with_reducible refine xc_ret ?_
    with_reducible repeat (first | refine xq_thenR ?_ | refine xq_blockR ?_ | refine xq_scopeR ?_)
    exact xq_ret1 rfl rfl fun w' hw => ⟨true, rfl, hw.kx.below, fun _ => ⟨(hgr rfl).1, (hgr rfl).2.2, rfl, rfl⟩⟩
theorem ledger_enters : ∀ args w, (callFunc 39 args).run Tryd.prog w = .ok (.enter 39 args) w := enters_of Tryd.func39 (by kernel_rfl) rfl
end Go.Proofs.YtcmepdamemnbkaaDoor
namespace Go.Proofs.YtcmepdamemnbkaaDoor
open Go.RowKit Go.Proofs.YtcmepdamemnbkaaDoorW.PrintWords
set_option linter.unusedVariables false
set_option linter.unusedSimpArgs false
theorem eq_st {x : StT} : stEq x x = true := stEq_iff.2 rfl
end Go.Proofs.YtcmepdamemnbkaaDoor
namespace Go.Proofs.YtcmepdamemnbkaaDoor
open Go.RowKit Go.Proofs.YtcmepdamemnbkaaDoorW.PrintWords
set_option linter.unusedVariables false
set_option linter.unusedSimpArgs false
set_option maxRecDepth 8192 in
set_option maxHeartbeats 64000000 in
theorem trustBalance_law (A C : Option Addr) (c c2 : Nat) (r : List RecT) (m : List MovT) (tn : Int) (w : World) (hr : Kd.C recK w A r.length r) (hm : Kd.C movK w C m.length m) (hcap : m.length ≤ c2) (hk : Bytes r) (hkm : BytesM m) (htn : 0 ≤ tn ∧ tn ≤ 255) (hglob : GlobOK w) :
    Calls Tryd.prog 10 #[.slice A r.length c, .slice C m.length c2, .int .u8 tn] w fun e w' => e = .returned (.bool true) ∧ Below w.heap.size w w' := by
  have hrn := hr.2.1
  refine x_calls (X := XNone) Tryd.func10 rfl rfl rfl ?_
  with_reducible repeat refine xc_seq ?_
  with_reducible refine xc_region ?_
  refine xo_asg rfl rfl rfl ?_
  with_reducible refine xo_nil ?_
  with_reducible repeat (first | refine xq_then ?_ | refine xq_blockN ?_ | refine xq_scopeN ?_)
  with_reducible repeat refine xc_seq ?_
  with_reducible refine xc_region ?_
  refine xo_callB (fs := []) (cs := []) rfl rfl rfl alive_enters rfl (fun w1 hw1 => alive_calls w1 (hglob.below hw1.kx.below)) ?_
  refine xo_asg rfl rfl rfl ?_
  with_reducible refine xo_nil ?_
  with_reducible repeat (first | refine xq_then ?_ | refine xq_blockN ?_ | refine xq_scopeN ?_)
  with_reducible refine xc_seq ?_
  refine xc_cut (γ := Bool) (fun g => g = false → Small r ∧ m.length ≤ 60 ∧ recordedF r = true ∧ countF r m = true) (fun g => [(0, .slice A r.length c), (1, .slice C m.length c2), (2, .int .u8 tn), (7, .bool true), (31, .bool g)]) (fun _ => []) ?_ (fun g hg => ?_)
  · with_reducible repeat refine xc_seq ?_
    with_reducible refine xc_region ?_
    refine xo_mv rfl rfl rfl ?_
    refine xo_mv rfl rfl rfl ?_
    refine xo_call (fs := []) (cs := []) rfl rfl rfl ledger_enters rfl (fun w1 hw1 => (ledger_calls A C c c2 r m w1 (Kd.C_below hr hw1.kx.below) (Kd.C_below hm hw1.kx.below) hk hkm).mono ?_)
    rintro e w2 ⟨b, rfl, hb, hrd⟩
    refine ⟨_, _, rfl, hw1.below hb, ?_⟩
    clear hb hw1
    cases b
    · refine xo_notOp rfl rfl rfl ?_
      refine xo_mv rfl rfl rfl ?_
      first
        | refine xo_not rfl rfl ?_
        | (refine xo_mv rfl rfl rfl ?_)
      first
        | refine xo_not rfl rfl ?_
        | (refine xo_notOp rfl rfl rfl ?_)
      first | refine xo_pickT rfl rfl rfl rfl ?_ | refine xo_pickF rfl rfl rfl rfl ?_
      with_reducible refine xo_nil ?_
      with_reducible repeat (first | refine xq_then ?_ | refine xq_blockN ?_ | refine xq_scopeN ?_)
      exact xq_meet _ _ _ true (fun h => by cases h) ⟨rfl, rfl, rfl, rfl, rfl, trivial⟩ (List.nil_sublist _)
    · refine xo_notOp rfl rfl rfl ?_
      refine xo_mv rfl rfl rfl ?_
      first
        | refine xo_not rfl rfl ?_
        | (refine xo_mv rfl rfl rfl ?_)
      first
        | refine xo_not rfl rfl ?_
        | (refine xo_notOp rfl rfl rfl ?_)
      first | refine xo_pickT rfl rfl rfl rfl ?_ | refine xo_pickF rfl rfl rfl rfl ?_
      with_reducible refine xo_nil ?_
      with_reducible repeat (first | refine xq_then ?_ | refine xq_blockN ?_ | refine xq_scopeN ?_)
      exact xq_meet _ _ _ false (fun _ => hrd rfl) ⟨rfl, rfl, rfl, rfl, rfl, trivial⟩ (List.nil_sublist _)
  with_reducible repeat refine xc_seq ?_
  refine xc_cond rfl (fun hg1 => ?_) (fun hg1 => ?_)
  · with_reducible repeat refine xc_seq ?_
    with_reducible refine xc_region ?_
    refine xo_mv rfl rfl rfl ?_
    refine xo_asg rfl rfl rfl ?_
    with_reducible refine xo_nil ?_
    with_reducible repeat (first | refine xq_then ?_ | refine xq_blockN ?_ | refine xq_scopeN ?_)
    with_reducible repeat refine xc_seq ?_
    with_reducible refine xc_ret ?_
    with_reducible repeat (first | refine xq_thenR ?_ | refine xq_blockR ?_ | refine xq_scopeR ?_)
    exact xq_ret1 rfl rfl fun w' hw => ⟨rfl, hw.kx.below⟩
  obtain ⟨hsm, hm60, hok, hcf⟩ := hg hg1
  clear hg
  have hs := sorted_of hok
  have hlen := recorded_len hok
  with_reducible refine xc_skip ?_
  with_reducible repeat (first | refine xq_then ?_ | refine xq_blockN ?_ | refine xq_scopeN ?_)
  with_reducible repeat refine xc_seq ?_
  with_reducible refine xc_region ?_
  refine xo_bs0 T_ 4 rfl rfl rfl rfl (fun b0 => ?_)
  refine xo_mv rfl rfl rfl ?_
  refine xo_cpy movV (fun _ => rfl) mov_one m TR_ rfl rfl rfl rfl rfl rfl rfl rfl (fun e => C_none hm e) (fun p e w1 hw1 j u hj => by subst e; exact hw1.kx.cell (mov_news hm j u hj) (fun h => h)) (by omega) rfl rfl (fun b3 cap3 => ?_)
  refine xo_asg rfl rfl rfl ?_
  with_reducible refine xo_nil ?_
  with_reducible repeat (first | refine xq_then ?_ | refine xq_blockN ?_ | refine xq_scopeN ?_)
  refine xc_cut (γ := List MovT × Nat × Nat) (fun q => (∀ id, piecesR r q.1 id = piecesR r m id ∧ piecesC r q.1 id = piecesC r m id) ∧ q.1.length ≤ 60 ∧ BytesM q.1) (fun q => [(0, .slice A r.length c), (1, .slice C m.length c2), (7, .bool true), (8, .slice (some ⟨q.2.1, 0, none⟩) q.1.length q.2.2)]) (fun q => [(q.2.1, true, orow 54 4 q.1.length q.2.2 (q.1.map movV).flatten)]) ?_ (fun q hq => ?_)
  · with_reducible repeat refine xc_seq ?_
    with_reducible refine xc_region ?_
    refine xo_mv rfl rfl rfl ?_
    refine xo_len T_ rfl rfl rfl rfl ?_
    refine xo_gtr rfl rfl rfl rfl ?_
    with_reducible refine xo_nil ?_
    with_reducible repeat (first | refine xq_then ?_ | refine xq_blockN ?_ | refine xq_scopeN ?_)
    with_reducible repeat refine xc_seq ?_
    refine xc_cond rfl (fun h0 => ?_) (fun h0 => ?_)
    rotate_left
    · with_reducible refine xc_skip ?_
      with_reducible repeat (first | refine xq_then ?_ | refine xq_blockN ?_ | refine xq_scopeN ?_)
      exact xq_meet _ _ _ (m, b3, cap3) ⟨fun _ => ⟨rfl, rfl⟩, hm60, hkm⟩ ⟨rfl, rfl, rfl, rfl, trivial⟩ (by repeat (first | exact List.Sublist.refl _ | apply List.Sublist.cons_cons | apply List.Sublist.cons | exact List.nil_sublist _))
    have h0 : m.length ≠ 0 := by have := of_decide_eq_true h0; omega
    have hm1 := Int.emod_nonneg tn (b := (m.length : Int)) (by omega)
    have hm2 := Int.emod_lt_of_pos tn (b := (m.length : Int)) (by omega)
    obtain ⟨bd, hbd, _⟩ := mov_at hm 0 (by omega)
    subst hbd
    with_reducible repeat refine xc_seq ?_
    with_reducible refine xc_region ?_
    refine xo_mv rfl rfl rfl ?_
    refine xo_conv T_ rfl rfl rfl rfl (IntWalk.i64_in _ ⟨by omega, by omega⟩) rfl ?_
    refine xo_mv rfl rfl rfl ?_
    refine xo_len T_ rfl rfl rfl rfl ?_
    refine xo_rem rfl rfl rfl (by omega) (by omega) rfl ?_
    refine xo_asg rfl rfl rfl ?_
    with_reducible refine xo_nil ?_
    with_reducible repeat (first | refine xq_then ?_ | refine xq_blockN ?_ | refine xq_scopeN ?_)
    with_reducible repeat refine xc_seq ?_
    refine xc_slots [(0, .slice A r.length c), (1, .slice (some bd) m.length c2), (2, .int .u8 tn), (7, .bool true), (9, .int .i64 (tn % (m.length : Int)))] ⟨rfl, rfl, rfl, rfl, rfl, trivial⟩ ?_
    refine xc_sub (η' := []) (List.nil_sublist _) ?_
    generalize tn % (m.length : Int) = ki at *
    obtain ⟨kk, rfl⟩ : ∃ kk : Nat, ki = (kk : Int) := ⟨ki.toNat, by omega⟩
    have hkk : kk < m.length := by omega
    have hdl : (m.drop kk).length = m.length - kk := List.length_drop
    have htl : (m.take kk).length = kk := by rw [List.length_take]; omega
    have hRl := rotL_len m kk (by omega)
    with_reducible repeat refine xc_seq ?_
    apply xc_drawE (fun g => [(0, .slice (some ⟨(g.getD 0 gv0).b, 0, none⟩) 0 0), (4, .slice (some ⟨(g.getD 1 gv0).b, 0, none⟩) (m.drop kk).length (g.getD 1 gv0).c), (8, .slice (some ⟨(g.getD 2 gv0).b, 0, none⟩) (rotL m kk).length (g.getD 2 gv0).c), (9, .slice (some ⟨(g.getD 2 gv0).b, 0, none⟩) (rotL m kk).length (g.getD 2 gv0).c)]) (fun (η0 : Hp) g => match g with | [] => (η0) | a0 :: [] => ((a0.b, true, orow 54 4 0 0 []) :: η0) | a0 :: a1 :: [] => ((a1.b, true, orow 54 4 (m.drop kk).length a1.c ((m.drop kk).map movV).flatten) :: η0) | a0 :: a1 :: a2 :: _ => ((a2.b, true, orow 54 4 (rotL m kk).length a2.c ((rotL m kk).map movV).flatten) :: η0)) (fun _ => True) [1, 0, 0, 0, 2, 0, 0, 0, 3, 3] [0, 4, 8] [[], [0, 3], [4, 7, 4]] (by trivial)
    apply SameLen.cons (c := undef)
    apply SameLen.cons
    apply SameLen.cons
    apply SameLen.cons
    apply SameLen.cons (c := undef)
    apply SameLen.cons
    apply SameLen.cons
    apply SameLen.cons
    apply SameLen.cons (c := undef)
    apply SameLen.cons (c := undef)
    exact SameLen.nil
    rotate_left 6
    case hH0 => rfl
    case hmix => exact T_.mixed
    case hbind => rfl
    case hdeps => rfl
    case hdist => rfl
    case hfresh => rfl
    case hE => rfl
    case hEn => decide
    · refine DrawE.eff 0 rfl (by decide) rfl (fun j hj => hj) (fun j g a hj => ?_) (fun L g hg hd => Nat.zero_le _) (fun g hgl hF τ => ?_) ?_
      · rcases j with _ | _ | _ | _ | _ | _ | _ | _ | _ | _ | j
        all_goals first | rfl | (rcases g with _ | ⟨a0, _ | ⟨a1, _ | ⟨a2, _ | ⟨a3, g⟩⟩⟩⟩ <;> first | rfl | exact absurd hj (by decide) | exact absurd hj (by simp [List.getD]))
      · obtain rfl : g = [] := by
          rcases g with _ | ⟨a0, g⟩ <;> first | rfl | (exfalso; simp only [List.length_cons, List.length_nil] at hgl; omega)
        refine xo_bs0 T_ 4 rfl rfl rfl rfl (fun b => ?_)
        exact xo_finE ⟨b, 0, none⟩ rfl trivial
      refine DrawE.pure 0 3 rfl (.inl rfl) (fun L g hg hd => Nat.zero_le _) (fun g hlo hhi hF τ => ?_) ?_
      · rcases g with _ | ⟨a0, _ | ⟨a1, _ | ⟨a2, _ | ⟨a3, g⟩⟩⟩⟩
        all_goals first
          | (exfalso; simp only [List.length_cons, List.length_nil] at hlo hhi; omega)
          | (refine ⟨_, rfl, ?_⟩
             refine xo_mv rfl rfl rfl ?_
             exact xo_fin rfl)
      refine DrawE.pure 0 3 rfl (.inl rfl) (fun L g hg hd => Nat.zero_le _) (fun g hlo hhi hF τ => ?_) ?_
      · rcases g with _ | ⟨a0, _ | ⟨a1, _ | ⟨a2, _ | ⟨a3, g⟩⟩⟩⟩
        all_goals first
          | (exfalso; simp only [List.length_cons, List.length_nil] at hlo hhi; omega)
          | (refine ⟨_, rfl, ?_⟩
             refine xo_mv rfl rfl rfl ?_
             exact xo_fin rfl)
      refine DrawE.pure 0 1 rfl (.inr (by decide)) (fun L g hg hd => Nat.zero_le _) (fun g hlo hhi hF τ => ?_) ?_
      · rcases g with _ | ⟨a0, _ | ⟨a1, _ | ⟨a2, _ | ⟨a3, g⟩⟩⟩⟩
        all_goals first
          | (exfalso; simp only [List.length_cons, List.length_nil] at hlo hhi; omega)
          | (refine ⟨_, rfl, ?_⟩
             refine xo_sliceLoA T_ (m := m.length) (i := kk) rfl rfl rfl rfl rfl (by omega) (by omega) rfl ?_
             rw [← hdl]
             exact xo_fin rfl)
      refine DrawE.eff 1 rfl (by decide) rfl (fun j hj => hj) (fun j g a hj => ?_) (fun L g hg hd => hg.2.1 0 (hd 0 (by decide))) (fun g hgl hF τ => ?_) ?_
      · rcases j with _ | _ | _ | _ | _ | _ | _ | _ | _ | _ | j
        all_goals first | rfl | (rcases g with _ | ⟨a0, _ | ⟨a1, _ | ⟨a2, _ | ⟨a3, g⟩⟩⟩⟩ <;> first | rfl | exact absurd hj (by decide) | exact absurd hj (by simp [List.getD]))
      · obtain ⟨a0, rfl⟩ : ∃ a0, g = [a0] := by
          rcases g with _ | ⟨a0, _ | ⟨a1, _ | ⟨a2, _ | ⟨a3, g⟩⟩⟩⟩ <;> first | exact ⟨_, rfl⟩ | rfl | (exfalso; simp only [List.length_cons, List.length_nil] at hgl; omega)
        refine xo_cpy movV (fun _ => rfl) mov_one (m.drop kk) TR_ rfl rfl rfl rfl rfl rfl rfl rfl (fun e => by cases e) (fun p e w1 hw1 j u hj => by cases e; exact hw1.kx.cell (cells_drop (f := movV) (sz := 4) (fun _ => rfl) (mov_news hm) kk j u hj) (fun h => h)) (by omega) rfl rfl (fun b cap => ?_)
        exact xo_finE ⟨b, cap, none⟩ rfl trivial
      refine DrawE.pure 0 3 rfl (.inl rfl) (fun L g hg hd => Nat.zero_le _) (fun g hlo hhi hF τ => ?_) ?_
      · rcases g with _ | ⟨a0, _ | ⟨a1, _ | ⟨a2, _ | ⟨a3, g⟩⟩⟩⟩
        all_goals first
          | (exfalso; simp only [List.length_cons, List.length_nil] at hlo hhi; omega)
          | (refine ⟨_, rfl, ?_⟩
             refine xo_mv rfl rfl rfl ?_
             exact xo_fin rfl)
      refine DrawE.pure 0 3 rfl (.inl rfl) (fun L g hg hd => Nat.zero_le _) (fun g hlo hhi hF τ => ?_) ?_
      · rcases g with _ | ⟨a0, _ | ⟨a1, _ | ⟨a2, _ | ⟨a3, g⟩⟩⟩⟩
        all_goals first
          | (exfalso; simp only [List.length_cons, List.length_nil] at hlo hhi; omega)
          | (refine ⟨_, rfl, ?_⟩
             refine xo_mv rfl rfl rfl ?_
             exact xo_fin rfl)
      refine DrawE.pure 0 2 rfl (.inr (by decide)) (fun L g hg hd => Nat.zero_le _) (fun g hlo hhi hF τ => ?_) ?_
      · rcases g with _ | ⟨a0, _ | ⟨a1, _ | ⟨a2, _ | ⟨a3, g⟩⟩⟩⟩
        all_goals first
          | (exfalso; simp only [List.length_cons, List.length_nil] at hlo hhi; omega)
          | (refine ⟨_, rfl, ?_⟩
             refine xo_sliceHiA T_ (i := (m.take kk).length) rfl rfl rfl rfl (by rw [htl]; rfl) (by omega) rfl ?_
             exact xo_fin rfl)
      refine DrawE.eff 2 rfl (by decide) rfl (fun j hj => hj) (fun j g a hj => ?_) (fun L g hg hd => hg.2.1 4 (hd 4 (by decide))) (fun g hgl hF τ => ?_) ?_
      · rcases j with _ | _ | _ | _ | _ | _ | _ | _ | _ | _ | j
        all_goals first | rfl | (rcases g with _ | ⟨a0, _ | ⟨a1, _ | ⟨a2, _ | ⟨a3, g⟩⟩⟩⟩ <;> first | rfl | exact absurd hj (by decide) | exact absurd hj (by simp [List.getD]))
      · obtain ⟨a0, a1, rfl⟩ : ∃ a0 a1, g = [a0, a1] := by
          rcases g with _ | ⟨a0, _ | ⟨a1, _ | ⟨a2, _ | ⟨a3, g⟩⟩⟩⟩ <;> first | exact ⟨_, _, rfl⟩ | rfl | (exfalso; simp only [List.length_cons, List.length_nil] at hgl; omega)
        refine xo_cat movV (fun _ => rfl) mov_one (m.drop kk) (m.take kk) TR_ rfl rfl rfl rfl rfl rfl rfl rfl (fun e => by cases e) (fun p e w1 hw1 j u hj => by cases e; exact hw1.kx.cell (cells_take (f := movV) (sz := 4) (fun _ => rfl) (mov_news hm) kk j u hj) (fun h => h)) (by omega) rfl rfl (fun b cap => ?_)
        exact xo_finE ⟨b, cap, none⟩ rfl trivial
      refine DrawE.pure 3 3 rfl (.inl rfl) (fun L g hg hd => hg.2.1 8 (hd 8 (by decide))) (fun g hlo hhi hF τ => ?_) ?_
      · rcases g with _ | ⟨a0, _ | ⟨a1, _ | ⟨a2, _ | ⟨a3, g⟩⟩⟩⟩
        all_goals first
          | (exfalso; simp only [List.length_cons, List.length_nil] at hlo hhi; omega)
          | (refine ⟨_, rfl, ?_⟩
             refine xo_asg rfl rfl rfl ?_
             exact xo_fin rfl)
      exact DrawE.nil
    intro g hgl hF
    obtain ⟨a0, a1, a2, rfl⟩ : ∃ a0 a1 a2, g = [a0, a1, a2] := by
      rcases g with _ | ⟨a0, _ | ⟨a1, _ | ⟨a2, _ | ⟨a3, g⟩⟩⟩⟩ <;> first | exact ⟨_, _, _, rfl⟩ | (exfalso; simp only [List.length_cons, List.length_nil] at hgl; omega)
    with_reducible repeat (first | refine xq_then ?_ | refine xq_blockN ?_ | refine xq_scopeN ?_)
    with_reducible repeat refine xc_seq ?_
    refine xc_slots [(0, .slice A r.length c), (1, .slice (some bd) m.length c2), (2, .int .u8 tn), (7, .bool true), (8, .slice (some ⟨a2.b, 0, none⟩) (rotL m kk).length a2.c)] ⟨rfl, rfl, rfl, rfl, rfl, trivial⟩ ?_
    have hturn : turnM m kk tn = numM tn 0 (rotL m kk) := rfl
    generalize hR : rotL m kk = R at *
    obtain ⟨bR, capR, rrR⟩ := a2
    simp only
    with_reducible repeat refine xc_seq ?_
    with_reducible refine xc_region ?_
    refine xo_mv rfl rfl rfl ?_
    refine xo_len T_ rfl rfl rfl rfl ?_
    refine xo_mv rfl rfl rfl ?_
    with_reducible refine xo_nil ?_
    with_reducible repeat (first | refine xq_then ?_ | refine xq_blockN ?_ | refine xq_scopeN ?_)
    with_reducible repeat refine xc_seq ?_
    with_reducible refine xc_block ?_
    refine xc_loop (γ := Nat) (fun j => j ≤ R.length) (fun j => [(0, .slice A r.length c), (1, .slice (some bd) m.length c2), (2, .int .u8 tn), (7, .bool true), (8, .slice (some ⟨bR, 0, none⟩) R.length capR), (53, .slice (some ⟨bR, 0, none⟩) R.length capR), (54, .int .i64 (R.length : Int)), (55, .int .i64 (j : Int))]) (fun j => [(bR, true, orow 54 4 R.length capR ((partM1 tn R j).map movV).flatten)]) (fun j => R.length - j) 0 (Nat.zero_le _) ⟨rfl, rfl, rfl, rfl, rfl, rfl, rfl, rfl, trivial⟩ (by rw [partM1_zero]; exact (by repeat (first | exact List.Sublist.refl _ | apply List.Sublist.cons_cons | apply List.Sublist.cons | exact List.nil_sublist _))) ?_
    intro j hj1
    with_reducible repeat refine xc_seq ?_
    with_reducible refine xc_region ?_
    refine xo_lss rfl rfl rfl rfl ?_
    with_reducible refine xo_nil ?_
    with_reducible repeat (first | refine xq_then ?_ | refine xq_blockN ?_ | refine xq_scopeN ?_)
    with_reducible repeat refine xc_seq ?_
    refine xc_cond rfl (fun h => ?_) (fun h => ?_)
    · have hjlt : j < R.length := by have := of_decide_eq_true h; omega
      have hstep := partM1_step tn R hjlt
      with_reducible refine xc_skip ?_
      with_reducible repeat (first | refine xq_then ?_ | refine xq_blockN ?_ | refine xq_scopeN ?_)
      with_reducible repeat refine xc_seq ?_
      with_reducible refine xc_block ?_
      with_reducible repeat refine xc_seq ?_
      with_reducible refine xc_region ?_
      refine xo_mv rfl rfl rfl ?_
      refine xo_asg rfl rfl rfl ?_
      with_reducible refine xo_nil ?_
      with_reducible repeat (first | refine xq_then ?_ | refine xq_blockN ?_ | refine xq_scopeN ?_)
      with_reducible repeat refine xc_seq ?_
      with_reducible refine xc_region ?_
      refine xo_mv rfl rfl rfl ?_
      refine xo_mv rfl rfl rfl ?_
      refine xo_mv rfl rfl rfl ?_
      refine xo_mul rfl rfl rfl (by omega) rfl ?_
      refine xo_mv rfl rfl rfl ?_
      refine xo_conv T_ rfl rfl rfl rfl (IntWalk.i64_in _ ⟨by omega, by omega⟩) rfl ?_
      refine xo_add rfl rfl rfl (by omega) rfl ?_
      refine xo_ia T_ rfl rfl rfl rfl rfl ⟨by omega, by omega⟩ rfl ?_
      refine xo_faR T_ rfl rfl rfl rfl rfl ?_
      refine xo_storeZ T_ (k := j * 4 + 0) (η' := [(bR, true, orow 54 4 R.length capR ((partM1 tn R (j + 1)).map movV).flatten)]) rfl rfl rfl (ad4 _ _ _) rfl (by repeat (first | exact List.Mem.head _ | apply List.Mem.tail | apply List.mem_append_right)) rfl rfl (by omega) (by rw [hstep]; exact (by repeat (first | exact Upd.head | apply Upd.tail | apply Upd.app))) rfl ?_
      with_reducible refine xo_nil ?_
      with_reducible repeat (first | refine xq_then ?_ | refine xq_blockN ?_ | refine xq_scopeN ?_)
      with_reducible repeat refine xc_seq ?_
      with_reducible refine xc_region ?_
      refine xo_add rfl rfl rfl (by omega) rfl ?_
      refine xo_mv rfl rfl rfl ?_
      with_reducible refine xo_nil ?_
      with_reducible repeat (first | refine xq_then ?_ | refine xq_blockN ?_ | refine xq_scopeN ?_)
      exact xq_again _ _ _ _ _ (j + 1) hjlt (by omega) ⟨rfl, rfl, rfl, rfl, rfl, rfl, rfl, rfl, trivial⟩ (by repeat (first | exact List.Sublist.refl _ | apply List.Sublist.cons_cons | apply List.Sublist.cons | exact List.nil_sublist _))
    have hjge : ¬ j < R.length := by have := of_decide_eq_false h; omega
    obtain rfl : j = R.length := by omega
    with_reducible refine xc_exit ?_
    with_reducible repeat (first | refine xq_blockX ?_ | refine xq_thenE ?_ | refine xq_blockE rfl ?_ | refine xq_scopeE ?_)
    with_reducible repeat (first | refine xq_then ?_ | refine xq_blockN ?_ | refine xq_scopeN ?_)
    have hkl' : kk ≤ m.length := by omega
    have hTl : (numM tn 0 R).length ≤ 60 := by rw [numM_len]; omega
    rw [partM1_full, ← numM_len tn R 0]
    generalize numM tn 0 R = TM at *
    subst hturn
    refine xq_meet _ _ _ (turnM m kk tn, bR, capR) ⟨fun id => turnM_pieces hcf hkl' htn id, hTl, turnM_bytes hkm⟩ ⟨rfl, rfl, rfl, rfl, trivial⟩ (by repeat (first | exact List.Sublist.refl _ | apply List.Sublist.cons_cons | apply List.Sublist.cons | exact List.nil_sublist _))
  obtain ⟨TM, bT, capT⟩ := q
  obtain ⟨hTM, hT60, hTby⟩ := hq
  simp only at hTM hT60 hTby ⊢
  with_reducible repeat refine xc_seq ?_
  with_reducible refine xc_region ?_
  refine xo_mv rfl rfl rfl ?_
  refine xo_len T_ rfl rfl rfl rfl ?_
  refine xo_mv rfl rfl rfl ?_
  with_reducible refine xo_nil ?_
  with_reducible repeat (first | refine xq_then ?_ | refine xq_blockN ?_ | refine xq_scopeN ?_)
  with_reducible repeat refine xc_seq ?_
  with_reducible refine xc_block ?_
  refine xc_loop (γ := Nat) (fun k => k ≤ r.length) (fun k => [(0, .slice A r.length c), (1, .slice C m.length c2), (7, .bool true), (8, .slice (some ⟨bT, 0, none⟩) TM.length capT), (68, .slice A r.length c), (69, .int .i64 (r.length : Int)), (70, .int .i64 (k : Int))]) (fun _ => [(bT, true, orow 54 4 TM.length capT (TM.map movV).flatten)]) (fun k => r.length - k) 0 (Nat.zero_le _) ⟨rfl, rfl, rfl, rfl, rfl, rfl, rfl, trivial⟩ (by repeat (first | exact List.Sublist.refl _ | apply List.Sublist.cons_cons | apply List.Sublist.cons | exact List.nil_sublist _)) ?_
  intro k hk1
  with_reducible repeat refine xc_seq ?_
  with_reducible refine xc_region ?_
  refine xo_lss rfl rfl rfl rfl ?_
  with_reducible refine xo_nil ?_
  with_reducible repeat (first | refine xq_then ?_ | refine xq_blockN ?_ | refine xq_scopeN ?_)
  with_reducible repeat refine xc_seq ?_
  refine xc_cond rfl (fun h => ?_) (fun h => ?_)
  rotate_left
  · with_reducible refine xc_exit ?_
    with_reducible repeat (first | refine xq_blockX ?_ | refine xq_thenE ?_ | refine xq_blockE rfl ?_ | refine xq_scopeE ?_)
    with_reducible repeat (first | refine xq_then ?_ | refine xq_blockN ?_ | refine xq_scopeN ?_)
    with_reducible repeat refine xc_seq ?_
    with_reducible refine xc_region ?_
    refine xo_mv rfl rfl rfl ?_
    refine xo_asg rfl rfl rfl ?_
    with_reducible refine xo_nil ?_
    with_reducible repeat (first | refine xq_then ?_ | refine xq_blockN ?_ | refine xq_scopeN ?_)
    with_reducible repeat refine xc_seq ?_
    with_reducible refine xc_ret ?_
    with_reducible repeat (first | refine xq_thenR ?_ | refine xq_blockR ?_ | refine xq_scopeR ?_)
    exact xq_ret1 rfl rfl fun w' hw => ⟨rfl, hw.kx.below⟩
  have hlt : k < r.length := by have := of_decide_eq_true h; omega
  obtain ⟨ad0, A3, c3, rfl, r2, hc3, hw3⟩ := rec_at hr k hlt
  have hkid : idAt r k = (r.getD k zRec).f0 := rfl
  have hxid : knownF r (r.getD k zRec).f0 = true := knownF_iff.2 ⟨k, hlt, rfl⟩
  have hself := comes_self hs hlt
  generalize r.getD k zRec = x at *
  rw [hkid] at hself
  obtain ⟨hp0, hpS, hpB, hpl, hpb⟩ := pieces_law hok hcf hxid
  obtain ⟨ht1, ht2⟩ := hTM x.f0
  rw [hp0] at ht2
  have hCin : ∀ n, n ∈ comesF r x.f0 → n ∈ idsL r := fun n hn => by
    obtain ⟨i, hi, e, _⟩ := (cmF_mem x.f0 r.length (Nat.le_refl _) n).1 (by rw [cmF, List.take_length]; exact hn)
    exact idsL_mem.2 ⟨i, hi, e⟩
  have hsB := sum_B hcf hlen (comesF r x.f0) m.length
  rw [List.take_length, ← hpS] at hsB
  have hself2 : (decide (x.f0 ∈ comesF r x.f0) != decide (x.f1 = 3)) = false := by rw [hself]; simp
  have hst := fun k (hk : k < m.length) => sumL_take (C := comesF r x.f0) hs hk (moves_in hcf hk)
  have hSB := fun k => sum_B hcf hlen (comesF r x.f0) k
  have hcm := fun (w : World) (hw : Kd.C recK w (some ad0) r.length r) => comes_calls (some ad0) c r x.f0 w hw hok
  generalize comesF r x.f0 = Cm at *
  generalize hs0 : piecesR r m x.f0 = s at *
  unfold StB at hsB
  unfold BalS at hpB
  have h00 : (!decide ((0 : Int) = 0)) = false := rfl
  have hss : (!stEq s s) = false := by rw [eq_st]; rfl
  have hl0 : decide (s.l < 0) = false := decide_eq_false (by omega)
  have hbal : (!decide (s.a + s.b = s.c + s.d + s.e + s.l)) = false := by rw [decide_eq_true hpB]; rfl
  have hdb : decide (s.d < s.b) = false := decide_eq_false (by omega)
  with_reducible refine xc_skip ?_
  with_reducible repeat (first | refine xq_then ?_ | refine xq_blockN ?_ | refine xq_scopeN ?_)
  with_reducible repeat refine xc_seq ?_
  with_reducible refine xc_block ?_
  with_reducible repeat refine xc_seq ?_
  with_reducible refine xc_region ?_
  refine xo_ia T_ rfl rfl rfl rfl rfl ⟨by omega, by omega⟩ rfl ?_
  refine xo_loadRN T_ rfl rfl rfl (by assumption) rfl rfl ?_
  refine xo_alloc T_ rfl rfl rfl rfl (fun b12 => ?_)
  refine xo_store T_ rfl rfl rfl rfl (by repeat (first | exact List.Mem.head _ | apply List.Mem.tail | apply List.mem_append_right)) rfl rfl rfl rfl (by repeat (first | exact Upd.head | apply Upd.tail | apply Upd.app)) rfl ?_
  with_reducible refine xo_nil ?_
  with_reducible repeat (first | refine xq_then ?_ | refine xq_blockN ?_ | refine xq_scopeN ?_)
  with_reducible repeat refine xc_seq ?_
  with_reducible refine xc_region ?_
  refine xo_mv rfl rfl rfl ?_
  refine xo_mv rfl rfl rfl ?_
  refine xo_fa T_ rfl rfl rfl rfl rfl ?_
  refine xo_load0 T_ rfl rfl rfl (by repeat (first | exact List.Mem.head _ | apply List.Mem.tail | apply List.mem_append_right)) rfl rfl ?_
  refine xo_callB (fs := []) (cs := []) rfl rfl rfl pieces_enters rfl (fun w1 hw1 => pieces_calls (some ad0) C c c2 r m x.f0 w1 (Kd.C_below hr hw1.kx.below) (Kd.C_below hm hw1.kx.below) hk hkm (hglob.below hw1.kx.below)) ?_
  rw [hs0, hp0]
  refine xo_mv rfl rfl rfl ?_
  refine xo_ext rfl rfl rfl rfl ?_
  refine xo_ext rfl rfl rfl rfl ?_
  refine xo_alloc T_ rfl rfl rfl rfl (fun b13 => ?_)
  refine xo_store T_ rfl rfl rfl rfl (by repeat (first | exact List.Mem.head _ | apply List.Mem.tail | apply List.mem_append_right)) rfl rfl rfl rfl (by repeat (first | exact Upd.head | apply Upd.tail | apply Upd.app)) rfl ?_
  refine xo_asg rfl rfl rfl ?_
  with_reducible refine xo_nil ?_
  with_reducible repeat (first | refine xq_then ?_ | refine xq_blockN ?_ | refine xq_scopeN ?_)
  with_reducible repeat refine xc_seq ?_
  with_reducible refine xc_region ?_
  refine xo_mv rfl rfl rfl ?_
  refine xo_mv rfl rfl rfl ?_
  refine xo_fa T_ rfl rfl rfl rfl rfl ?_
  refine xo_load0 T_ rfl rfl rfl (by repeat (first | exact List.Mem.head _ | apply List.Mem.tail | apply List.mem_append_right)) rfl rfl ?_
  refine xo_callB (fs := []) (cs := []) rfl rfl rfl pieces_enters rfl (fun w1 hw1 => pieces_calls (some ad0) (some ⟨bT, 0, none⟩) c capT r TM x.f0 w1 (Kd.C_below hr hw1.kx.below) (mov_read hw1 (by repeat (first | exact List.Mem.head _ | exact List.mem_append_left _ (List.Mem.head _) | apply List.mem_append_right | apply List.Mem.tail)) (by omega)) hk hTby (hglob.below hw1.kx.below)) ?_
  rw [ht1, ht2]
  refine xo_mv rfl rfl rfl ?_
  refine xo_ext rfl rfl rfl rfl ?_
  refine xo_ext rfl rfl rfl rfl ?_
  refine xo_alloc T_ rfl rfl rfl rfl (fun b15 => ?_)
  refine xo_store T_ rfl rfl rfl rfl (by repeat (first | exact List.Mem.head _ | apply List.Mem.tail | apply List.mem_append_right)) rfl rfl rfl rfl (by repeat (first | exact Upd.head | apply Upd.tail | apply Upd.app)) rfl ?_
  refine xo_asg rfl rfl rfl ?_
  with_reducible refine xo_nil ?_
  with_reducible repeat (first | refine xq_then ?_ | refine xq_blockN ?_ | refine xq_scopeN ?_)
  with_reducible repeat refine xc_seq ?_
  with_reducible refine xc_region ?_
  refine xo_mv rfl rfl rfl ?_
  refine xo_neq rfl rfl rfl rfl ?_
  refine xo_as (i := 91) rfl (congrArg Value.bool h00) ?_
  refine xo_mv rfl rfl rfl ?_
  first
    | refine xo_not rfl rfl ?_
    | (refine xo_mv rfl rfl rfl ?_)
  first
    | refine xo_not rfl rfl ?_
    | (refine xo_neq rfl rfl rfl rfl ?_)
  refine xo_as (i := 94) rfl (congrArg Value.bool h00) ?_
  first | refine xo_pickT rfl rfl rfl rfl ?_ | refine xo_pickF rfl rfl rfl rfl ?_
  refine xo_mv rfl rfl rfl ?_
  first
    | refine xo_not rfl rfl ?_
    | (refine xo_loadN T_ rfl rfl rfl (by repeat (first | exact List.Mem.head _ | apply List.Mem.tail | apply List.mem_append_right)) rfl rfl ?_)
  first
    | refine xo_not rfl rfl ?_
    | (refine xo_loadN T_ rfl rfl rfl (by repeat (first | exact List.Mem.head _ | apply List.Mem.tail | apply List.mem_append_right)) rfl rfl ?_)
  first
    | refine xo_not rfl rfl ?_
    | (refine xo_neqSt (a := s) (b := s) rfl rfl rfl rfl ?_)
  refine xo_as (i := 99) rfl (congrArg Value.bool hss) ?_
  first | refine xo_pickT rfl rfl rfl rfl ?_ | refine xo_pickF rfl rfl rfl rfl ?_
  refine xo_mv rfl rfl rfl ?_
  first
    | refine xo_not rfl rfl ?_
    | (refine xo_fa T_ rfl rfl rfl rfl rfl ?_)
  first
    | refine xo_not rfl rfl ?_
    | (refine xo_load0 T_ rfl rfl rfl (by repeat (first | exact List.Mem.head _ | apply List.Mem.tail | apply List.mem_append_right)) rfl rfl ?_)
  first
    | refine xo_not rfl rfl ?_
    | (refine xo_lss rfl rfl rfl rfl ?_)
  refine xo_as (i := 104) rfl (congrArg Value.bool hl0) ?_
  first | refine xo_pickT rfl rfl rfl rfl ?_ | refine xo_pickF rfl rfl rfl rfl ?_
  refine xo_mv rfl rfl rfl ?_
  first
    | refine xo_not rfl rfl ?_
    | (refine xo_fa T_ rfl rfl rfl rfl rfl ?_)
  first
    | refine xo_not rfl rfl ?_
    | (refine xo_load0 T_ rfl rfl rfl (by repeat (first | exact List.Mem.head _ | apply List.Mem.tail | apply List.mem_append_right)) rfl rfl ?_)
  first
    | refine xo_not rfl rfl ?_
    | (refine xo_fa T_ rfl rfl rfl rfl rfl ?_)
  first
    | refine xo_not rfl rfl ?_
    | (refine xo_load0 T_ rfl rfl rfl (by repeat (first | exact List.Mem.head _ | apply List.Mem.tail | apply List.mem_append_right)) rfl rfl ?_)
  first
    | refine xo_not rfl rfl ?_
    | (refine xo_add rfl rfl rfl (by omega) rfl ?_)
  first
    | refine xo_not rfl rfl ?_
    | (refine xo_fa T_ rfl rfl rfl rfl rfl ?_)
  first
    | refine xo_not rfl rfl ?_
    | (refine xo_load0 T_ rfl rfl rfl (by repeat (first | exact List.Mem.head _ | apply List.Mem.tail | apply List.mem_append_right)) rfl rfl ?_)
  first
    | refine xo_not rfl rfl ?_
    | (refine xo_fa T_ rfl rfl rfl rfl rfl ?_)
  first
    | refine xo_not rfl rfl ?_
    | (refine xo_load0 T_ rfl rfl rfl (by repeat (first | exact List.Mem.head _ | apply List.Mem.tail | apply List.mem_append_right)) rfl rfl ?_)
  first
    | refine xo_not rfl rfl ?_
    | (refine xo_add rfl rfl rfl (by omega) rfl ?_)
  first
    | refine xo_not rfl rfl ?_
    | (refine xo_fa T_ rfl rfl rfl rfl rfl ?_)
  first
    | refine xo_not rfl rfl ?_
    | (refine xo_load0 T_ rfl rfl rfl (by repeat (first | exact List.Mem.head _ | apply List.Mem.tail | apply List.mem_append_right)) rfl rfl ?_)
  first
    | refine xo_not rfl rfl ?_
    | (refine xo_add rfl rfl rfl (by omega) rfl ?_)
  first
    | refine xo_not rfl rfl ?_
    | (refine xo_fa T_ rfl rfl rfl rfl rfl ?_)
  first
    | refine xo_not rfl rfl ?_
    | (refine xo_load0 T_ rfl rfl rfl (by repeat (first | exact List.Mem.head _ | apply List.Mem.tail | apply List.mem_append_right)) rfl rfl ?_)
  first
    | refine xo_not rfl rfl ?_
    | (refine xo_add rfl rfl rfl (by omega) rfl ?_)
  first
    | refine xo_not rfl rfl ?_
    | (refine xo_neq rfl rfl rfl rfl ?_)
  refine xo_as (i := 123) rfl (congrArg Value.bool hbal) ?_
  first | refine xo_pickT rfl rfl rfl rfl ?_ | refine xo_pickF rfl rfl rfl rfl ?_
  refine xo_mv rfl rfl rfl ?_
  first
    | refine xo_not rfl rfl ?_
    | (refine xo_fa T_ rfl rfl rfl rfl rfl ?_)
  first
    | refine xo_not rfl rfl ?_
    | (refine xo_load0 T_ rfl rfl rfl (by repeat (first | exact List.Mem.head _ | apply List.Mem.tail | apply List.mem_append_right)) rfl rfl ?_)
  first
    | refine xo_not rfl rfl ?_
    | (refine xo_fa T_ rfl rfl rfl rfl rfl ?_)
  first
    | refine xo_not rfl rfl ?_
    | (refine xo_load0 T_ rfl rfl rfl (by repeat (first | exact List.Mem.head _ | apply List.Mem.tail | apply List.mem_append_right)) rfl rfl ?_)
  first
    | refine xo_not rfl rfl ?_
    | (refine xo_gtr rfl rfl rfl rfl ?_)
  refine xo_as (i := 130) rfl (congrArg Value.bool hdb) ?_
  first | refine xo_pickT rfl rfl rfl rfl ?_ | refine xo_pickF rfl rfl rfl rfl ?_
  with_reducible refine xo_nil ?_
  with_reducible repeat (first | refine xq_then ?_ | refine xq_blockN ?_ | refine xq_scopeN ?_)
  with_reducible repeat refine xc_seq ?_
  refine xc_condF rfl ?_
  with_reducible refine xc_skip ?_
  with_reducible repeat (first | refine xq_then ?_ | refine xq_blockN ?_ | refine xq_scopeN ?_)
  with_reducible repeat refine xc_seq ?_
  with_reducible refine xc_region ?_
  refine xo_alloc T_ rfl rfl rfl rfl (fun b17 => ?_)
  with_reducible refine xo_nil ?_
  with_reducible repeat (first | refine xq_then ?_ | refine xq_blockN ?_ | refine xq_scopeN ?_)
  with_reducible repeat refine xc_seq ?_
  with_reducible refine xc_region ?_
  refine xo_mkm rfl rfl (fun b132 => ?_)
  refine xo_asg rfl rfl rfl ?_
  with_reducible refine xo_nil ?_
  with_reducible repeat (first | refine xq_then ?_ | refine xq_blockN ?_ | refine xq_scopeN ?_)
  with_reducible repeat refine xc_seq ?_
  with_reducible refine xc_region ?_
  refine xo_mv rfl rfl rfl ?_
  refine xo_fa T_ rfl rfl rfl rfl rfl ?_
  refine xo_load0 T_ rfl rfl rfl (by repeat (first | exact List.Mem.head _ | apply List.Mem.tail | apply List.mem_append_right)) rfl rfl ?_
  refine xo_call (fs := []) (cs := []) rfl rfl rfl comes_enters rfl (fun w1 hw1 => (hcm w1 (Kd.C_below hr hw1.kx.below)).mono ?_)
  rintro e w3 ⟨bC, oC, rfl, hb, hge, h1, h2⟩
  refine ⟨_, _, rfl, hw1.more hb hge h1 h2, ?_⟩
  clear hb hge h1 h2 hw1
  refine xo_len T_ rfl rfl rfl rfl ?_
  refine xo_mv rfl rfl rfl ?_
  with_reducible refine xo_nil ?_
  with_reducible repeat (first | refine xq_then ?_ | refine xq_blockN ?_ | refine xq_scopeN ?_)
  with_reducible repeat refine xc_seq ?_
  with_reducible refine xc_block ?_
  refine xc_loop (γ := Nat × List (Int × Value)) (fun q => q.1 ≤ r.length ∧ ∀ n, (imGet n q.2).getD (.bool false) = .bool (decide (n ∈ Cm) && decide (n ∈ idsL (r.take q.1)))) (fun q => [(0, .slice (some ad0) r.length c), (1, .slice C m.length c2), (7, .bool true), (8, .slice (some ⟨bT, 0, none⟩) TM.length capT), (68, .slice (some ad0) r.length c), (69, .int .i64 (r.length : Int)), (70, .int .i64 (k : Int)), (12, .pointer (some ⟨b12, 0, none⟩)), (13, .pointer (some ⟨b13, 0, none⟩)), (17, .pointer (some ⟨b17, 0, none⟩)), (18, .map (some b132)), (136, .slice (some ⟨bC, 0, none⟩) r.length r.length), (137, .int .i64 (r.length : Int)), (138, .int .i64 (q.1 : Int))])
    (fun q => [(bC, true, cel ((inB r Cm).map .bool) 4), (b132, true, hmap q.2), (b17, true, cel (stV st0) 27), (b13, true, cel (stV s) 27), (b12, true, cel (recV x A3 c3) 50), (bT, true, orow 54 4 TM.length capT (TM.map movV).flatten)]) (fun q => r.length - q.1) (0, []) ⟨Nat.zero_le _, fun n => by simp [imGet, idsL]⟩ ⟨rfl, rfl, rfl, rfl, rfl, rfl, rfl, rfl, rfl, rfl, rfl, rfl, rfl, rfl, trivial⟩ (by repeat (first | exact List.Sublist.refl _ | apply List.Sublist.cons_cons | apply List.Sublist.cons | exact List.nil_sublist _)) ?_
  rintro ⟨i, lm⟩ ⟨hi1, hlm⟩
  simp only at hi1 hlm ⊢
  with_reducible repeat refine xc_seq ?_
  with_reducible refine xc_region ?_
  refine xo_lss rfl rfl rfl rfl ?_
  with_reducible refine xo_nil ?_
  with_reducible repeat (first | refine xq_then ?_ | refine xq_blockN ?_ | refine xq_scopeN ?_)
  with_reducible repeat refine xc_seq ?_
  refine xc_cond rfl (fun h => ?_) (fun h => ?_)
  · have hil : i < r.length := by have := of_decide_eq_true h; omega
    obtain ⟨ad1, A4, c4, e1, r4, _, _⟩ := rec_at hr i hil
    cases e1
    have hiid : idAt r i = (r.getD i zRec).f0 := rfl
    have hsn := idsL_snoc hil
    generalize r.getD i zRec = y at *
    with_reducible refine xc_skip ?_
    with_reducible repeat (first | refine xq_then ?_ | refine xq_blockN ?_ | refine xq_scopeN ?_)
    with_reducible repeat refine xc_seq ?_
    with_reducible refine xc_block ?_
    with_reducible repeat refine xc_seq ?_
    with_reducible refine xc_region ?_
    refine xo_mv rfl rfl rfl ?_
    refine xo_ia T_ rfl rfl rfl rfl rfl ⟨by omega, by omega⟩ rfl ?_
    refine xo_loadI T_ rfl rfl rfl (by repeat (first | exact List.Mem.head _ | apply List.Mem.tail | apply List.mem_append_right)) (in_load hil) rfl ?_
    refine xo_asg rfl rfl rfl ?_
    refine xo_asg rfl rfl rfl ?_
    with_reducible refine xo_nil ?_
    with_reducible repeat (first | refine xq_then ?_ | refine xq_blockN ?_ | refine xq_scopeN ?_)
    with_reducible repeat refine xc_seq ?_
    with_reducible refine xc_region ?_
    refine xo_mv rfl rfl rfl ?_
    refine xo_mv rfl rfl rfl ?_
    refine xo_mv rfl rfl rfl ?_
    refine xo_ia T_ rfl rfl rfl rfl rfl ⟨by omega, by omega⟩ rfl ?_
    refine xo_faR T_ rfl rfl rfl rfl rfl ?_
    refine xo_loadR0 T_ rfl rfl rfl (by first | assumption | exact RO.fld (by assumption) rfl) rfl ?_
    refine xo_mv rfl rfl rfl ?_
    refine xo_mupd T_ rfl rfl rfl rfl rfl rfl (by repeat (first | exact List.Mem.head _ | apply List.Mem.tail | apply List.mem_append_right)) (by repeat (first | exact Upd.head | apply Upd.tail | apply Upd.app)) rfl ?_
    with_reducible refine xo_nil ?_
    with_reducible repeat (first | refine xq_then ?_ | refine xq_blockN ?_ | refine xq_scopeN ?_)
    with_reducible repeat refine xc_seq ?_
    with_reducible refine xc_region ?_
    refine xo_add rfl rfl rfl (by omega) rfl ?_
    refine xo_mv rfl rfl rfl ?_
    with_reducible refine xo_nil ?_
    with_reducible repeat (first | refine xq_then ?_ | refine xq_blockN ?_ | refine xq_scopeN ?_)
    refine xq_again _ _ _ _ _ (i + 1, imSet y.f0 (.bool (decide (idAt r i ∈ Cm))) lm) ⟨by simp only; omega, fun n => ?_⟩ (by simp only; omega) ⟨rfl, rfl, rfl, rfl, rfl, rfl, rfl, rfl, rfl, rfl, rfl, rfl, rfl, rfl, trivial⟩ (by repeat (first | exact List.Sublist.refl _ | apply List.Sublist.cons_cons | apply List.Sublist.cons | exact List.nil_sublist _))
    simp only
    rw [imGet_set, hsn, hiid]
    by_cases e : n = y.f0
    · rw [if_pos e, e]
      simp
    · rw [if_neg e, hlm n]
      simp [e]
  have hige : ¬ i < r.length := by have := of_decide_eq_false h; omega
  rw [List.take_of_length_le (by omega)] at hlm
  have hlm2 : ∀ n, n ∈ idsL r → (imGet n lm).getD (.bool false) = .bool (decide (n ∈ Cm)) := fun n hn => by rw [hlm n, decide_eq_true hn, Bool.and_true]
  clear hlm
  with_reducible refine xc_exit ?_
  with_reducible repeat (first | refine xq_blockX ?_ | refine xq_thenE ?_ | refine xq_blockE rfl ?_ | refine xq_scopeE ?_)
  with_reducible repeat (first | refine xq_then ?_ | refine xq_blockN ?_ | refine xq_scopeN ?_)
  with_reducible repeat refine xc_seq ?_
  with_reducible refine xc_region ?_
  refine xo_mv rfl rfl rfl ?_
  refine xo_len T_ rfl rfl rfl rfl ?_
  refine xo_mv rfl rfl rfl ?_
  with_reducible refine xo_nil ?_
  with_reducible repeat (first | refine xq_then ?_ | refine xq_blockN ?_ | refine xq_scopeN ?_)
  with_reducible repeat refine xc_seq ?_
  with_reducible refine xc_block ?_
  refine xc_loop (γ := Nat) (fun j => j ≤ m.length) (fun j => [(0, .slice (some ad0) r.length c), (1, .slice C m.length c2), (7, .bool true), (8, .slice (some ⟨bT, 0, none⟩) TM.length capT), (68, .slice (some ad0) r.length c), (69, .int .i64 (r.length : Int)), (70, .int .i64 (k : Int)), (12, .pointer (some ⟨b12, 0, none⟩)), (13, .pointer (some ⟨b13, 0, none⟩)), (17, .pointer (some ⟨b17, 0, none⟩)), (18, .map (some b132)), (151, .slice C m.length c2), (152, .int .i64 (m.length : Int)), (153, .int .i64 (j : Int))])
    (fun j => [(b132, true, hmap lm), (b17, true, cel (stV (nolS (sumL (m.take j) Cm st0 r))) 27), (b13, true, cel (stV s) 27), (b12, true, cel (recV x A3 c3) 50), (bT, true, orow 54 4 TM.length capT (TM.map movV).flatten)]) (fun j => m.length - j) 0 (Nat.zero_le _) ⟨rfl, rfl, rfl, rfl, rfl, rfl, rfl, rfl, rfl, rfl, rfl, rfl, rfl, rfl, trivial⟩ (by rw [List.take_zero, sumL_nil]; exact (by repeat (first | exact List.Sublist.refl _ | apply List.Sublist.cons_cons | apply List.Sublist.cons | exact List.nil_sublist _))) ?_
  intro j hj1
  with_reducible repeat refine xc_seq ?_
  with_reducible refine xc_region ?_
  refine xo_lss rfl rfl rfl rfl ?_
  with_reducible refine xo_nil ?_
  with_reducible repeat (first | refine xq_then ?_ | refine xq_blockN ?_ | refine xq_scopeN ?_)
  with_reducible repeat refine xc_seq ?_
  refine xc_cond rfl (fun h => ?_) (fun h => ?_)
  · have hjl : j < m.length := by have := of_decide_eq_true h; omega
    obtain ⟨ad2, e2, r5⟩ := mov_at hm j hjl
    subst e2
    have hsucc := hst j hjl
    have hB := hSB j
    have hyin := hlm2 _ (moves_in hcf hjl)
    have hpy : 1 ≤ (m.getD j zMov).f3 ∧ (m.getD j zMov).f3 ≤ 100000 := by
      rw [countF, Bool.and_eq_true] at hcf
      exact (movesL_mem m _ _ hcf.1 _ (getD_mem m zMov j hjl)).2.2
    generalize m.getD j zMov = y at *
    generalize sumL (m.take j) Cm st0 r = t at *
    unfold StB at hB
    have hnt : stV (nolS t) = [.int .i64 t.a, .int .i64 t.b, .int .i64 t.c, .int .i64 t.d, .int .i64 t.e, .int .i64 0] := rfl
    rw [hnt]
    with_reducible refine xc_skip ?_
    with_reducible repeat (first | refine xq_then ?_ | refine xq_blockN ?_ | refine xq_scopeN ?_)
    with_reducible repeat refine xc_seq ?_
    with_reducible refine xc_block ?_
    with_reducible repeat refine xc_seq ?_
    with_reducible refine xc_region ?_
    refine xo_ia T_ rfl rfl rfl rfl rfl ⟨by omega, by omega⟩ rfl ?_
    refine xo_loadRN T_ rfl rfl rfl (by assumption) rfl rfl ?_
    refine xo_alloc T_ rfl rfl rfl rfl (fun b22 => ?_)
    refine xo_store T_ rfl rfl rfl rfl (by repeat (first | exact List.Mem.head _ | apply List.Mem.tail | apply List.mem_append_right)) rfl rfl rfl rfl (by repeat (first | exact Upd.head | apply Upd.tail | apply Upd.app)) rfl ?_
    with_reducible refine xo_nil ?_
    with_reducible repeat (first | refine xq_then ?_ | refine xq_blockN ?_ | refine xq_scopeN ?_)
    cases hyC : decide (y.f1 ∈ Cm)
    · rw [hyC, if_neg (by simp)] at hsucc
      with_reducible repeat refine xc_seq ?_
      with_reducible refine xc_region ?_
      refine xo_mv rfl rfl rfl ?_
      refine xo_fa T_ rfl rfl rfl rfl rfl ?_
      refine xo_load0 T_ rfl rfl rfl (by repeat (first | exact List.Mem.head _ | apply List.Mem.tail | apply List.mem_append_right)) rfl rfl ?_
      refine xo_look1 T_ rfl rfl rfl rfl rfl rfl (by repeat (first | exact List.Mem.head _ | apply List.Mem.tail | apply List.mem_append_right)) hyin rfl ?_
      refine xo_as (i := 160) rfl (congrArg Value.bool hyC) ?_
      refine xo_notOp rfl rfl rfl ?_
      with_reducible refine xo_nil ?_
      with_reducible repeat (first | refine xq_then ?_ | refine xq_blockN ?_ | refine xq_scopeN ?_)
      with_reducible repeat refine xc_seq ?_
      refine xc_condT rfl ?_
      with_reducible refine xc_exit ?_
      with_reducible repeat (first | refine xq_blockX ?_ | refine xq_thenE ?_ | refine xq_blockE rfl ?_ | refine xq_scopeE ?_)
      with_reducible repeat (first | refine xq_then ?_ | refine xq_blockN ?_ | refine xq_scopeN ?_)
      with_reducible repeat refine xc_seq ?_
      with_reducible refine xc_region ?_
      refine xo_add rfl rfl rfl (by omega) rfl ?_
      refine xo_mv rfl rfl rfl ?_
      with_reducible refine xo_nil ?_
      with_reducible repeat (first | refine xq_then ?_ | refine xq_blockN ?_ | refine xq_scopeN ?_)
      exact xq_again _ _ _ _ _ (j + 1) hjl (by omega) ⟨rfl, rfl, rfl, rfl, rfl, rfl, rfl, rfl, rfl, rfl, rfl, rfl, rfl, rfl, trivial⟩ (by rw [hsucc]; exact (by repeat (first | exact List.Sublist.refl _ | apply List.Sublist.cons_cons | apply List.Sublist.cons | exact List.nil_sublist _)))
    rw [hyC, if_pos rfl] at hsucc
    with_reducible repeat refine xc_seq ?_
    with_reducible refine xc_region ?_
    refine xo_mv rfl rfl rfl ?_
    refine xo_fa T_ rfl rfl rfl rfl rfl ?_
    refine xo_load0 T_ rfl rfl rfl (by repeat (first | exact List.Mem.head _ | apply List.Mem.tail | apply List.mem_append_right)) rfl rfl ?_
    refine xo_look1 T_ rfl rfl rfl rfl rfl rfl (by repeat (first | exact List.Mem.head _ | apply List.Mem.tail | apply List.mem_append_right)) hyin rfl ?_
    refine xo_as (i := 160) rfl (congrArg Value.bool hyC) ?_
    refine xo_notOp rfl rfl rfl ?_
    with_reducible refine xo_nil ?_
    with_reducible repeat (first | refine xq_then ?_ | refine xq_blockN ?_ | refine xq_scopeN ?_)
    with_reducible repeat refine xc_seq ?_
    refine xc_condF rfl ?_
    with_reducible refine xc_skip ?_
    with_reducible repeat (first | refine xq_then ?_ | refine xq_blockN ?_ | refine xq_scopeN ?_)
    with_reducible repeat refine xc_seq ?_
    with_reducible refine xc_region ?_
    refine xo_fa T_ rfl rfl rfl rfl rfl ?_
    refine xo_load0 T_ rfl rfl rfl (by repeat (first | exact List.Mem.head _ | apply List.Mem.tail | apply List.mem_append_right)) rfl rfl ?_
    with_reducible refine xo_nil ?_
    with_reducible repeat (first | refine xq_then ?_ | refine xq_blockN ?_ | refine xq_scopeN ?_)
    with_reducible repeat refine xc_seq ?_
    with_reducible refine xc_block ?_
    with_reducible repeat refine xc_seq ?_
    with_reducible refine xc_region ?_
    refine xo_eql rfl rfl rfl rfl ?_
    refine xo_asg rfl rfl rfl ?_
    with_reducible refine xo_nil ?_
    with_reducible repeat (first | refine xq_then ?_ | refine xq_blockN ?_ | refine xq_scopeN ?_)
    with_reducible repeat refine xc_seq ?_
    refine xc_cond rfl (fun k1 => ?_) (fun k1 => ?_)
    · have k1 : y.f2 = 1 := of_decide_eq_true k1
      rw [k1, stStep1] at hsucc
      with_reducible repeat refine xc_seq ?_
      with_reducible refine xc_region ?_
      refine xo_fa T_ rfl rfl rfl rfl rfl ?_
      refine xo_load0 T_ rfl rfl rfl (by repeat (first | exact List.Mem.head _ | apply List.Mem.tail | apply List.mem_append_right)) rfl rfl ?_
      refine xo_fa T_ rfl rfl rfl rfl rfl ?_
      refine xo_load0 T_ rfl rfl rfl (by repeat (first | exact List.Mem.head _ | apply List.Mem.tail | apply List.mem_append_right)) rfl rfl ?_
      refine xo_add rfl rfl rfl (by omega) rfl ?_
      refine xo_fa T_ rfl rfl rfl rfl rfl ?_
      refine xo_store T_ rfl rfl rfl rfl (by repeat (first | exact List.Mem.head _ | apply List.Mem.tail | apply List.mem_append_right)) rfl rfl rfl rfl (by repeat (first | exact Upd.head | apply Upd.tail | apply Upd.app)) rfl ?_
      with_reducible refine xo_nil ?_
      with_reducible repeat (first | refine xq_then ?_ | refine xq_blockN ?_ | refine xq_scopeN ?_)
      with_reducible repeat refine xc_seq ?_
      with_reducible refine xc_region ?_
      refine xo_add rfl rfl rfl (by omega) rfl ?_
      refine xo_mv rfl rfl rfl ?_
      with_reducible refine xo_nil ?_
      with_reducible repeat (first | refine xq_then ?_ | refine xq_blockN ?_ | refine xq_scopeN ?_)
      exact xq_again _ _ _ _ _ (j + 1) hjl (by omega) ⟨rfl, rfl, rfl, rfl, rfl, rfl, rfl, rfl, rfl, rfl, rfl, rfl, rfl, rfl, trivial⟩ (by rw [hsucc]; exact (by repeat (first | exact List.Sublist.refl _ | apply List.Sublist.cons_cons | apply List.Sublist.cons | exact List.nil_sublist _)))
    have k1 : ¬ y.f2 = 1 := of_decide_eq_false k1
    with_reducible repeat refine xc_seq ?_
    with_reducible refine xc_region ?_
    refine xo_eql rfl rfl rfl rfl ?_
    refine xo_asg rfl rfl rfl ?_
    with_reducible refine xo_nil ?_
    with_reducible repeat (first | refine xq_then ?_ | refine xq_blockN ?_ | refine xq_scopeN ?_)
    with_reducible repeat refine xc_seq ?_
    refine xc_cond rfl (fun k2 => ?_) (fun k2 => ?_)
    · have k2 : y.f2 = 2 := of_decide_eq_true k2
      rw [k2, stStep2] at hsucc
      with_reducible repeat refine xc_seq ?_
      with_reducible refine xc_region ?_
      refine xo_fa T_ rfl rfl rfl rfl rfl ?_
      refine xo_load0 T_ rfl rfl rfl (by repeat (first | exact List.Mem.head _ | apply List.Mem.tail | apply List.mem_append_right)) rfl rfl ?_
      refine xo_fa T_ rfl rfl rfl rfl rfl ?_
      refine xo_load0 T_ rfl rfl rfl (by repeat (first | exact List.Mem.head _ | apply List.Mem.tail | apply List.mem_append_right)) rfl rfl ?_
      refine xo_add rfl rfl rfl (by omega) rfl ?_
      refine xo_fa T_ rfl rfl rfl rfl rfl ?_
      refine xo_store T_ rfl rfl rfl rfl (by repeat (first | exact List.Mem.head _ | apply List.Mem.tail | apply List.mem_append_right)) rfl rfl rfl rfl (by repeat (first | exact Upd.head | apply Upd.tail | apply Upd.app)) rfl ?_
      with_reducible refine xo_nil ?_
      with_reducible repeat (first | refine xq_then ?_ | refine xq_blockN ?_ | refine xq_scopeN ?_)
      with_reducible repeat refine xc_seq ?_
      with_reducible refine xc_region ?_
      refine xo_add rfl rfl rfl (by omega) rfl ?_
      refine xo_mv rfl rfl rfl ?_
      with_reducible refine xo_nil ?_
      with_reducible repeat (first | refine xq_then ?_ | refine xq_blockN ?_ | refine xq_scopeN ?_)
      exact xq_again _ _ _ _ _ (j + 1) hjl (by omega) ⟨rfl, rfl, rfl, rfl, rfl, rfl, rfl, rfl, rfl, rfl, rfl, rfl, rfl, rfl, trivial⟩ (by rw [hsucc]; exact (by repeat (first | exact List.Sublist.refl _ | apply List.Sublist.cons_cons | apply List.Sublist.cons | exact List.nil_sublist _)))
    have k2 : ¬ y.f2 = 2 := of_decide_eq_false k2
    with_reducible repeat refine xc_seq ?_
    with_reducible refine xc_region ?_
    refine xo_eql rfl rfl rfl rfl ?_
    refine xo_asg rfl rfl rfl ?_
    with_reducible refine xo_nil ?_
    with_reducible repeat (first | refine xq_then ?_ | refine xq_blockN ?_ | refine xq_scopeN ?_)
    with_reducible repeat refine xc_seq ?_
    refine xc_cond rfl (fun k3 => ?_) (fun k3 => ?_)
    · have k3 : y.f2 = 3 := of_decide_eq_true k3
      rw [k3, stStep3] at hsucc
      with_reducible repeat refine xc_seq ?_
      with_reducible refine xc_region ?_
      refine xo_fa T_ rfl rfl rfl rfl rfl ?_
      refine xo_load0 T_ rfl rfl rfl (by repeat (first | exact List.Mem.head _ | apply List.Mem.tail | apply List.mem_append_right)) rfl rfl ?_
      refine xo_fa T_ rfl rfl rfl rfl rfl ?_
      refine xo_load0 T_ rfl rfl rfl (by repeat (first | exact List.Mem.head _ | apply List.Mem.tail | apply List.mem_append_right)) rfl rfl ?_
      refine xo_add rfl rfl rfl (by omega) rfl ?_
      refine xo_fa T_ rfl rfl rfl rfl rfl ?_
      refine xo_store T_ rfl rfl rfl rfl (by repeat (first | exact List.Mem.head _ | apply List.Mem.tail | apply List.mem_append_right)) rfl rfl rfl rfl (by repeat (first | exact Upd.head | apply Upd.tail | apply Upd.app)) rfl ?_
      with_reducible refine xo_nil ?_
      with_reducible repeat (first | refine xq_then ?_ | refine xq_blockN ?_ | refine xq_scopeN ?_)
      with_reducible repeat refine xc_seq ?_
      with_reducible refine xc_region ?_
      refine xo_add rfl rfl rfl (by omega) rfl ?_
      refine xo_mv rfl rfl rfl ?_
      with_reducible refine xo_nil ?_
      with_reducible repeat (first | refine xq_then ?_ | refine xq_blockN ?_ | refine xq_scopeN ?_)
      exact xq_again _ _ _ _ _ (j + 1) hjl (by omega) ⟨rfl, rfl, rfl, rfl, rfl, rfl, rfl, rfl, rfl, rfl, rfl, rfl, rfl, rfl, trivial⟩ (by rw [hsucc]; exact (by repeat (first | exact List.Sublist.refl _ | apply List.Sublist.cons_cons | apply List.Sublist.cons | exact List.nil_sublist _)))
    have k3 : ¬ y.f2 = 3 := of_decide_eq_false k3
    with_reducible repeat refine xc_seq ?_
    with_reducible refine xc_region ?_
    refine xo_eql rfl rfl rfl rfl ?_
    refine xo_asg rfl rfl rfl ?_
    with_reducible refine xo_nil ?_
    with_reducible repeat (first | refine xq_then ?_ | refine xq_blockN ?_ | refine xq_scopeN ?_)
    with_reducible repeat refine xc_seq ?_
    refine xc_cond rfl (fun k4 => ?_) (fun k4 => ?_)
    · have k4 : y.f2 = 4 := of_decide_eq_true k4
      rw [k4, stStep4] at hsucc
      with_reducible repeat refine xc_seq ?_
      with_reducible refine xc_region ?_
      refine xo_fa T_ rfl rfl rfl rfl rfl ?_
      refine xo_load0 T_ rfl rfl rfl (by repeat (first | exact List.Mem.head _ | apply List.Mem.tail | apply List.mem_append_right)) rfl rfl ?_
      refine xo_fa T_ rfl rfl rfl rfl rfl ?_
      refine xo_load0 T_ rfl rfl rfl (by repeat (first | exact List.Mem.head _ | apply List.Mem.tail | apply List.mem_append_right)) rfl rfl ?_
      refine xo_add rfl rfl rfl (by omega) rfl ?_
      refine xo_fa T_ rfl rfl rfl rfl rfl ?_
      refine xo_store T_ rfl rfl rfl rfl (by repeat (first | exact List.Mem.head _ | apply List.Mem.tail | apply List.mem_append_right)) rfl rfl rfl rfl (by repeat (first | exact Upd.head | apply Upd.tail | apply Upd.app)) rfl ?_
      with_reducible refine xo_nil ?_
      with_reducible repeat (first | refine xq_then ?_ | refine xq_blockN ?_ | refine xq_scopeN ?_)
      with_reducible repeat refine xc_seq ?_
      with_reducible refine xc_region ?_
      refine xo_add rfl rfl rfl (by omega) rfl ?_
      refine xo_mv rfl rfl rfl ?_
      with_reducible refine xo_nil ?_
      with_reducible repeat (first | refine xq_then ?_ | refine xq_blockN ?_ | refine xq_scopeN ?_)
      exact xq_again _ _ _ _ _ (j + 1) hjl (by omega) ⟨rfl, rfl, rfl, rfl, rfl, rfl, rfl, rfl, rfl, rfl, rfl, rfl, rfl, rfl, trivial⟩ (by rw [hsucc]; exact (by repeat (first | exact List.Sublist.refl _ | apply List.Sublist.cons_cons | apply List.Sublist.cons | exact List.nil_sublist _)))
    have k4 : ¬ y.f2 = 4 := of_decide_eq_false k4
    rw [stStep5 _ _ _ k1 k2 k3 k4] at hsucc
    with_reducible repeat refine xc_seq ?_
    with_reducible refine xc_region ?_
    refine xo_fa T_ rfl rfl rfl rfl rfl ?_
    refine xo_load0 T_ rfl rfl rfl (by repeat (first | exact List.Mem.head _ | apply List.Mem.tail | apply List.mem_append_right)) rfl rfl ?_
    refine xo_fa T_ rfl rfl rfl rfl rfl ?_
    refine xo_load0 T_ rfl rfl rfl (by repeat (first | exact List.Mem.head _ | apply List.Mem.tail | apply List.mem_append_right)) rfl rfl ?_
    refine xo_add rfl rfl rfl (by omega) rfl ?_
    refine xo_fa T_ rfl rfl rfl rfl rfl ?_
    refine xo_store T_ rfl rfl rfl rfl (by repeat (first | exact List.Mem.head _ | apply List.Mem.tail | apply List.mem_append_right)) rfl rfl rfl rfl (by repeat (first | exact Upd.head | apply Upd.tail | apply Upd.app)) rfl ?_
    with_reducible refine xo_nil ?_
    with_reducible repeat (first | refine xq_then ?_ | refine xq_blockN ?_ | refine xq_scopeN ?_)
    with_reducible repeat refine xc_seq ?_
    with_reducible refine xc_region ?_
    refine xo_add rfl rfl rfl (by omega) rfl ?_
    refine xo_mv rfl rfl rfl ?_
    with_reducible refine xo_nil ?_
    with_reducible repeat (first | refine xq_then ?_ | refine xq_blockN ?_ | refine xq_scopeN ?_)
    exact xq_again _ _ _ _ _ (j + 1) hjl (by omega) ⟨rfl, rfl, rfl, rfl, rfl, rfl, rfl, rfl, rfl, rfl, rfl, rfl, rfl, rfl, trivial⟩ (by rw [hsucc]; exact (by repeat (first | exact List.Sublist.refl _ | apply List.Sublist.cons_cons | apply List.Sublist.cons | exact List.nil_sublist _)))
  have hjge : ¬ j < m.length := by have := of_decide_eq_false h; omega
  rw [List.take_of_length_le (by omega), ← hpS]
  have hxin : (imGet x.f0 lm).getD (.bool false) = .bool (decide (x.f0 ∈ Cm)) := hlm2 _ (idsL_mem.2 ⟨k, hlt, hkid⟩)
  with_reducible refine xc_exit ?_
  with_reducible repeat (first | refine xq_blockX ?_ | refine xq_thenE ?_ | refine xq_blockE rfl ?_ | refine xq_scopeE ?_)
  with_reducible repeat (first | refine xq_then ?_ | refine xq_blockN ?_ | refine xq_scopeN ?_)
  with_reducible repeat refine xc_seq ?_
  with_reducible refine xc_region ?_
  refine xo_fa T_ rfl rfl rfl rfl rfl ?_
  refine xo_load0 T_ rfl rfl rfl (by repeat (first | exact List.Mem.head _ | apply List.Mem.tail | apply List.mem_append_right)) rfl rfl ?_
  refine xo_fa T_ rfl rfl rfl rfl rfl ?_
  refine xo_store T_ rfl rfl rfl rfl (by repeat (first | exact List.Mem.head _ | apply List.Mem.tail | apply List.mem_append_right)) rfl rfl rfl rfl (by repeat (first | exact Upd.head | apply Upd.tail | apply Upd.app)) rfl ?_
  with_reducible refine xo_nil ?_
  with_reducible repeat (first | refine xq_then ?_ | refine xq_blockN ?_ | refine xq_scopeN ?_)
  with_reducible repeat refine xc_seq ?_
  with_reducible refine xc_region ?_
  refine xo_loadN T_ rfl rfl rfl (by repeat (first | exact List.Mem.head _ | apply List.Mem.tail | apply List.mem_append_right)) rfl rfl ?_
  refine xo_loadN T_ rfl rfl rfl (by repeat (first | exact List.Mem.head _ | apply List.Mem.tail | apply List.mem_append_right)) rfl rfl ?_
  refine xo_neqSt (a := s) (b := s) rfl rfl rfl rfl ?_
  refine xo_as (i := 208) rfl (congrArg Value.bool hss) ?_
  refine xo_mv rfl rfl rfl ?_
  first
    | refine xo_not rfl rfl ?_
    | (refine xo_mv rfl rfl rfl ?_)
  first
    | refine xo_not rfl rfl ?_
    | (refine xo_fa T_ rfl rfl rfl rfl rfl ?_)
  first
    | refine xo_not rfl rfl ?_
    | (refine xo_load0 T_ rfl rfl rfl (by repeat (first | exact List.Mem.head _ | apply List.Mem.tail | apply List.mem_append_right)) rfl rfl ?_)
  first
    | refine xo_not rfl rfl ?_
    | (refine xo_look1 T_ rfl rfl rfl rfl rfl rfl (by repeat (first | exact List.Mem.head _ | apply List.Mem.tail | apply List.mem_append_right)) hxin rfl ?_)
  first
    | refine xo_not rfl rfl ?_
    | (refine xo_fa T_ rfl rfl rfl rfl rfl ?_)
  first
    | refine xo_not rfl rfl ?_
    | (refine xo_load0 T_ rfl rfl rfl (by repeat (first | exact List.Mem.head _ | apply List.Mem.tail | apply List.mem_append_right)) rfl rfl ?_)
  first
    | refine xo_not rfl rfl ?_
    | (refine xo_eql rfl rfl rfl rfl ?_)
  first
    | refine xo_not rfl rfl ?_
    | (refine xo_neqB Tryd.underlying4 rfl rfl rfl rfl ?_)
  refine xo_as (i := 217) rfl (congrArg Value.bool hself2) ?_
  first | refine xo_pickT rfl rfl rfl rfl ?_ | refine xo_pickF rfl rfl rfl rfl ?_
  with_reducible refine xo_nil ?_
  with_reducible repeat (first | refine xq_then ?_ | refine xq_blockN ?_ | refine xq_scopeN ?_)
  with_reducible repeat refine xc_seq ?_
  refine xc_condF rfl ?_
  with_reducible refine xc_skip ?_
  with_reducible repeat (first | refine xq_then ?_ | refine xq_blockN ?_ | refine xq_scopeN ?_)
  with_reducible repeat refine xc_seq ?_
  with_reducible refine xc_region ?_
  refine xo_add rfl rfl rfl (by omega) rfl ?_
  refine xo_mv rfl rfl rfl ?_
  with_reducible refine xo_nil ?_
  with_reducible repeat (first | refine xq_then ?_ | refine xq_blockN ?_ | refine xq_scopeN ?_)
  exact xq_again _ _ _ _ _ (k + 1) hlt (by omega) ⟨rfl, rfl, rfl, rfl, rfl, rfl, rfl, trivial⟩ (by repeat (first | exact List.Sublist.refl _ | apply List.Sublist.cons_cons | apply List.Sublist.cons | exact List.nil_sublist _))
end Go.Proofs.YtcmepdamemnbkaaDoor
