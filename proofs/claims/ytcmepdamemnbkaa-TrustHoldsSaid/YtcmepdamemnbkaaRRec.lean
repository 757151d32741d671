/- ref08.Records answers what trust.recorded answers. -/
import Derived.Test.YtcmepdamemnbkaaRGreat
namespace Go.Proofs.Ytcmepdamemnbkaa
open Go.RowKit Go.Proofs.YtcmepdamemnbkaaW.PrintWords
set_option linter.unusedVariables false
set_option linter.unusedSimpArgs false
def idAt (r : List RecT) (k : Nat) : Int := (r.getD k zRec).f0
def SortedIds (r : List RecT) : Prop := ∀ j, j + 1 < r.length → idAt r j < idAt r (j + 1)
def pastAt (l : List Int) (j : Nat) : Int := if j = 0 then -1 else l.getD (j - 1) 0
theorem recF_sorted : ∀ (r : List RecT) (bs : List Int) (last : Int), recF bs last r = true → (∀ j, j < r.length → last < idAt r j) ∧ SortedIds r
  | [], _, _, _ => ⟨fun j hj => absurd hj (by simp), fun j hj => absurd hj (by simp)⟩
  | x :: r, bs, last, h => by
    simp only [recF, Bool.and_eq_true] at h
    obtain ⟨⟨⟨h1, _⟩, _⟩, _, h2⟩ := h
    simp only [inF, Bool.and_eq_true, decide_eq_true_eq] at h1
    obtain ⟨h3, h4⟩ := recF_sorted r _ _ h2
    refine ⟨fun j hj => ?_, fun j hj => ?_⟩
    · cases j with
      | zero => simp [idAt]; omega
      | succ j =>
        have := h3 j (by simpa using hj)
        simp [idAt] at this ⊢
        omega
    · cases j with
      | zero =>
        have := h3 0 (by simpa using hj)
        simpa [idAt] using this
      | succ j =>
        have := h4 j (by simpa using hj)
        simpa [idAt] using this
theorem recorded_sorted {r : List RecT} (h : ¬ SortedIds r) : recordedF r = false := by
  cases h1 : recordedF r with
  | false => rfl
  | true =>
    simp only [recordedF, Bool.and_eq_true] at h1
    exact absurd (recF_sorted r _ _ h1.1).2 h
theorem sorted_lt {r : List RecT} (h : SortedIds r) : ∀ j i, i < j → j < r.length → idAt r i < idAt r j
  | 0, i, h1, _ => absurd h1 (by omega)
  | j + 1, i, h1, h2 => by
    have h3 := h j h2
    by_cases e : i = j
    · subst e; exact h3
    · have := sorted_lt h j i (by omega) (by omega)
      omega
theorem atF_neg (r : List RecT) (n : Int) : decide (atF r n < 0) = !knownF r n := by
  have := idxF_any (fun x : RecT => decide (x.f0 = n)) r 0
  unfold atF knownF
  rw [← this]
  by_cases h : idxF (fun x : RecT => decide (x.f0 = n)) r 0 < 0
  · simp [h]
  · simp [h]; omega
theorem knownF_iff {r : List RecT} {n : Int} : knownF r n = true ↔ ∃ i, i < r.length ∧ idAt r i = n := by
  unfold knownF
  simp only [List.any_eq_true, decide_eq_true_eq]
  constructor
  · rintro ⟨x, hx, rfl⟩
    obtain ⟨i, hi, rfl⟩ := List.getElem_of_mem hx
    exact ⟨i, hi, by simp [idAt, List.getD_eq_getElem?_getD, List.getElem?_eq_getElem hi]⟩
  · rintro ⟨i, hi, rfl⟩
    exact ⟨r.getD i zRec, getD_mem r zRec i hi, rfl⟩
/-- one number of a way: what the reference asks is what trust asks -/
theorem way_step {r : List RecT} (hs : SortedIds r) {k : Nat} (hk : k < r.length) {bs : List Int} (hbs : ∀ n, n ∈ bs ↔ ∃ i, i < k ∧ idAt r i = n) (h0 : ∀ i, i < k → 0 ≤ idAt r i) (way : List Int) (j : Nat) (n : Int) :
    (decide (idAt r k ≤ n) || decide (atF r n < 0) || (decide (0 < (j : Int)) && decide (n ≤ way.getD (j - 1) 0))) = (decide (n ≤ pastAt way j) || !decide (n ∈ bs)) := by
  have hkn : n ∈ bs ↔ knownF r n = true ∧ n < idAt r k := by
    rw [hbs, knownF_iff]
    constructor
    · rintro ⟨i, hi, rfl⟩
      exact ⟨⟨i, by omega, rfl⟩, sorted_lt hs k i hi hk⟩
    · rintro ⟨⟨i, hi, rfl⟩, h2⟩
      refine ⟨i, ?_, rfl⟩
      by_cases hik : i < k
      · exact hik
      · exfalso
        by_cases e : i = k
        · subst e; omega
        · have := sorted_lt hs i k (by omega) hi
          omega
  have hpos : n ∈ bs → 0 ≤ n := fun h => by
    obtain ⟨i, hi, rfl⟩ := (hbs n).1 h
    exact h0 i hi
  rw [atF_neg, Bool.eq_iff_iff]
  simp only [Bool.or_eq_true, Bool.and_eq_true, decide_eq_true_eq, Bool.not_eq_true', decide_eq_false_iff_not, hkn, pastAt]
  cases hkb : knownF r n
  · simp
  · simp only [hkb, true_and] at hkn
    by_cases hj : j = 0
    · subst hj
      simp
      intro h
      exact Classical.byContradiction fun q => absurd (hpos (hkn.2 (by omega))) (by omega)
    · simp [hj, show 0 < j by omega]
      constructor
      · rintro (h | h)
        · exact .inr h
        · exact .inl h
      · rintro (h | h)
        · exact .inr h
        · exact .inl h
theorem rec_at' {w : World} {ad : Addr} {r : List RecT} (h : Kd.C recK w (some ad) r.length r) (k : Nat) (hk : k < r.length) (h0 : 0 < (k : Int)) :
    ∃ A2 c2, RO w XNone (ad.add (((k : Int) - 1).toNat * szN 3)) (recV (r.getD (k - 1) zRec) A2 c2) := by
  obtain ⟨ad2, A2, c2, e, h1, _⟩ := rec_at h (k - 1) (by omega)
  cases e
  rw [show ((k : Int) - 1).toNat = ((k - 1 : Nat) : Int).toNat by omega]
  exact ⟨A2, c2, h1⟩
theorem int_at' {w : World} {ad : Addr} {n : Nat} {zs : List Int} (h : Kd.C (Kd.int .i64) w (some ad) n zs) (k : Nat) (hk : k < n) (h0 : 0 < (k : Int)) : RO w XNone (ad.add (((k : Int) - 1).toNat * szN 0)) [.int .i64 (zs.getD (k - 1) 0)] := by
  obtain ⟨ad2, e, h1⟩ := int_at h (k - 1) (by omega)
  cases e
  rw [show ((k : Int) - 1).toNat = ((k - 1 : Nat) : Int).toNat by omega]
  exact h1
theorem waysF_false {bs : List Int} {l : List (List Int)} {k : Nat} (hk : k < l.length) (h : (wayF bs (-1) (l.getD k []) && inF 1 4 (l.getD k []).length) = false) : waysF bs l = false := by
  cases h1 : waysF bs l with
  | false => rfl
  | true =>
    rw [waysF, List.all_eq_true] at h1
    rw [h1 _ (getD_mem l [] k hk)] at h
    cases h
theorem waysF_true {bs : List Int} {l : List (List Int)} (h : ∀ k, k < l.length → (wayF bs (-1) (l.getD k []) && inF 1 4 (l.getD k []).length) = true) : waysF bs l = true := by
  rw [waysF, List.all_eq_true]
  intro x hx
  obtain ⟨i, hi, rfl⟩ := List.getElem_of_mem hx
  have := h i hi
  simpa [List.getD_eq_getElem?_getD, List.getElem?_eq_getElem hi] using this
end Go.Proofs.Ytcmepdamemnbkaa
