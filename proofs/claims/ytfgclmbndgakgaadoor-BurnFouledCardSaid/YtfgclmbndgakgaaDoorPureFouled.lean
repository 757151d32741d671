/- BurnFouled, the plain law: smoke lies in its span for all ways in which a lamp fouls. -/
import Derived.Test.YtfgclmbndgakgaaDoorPureA
import Derived.Test.YtfgclmbndgakgaaDoorPFx3a
namespace Go.Proofs.YtfgclmbndgakgaaDoor.Pure
open Go.RowKit Go.Proofs.YtfgclmbndgakgaaDoor Go.Proofs.YtfgclmbndgakgaaDoor.PA Go.Proofs.YtfgclmbndgakgaaDoor.PR Go.Proofs.YtfgclmbndgakgaaDoor.PF Go.Proofs.YtfgclmbndgakgaaDoor.PC1 Go.Proofs.YtfgclmbndgakgaaDoor.PC2 Go.Proofs.YtfgclmbndgakgaaDoorW.PrintWords Go.Proofs.YtfgclmbndgakgaaDoorW.PrintLast Go.Proofs.YtfgclmbndgakgaaDoorW.PrintMore
set_option linter.unusedVariables false
set_option linter.unusedSimpArgs false

def litS (b a : Int) (l : List Int) : Int := if inB 1 1000000 [b] && inB 1 b [a] then (if (l.length : Int) > 120 then 41 else if inB 0 b l then 0 else 41) else 42
theorem lit_eq (k : Nat) (b a : Int) (l : List Int) (hk : 0 < k) : burn_lit.f k b a l = some (litS b a l) := by
  obtain ⟨k, rfl⟩ : ∃ m, k = m + 1 := ⟨k - 1, by omega⟩
  unfold burn_lit.f litS
  rw [in_eq, in_eq]
  simp only [Option.bind_some, burn_lit.j0, in_eq]
  by_cases h : (l.length : Int) > 120 <;> cases inB 1 1000000 [b] <;> cases inB 1 b [a] <;> cases inB 0 b l <;> simp [h]
theorem Lights_eq (k : Nat) (b a : Int) (l : List Int) (hk : 150 < k) : cottonpadref04_Lights.f k b a l = some (litS b a l) := by
  unfold cottonpadref04_Lights.f cottonpadref04_Lamp.f litS cottonpadref04_reads.f
  rw [within_eq, within_eq]
  simp only [Option.bind_some]
  by_cases h : (l.length : Int) > 120
  · simp only [if_pos h, Option.bind_some]
    cases inB 1 1000000 [b] <;> cases inB 1 b [a] <;> simp
  · simp only [if_neg h]
    rw [reads_loop l b (by omega) l.length k 0 (by omega) (by omega) (by omega) (by omega)]
    simp only [Option.bind_some, Int.toNat_zero, List.drop_zero]
    cases inB 1 1000000 [b] <;> cases inB 1 b [a] <;> cases inB 0 b l <;> simp

def clS (l : List Int) (a i : Int) : Int := (l.drop i.toNat).foldl mx a
theorem foldl_mx (a x : Int) (r : List Int) : mx a (r.foldl mx x) = r.foldl mx (mx a x) := by
  induction r generalizing x with
  | nil => rfl
  | cons y r ih =>
    simp only [List.foldl_cons]
    rw [ih]
    congr 1
    unfold mx
    repeat' split
    all_goals omega
theorem le_foldl_mx (r : List Int) : ∀ a : Int, a ≤ r.foldl mx a := by
  induction r with
  | nil => exact fun a => Int.le_refl a
  | cons y r ih =>
    intro a
    have := ih (mx a y)
    have h : a ≤ mx a y := by unfold mx; split <;> omega
    exact Int.le_trans h this
theorem clS_ge (l : List Int) (a i : Int) : a ≤ clS l a i := le_foldl_mx _ _

theorem litS_zero {b a : Int} {l : List Int} (h : litS b a l = 0) : 1 ≤ a ∧ a ≤ b ∧ 1 ≤ b ∧ b ≤ 1000000 ∧ l.length ≤ 120 := by
  unfold litS at h
  split at h
  · rename_i hc
    simp [inB] at hc
    split at h
    · simp at h
    · rename_i hl
      omega
  · simp at h
def cleanS (b a : Int) (l : List Int) (s : Int) : Int × Int × Int := if litS b a l = 0 then (if inB 0 ((l.length : Int) - 1) [s] then (clS l a s, b, 0) else (0, 0, 2)) else (0, 0, litS b a l)
theorem Clean_eq (k : Nat) (b a : Int) (l : List Int) (s : Int) (hk : 0 < k) : burn_Clean.f k b a l s = some (cleanS b a l s) := by
  unfold burn_Clean.f cleanS
  rw [lit_eq k b a l hk]
  simp only [Option.bind_some]
  by_cases h : litS b a l = 0
  · have hz := litS_zero h
    rw [if_pos h, if_pos h, w64 (by omega) (by omega), in_eq]
    simp only [Option.bind_some]
    by_cases hi : inB 0 ((l.length : Int) - 1) [s] = true
    · have hs := (inB_one _ _ _).1 hi
      rw [if_pos hi, if_pos hi, if_pos hs.1, if_pos (by omega), drop_rd' l s hs.1 (by omega)]
      simp only [slices_Max_int_int.f, Option.bind_some]
      rw [foldl_mx, clS, drop_rd' l s hs.1 (by omega)]
      rfl
    · rw [if_neg hi, if_neg hi]
  · rw [if_neg h, if_neg h]
def dS (l : List Int) (b a : Int) : Nat → Int → Int → Int → Int × Int
  | 0, _, s1, s2 => (s1, s2)
  | d + 1, i, s1, s2 => dS l b a d (i + 1) (wrap64 (s1 + dkF (rd l i) (clS l a i))) (wrap64 (s2 + dkF (rd l i) b))
def darkS (b a : Int) (l : List Int) (s : Int) : Int × Int × Int := if litS b a l = 0 then (if inB 0 ((l.length : Int) - 1) [s] then (dkF (rd l s) (clS l a s), dkF (rd l s) b, 0) else (0, 0, 2)) else (0, 0, litS b a l)
theorem litS_two (b a : Int) (l : List Int) : litS b a l ≠ 2 := by
  unfold litS
  repeat' split
  all_goals omega
theorem Dark_eq (k : Nat) (b a : Int) (l : List Int) (s : Int) (hk : 0 < k) : burn_Dark.f k b a l s = some (darkS b a l s) := by
  unfold burn_Dark.f
  rw [Clean_eq k b a l s hk]
  simp only [Option.bind_some, cleanS, darkS]
  by_cases h : litS b a l = 0
  · have hz := litS_zero h
    rw [if_pos h, if_pos h]
    by_cases hi : inB 0 ((l.length : Int) - 1) [s] = true
    · have hs := (inB_one _ _ _).1 hi
      have hg := clS_ge l a s
      simp only [if_pos hi, if_true]
      rw [if_pos hs.1, if_pos (by omega), if_neg (by omega), if_neg (by omega)]
    · simp only [if_neg hi]
      rw [if_neg (by decide)]
  · simp only [if_neg h]
/-! ### smoke -/
def smokeS (b a : Int) (l : List Int) (from_ tt : Int) : Int × Int × Int := if litS b a l = 0 then (if 0 ≤ from_ ∧ from_ ≤ tt ∧ tt ≤ l.length then ((dS l b a (tt - from_).toNat from_ 0 0).1, (dS l b a (tt - from_).toNat from_ 0 0).2, 0) else (0, 0, 2)) else (0, 0, litS b a l)
theorem smoke_loop (l : List Int) (b a f n : Int) (hz : litS b a l = 0) (h0 : 0 ≤ f) (hf : f + n ≤ l.length) (d : Nat) : ∀ (k : Nat) (i s1 s2 : Int), 0 ≤ i → n - i = d → d + 1 < k →
    burn_Smoke.l0 k l f n i b a s1 s2 = some ((dS l b a d (f + i) s1 s2).1, (dS l b a d (f + i) s1 s2).2, 0) := by
  have hz' := litS_zero hz
  induction d with
  | zero =>
    intro k i s1 s2 hi hd hk
    obtain ⟨k, rfl⟩ : ∃ m, k = m + 1 := ⟨k - 1, by omega⟩
    simp only [burn_Smoke.l0]
    rw [if_neg (by omega)]
    rfl
  | succ d ih =>
    intro k i s1 s2 hi hd hk
    obtain ⟨k, rfl⟩ : ∃ m, k = m + 1 := ⟨k - 1, by omega⟩
    simp only [burn_Smoke.l0]
    rw [if_pos (by omega), w64 (n := f + i) (by omega) (by omega), Dark_eq _ _ _ _ _ (by omega)]
    simp only [Option.bind_some]
    have e : darkS b a l (f + i) = (dkF (rd l (f + i)) (clS l a (f + i)), dkF (rd l (f + i)) b, 0) := by
      unfold darkS
      rw [if_pos hz, if_pos ((inB_one _ _ _).2 (by omega))]
    rw [e, w64 (n := i + 1) (by omega) (by omega), ih k (i + 1) _ _ (by omega) (by omega) (by omega)]
    simp only [dS]
    rw [show f + (i + 1) = f + i + 1 from by omega]
theorem Smoke_eq (k : Nat) (b a : Int) (l : List Int) (f t : Int) (hk : 200 < k) : burn_Smoke.f k b a l f t = some (smokeS b a l f t) := by
  obtain ⟨k, rfl⟩ : ∃ m, k = m + 1 := ⟨k - 1, by omega⟩
  unfold burn_Smoke.f smokeS
  rw [lit_eq _ b a l (by omega)]
  simp only [Option.bind_some]
  by_cases h : litS b a l = 0
  · have hz := litS_zero h
    rw [if_pos h, if_pos h, in_eq]
    simp only [Option.bind_some, burn_Smoke.j0]
    by_cases hi : inB 0 (l.length : Int) [f, t] = true
    · rw [if_pos hi]
      simp [inB] at hi
      by_cases hft : f > t
      · rw [if_pos (by simpa using hft), if_neg (by omega)]
      · rw [if_neg (by simpa using hft), if_pos (by omega), w64 (n := t - f) (by omega) (by omega), smoke_loop l b a f (t - f) h (by omega) (by omega) (t - f).toNat k 0 0 0 (by omega) (by omega) (by omega)]
        simp
    · rw [if_neg hi]
      simp [inB] at hi
      simp only [if_true]
      rw [if_neg (by omega)]
  · rw [if_neg h, if_neg h]

theorem litS_in {b a : Int} {l : List Int} (h : litS b a l = 0) : ∀ x ∈ l, 0 ≤ x ∧ x ≤ b := by
  unfold litS at h
  split at h
  · split at h
    · simp at h
    · split at h
      · rename_i hi
        exact (inB_iff _ _ _).1 hi
      · simp at h
  · simp at h
theorem clS_step (l : List Int) (a i : Int) (h0 : 0 ≤ i) (h1 : i < l.length) : clS l a i = mx (clS l a (i + 1)) (rd l i) := by
  unfold clS
  rw [drop_rd' l i h0 h1]
  simp only [List.foldl_cons]
  have e : mx a (rd l i) = mx (rd l i) a := by unfold mx; repeat' split; all_goals omega
  rw [e, ← foldl_mx]
  unfold mx
  repeat' split
  all_goals omega
theorem clS_end (l : List Int) (a i : Int) (h : (l.length : Int) ≤ i) : clS l a i = a := by
  unfold clS
  rw [List.drop_of_length_le (by omega)]
  rfl
theorem clS_le {l : List Int} {a b : Int} (hab : a ≤ b) (h : ∀ x ∈ l, 0 ≤ x ∧ x ≤ b) (d : Nat) : ∀ i : Int, 0 ≤ i → (l.length : Int) - i ≤ d → clS l a i ≤ b := by
  induction d with
  | zero => intro i h0 h1; rw [clS_end l a i (by omega)]; exact hab
  | succ d ih =>
    intro i h0 h1
    by_cases hi : i < l.length
    · rw [clS_step l a i h0 hi]
      have := ih (i + 1) (by omega) (by omega)
      have := (h _ (rd_mem l i h0 hi)).2
      unfold mx
      split <;> omega
    · rw [clS_end l a i (by omega)]; exact hab
theorem rd_set (l : List Int) (i j v : Int) (h0 : 0 ≤ i) (h1 : i < l.length) (j0 : 0 ≤ j) : rd (l.set i.toNat v) j = if j = i then v else rd l j := by
  unfold rd
  rw [List.getD_eq_getElem?_getD, List.getD_eq_getElem?_getD, List.getElem?_set]
  by_cases e : j = i
  · rw [if_pos e, e, if_pos rfl, if_pos (by omega)]
    rfl
  · rw [if_neg e, if_neg (by omega)]
theorem dkF_eq (y x : Int) (y0 : 0 ≤ y) (y1 : y ≤ x) (x0 : 1 ≤ x) (x1 : x ≤ 1000000) : dkF y x = 1000 - 1000 * y / x ∧ 0 ≤ 1000 * y / x ∧ 1000 * y / x ≤ 1000 := by
  unfold dkF
  have p0 : 0 ≤ 1000 * y / x := Int.ediv_nonneg (by omega) (by omega)
  have p1 : 1000 * y / x ≤ 1000 := Int.ediv_le_of_le_mul (by omega) (by
    have := Int.mul_le_mul_of_nonneg_left y1 (show (0 : Int) ≤ 1000 by omega)
    omega)
  rw [w64 (n := 1000 * y) (by omega) (by omega), Int.tdiv_eq_ediv_of_nonneg (by omega), w64 (n := 1000 * y / x) (by omega) (by omega), w64 (by omega) (by omega)]
  exact ⟨rfl, p0, p1⟩
theorem dkF_mono (y x x' : Int) (y0 : 0 ≤ y) (y1 : y ≤ x) (x0 : 1 ≤ x) (xx : x ≤ x') (x1 : x' ≤ 1000000) : dkF y x ≤ dkF y x' ∧ 0 ≤ dkF y x ∧ dkF y x' ≤ 1000 := by
  obtain ⟨e1, p0, p1⟩ := dkF_eq y x y0 y1 x0 (by omega)
  obtain ⟨e2, q0, q1⟩ := dkF_eq y x' y0 (by omega) (by omega) x1
  have h : 1000 * y / x' ≤ 1000 * y / x := by
    refine Int.le_ediv_of_mul_le (by omega) ?_
    have h1 : 1000 * y / x' * x ≤ 1000 * y / x' * x' := Int.mul_le_mul_of_nonneg_left xx q0
    have h2 : 1000 * y / x' * x' ≤ 1000 * y := Int.ediv_mul_le _ (by omega)
    omega
  rw [e1, e2]
  omega
section main
variable {b a : Int} {l by_ : List Int} (hz : litS b a l = 0) (hy : U32 by_)
include hz
theorem fouled_least (fr to_ : Int) (d : Nat) : ∀ (k : Nat) (i : Int) (L : List Int) (last : Int), -1 ≤ i → i < l.length → i + 1 = d → L.length = l.length → last = clS l a (i + 1) → (∀ j, i < j → j < (l.length : Int) → rd L j = clS l a j) →
    ∃ L', L'.length = l.length ∧ (∀ j, 0 ≤ j → j < (l.length : Int) → rd L' j = clS l a j) ∧
      cottonpadlaw04_BurnFouled.l0 (k + (d + 1)) by_ fr to_ true (l.length : Int) L last i b a l = cottonpadlaw04_BurnFouled.l0 (k + 1) by_ fr to_ true (l.length : Int) L' (clS l a 0) (-1) b a l := by
  have hz' := litS_zero hz
  induction d with
  | zero =>
    intro k i L last h0 h1 hd hL hl hr
    obtain rfl : i = -1 := by omega
    exact ⟨L, hL, fun j j0 j1 => hr j (by omega) j1, by rw [hl]; rfl⟩
  | succ d ih =>
    intro k i L last h0 h1 hd hL hl hr
    rw [show k + (d + 1 + 1) = (k + (d + 1)) + 1 from by omega, cottonpadlaw04_BurnFouled.l0, if_pos (by omega), if_pos (by omega), if_pos h1, if_pos (by omega), w64 (by omega) (by omega), hl, ← clS_step l a i (by omega) h1]
    refine ih k (i - 1) _ _ (by omega) (by omega) (by omega) (by simpa using hL) (by rw [show i - 1 + 1 = i from by omega]) fun j j0 j1 => ?_
    rw [rd_set L i j _ (by omega) (by omega) (by omega)]
    by_cases e : j = i
    · rw [if_pos e, e]
    · rw [if_neg e]
      exact hr j (by omega) j1
include hy
theorem fouled_loop (L : List Int) (hL : L.length = l.length) (hr : ∀ j, 0 ≤ j → j < (l.length : Int) → rd L j = clS l a j) (A B : Int) (A0 : 0 ≤ A) (AB : A ≤ B) (B1 : B ≤ l.length) (d : Nat) :
    ∀ (k : Nat) (i now all s0 s1 : Int), 0 ≤ i → (l.length : Int) - i = d → 3 * d + 300 < k → clS l a i ≤ now → now ≤ b →
      dS l b a (B - max A (min i B)).toNat (max A (min i B)) s0 s1 = dS l b a (B - A).toNat A 0 0 → s0 ≤ all → all ≤ s1 → 0 ≤ s0 → s1 ≤ 1000 * i →
      cottonpadlaw04_BurnFouled.l1 k by_ true L A B now all (l.length : Int) i b a l s0 s1 = some true := by
  have hz' := litS_zero hz
  have hin := litS_in hz
  induction d with
  | zero =>
    intro k i now all s0 s1 h0 hd hk n0 n1 hs a0 a1 p0 p1
    obtain ⟨k, rfl⟩ : ∃ m, k = m + 1 := ⟨k - 1, by omega⟩
    rw [cottonpadlaw04_BurnFouled.l1, if_neg (by omega), Smoke_eq _ _ _ _ _ _ (by omega), Option.bind_some]
    have e : smokeS b a l A B = ((dS l b a (B - A).toNat A 0 0).1, (dS l b a (B - A).toNat A 0 0).2, 0) := by
      unfold smokeS
      rw [if_pos hz, if_pos ⟨A0, AB, B1⟩]
    have em : max A (min i B) = B := by omega
    rw [em, show (B - B).toNat = 0 from by omega] at hs
    simp only [dS] at hs
    rw [e, ← hs, if_pos rfl, if_pos rfl, if_pos (by simp), if_pos a0, decide_eq_true a1]
  | succ d ih =>
    intro k i now all s0 s1 h0 hd hk n0 n1 hs a0 a1 p0 p1
    obtain ⟨k, rfl⟩ : ∃ m, k = m + 3 := ⟨k - 3, by omega⟩
    have hi : i < (l.length : Int) := by omega
    have hc := clS_ge l a i
    have hy0 := hin _ (rd_mem l i h0 hi)
    have hstep := clS_step l a i h0 hi
    have hge : rd l i ≤ clS l a i ∧ clS l a (i + 1) ≤ clS l a i := by
      rw [hstep]
      unfold mx
      split <;> omega
    obtain ⟨c, ec, c0, c1⟩ := choose_ok hy i h0
    obtain ⟨p, ep, q0, q1⟩ := pick_ok (clS l a i) now c (by omega) n0 (by omega) c0
    have eC : cleanS b a l i = (clS l a i, b, 0) := by
      unfold cleanS
      rw [if_pos hz, if_pos ((inB_one _ _ _).2 (by omega))]
    have eD : darkS b a l i = (dkF (rd l i) (clS l a i), dkF (rd l i) b, 0) := by
      unfold darkS
      rw [if_pos hz, if_pos ((inB_one _ _ _).2 (by omega))]
    have f1 : ∀ x, x ≠ 0 → cottonpadlaw04_BurnFouled_1.f i x l = some (dkF (rd l i) x) := fun x hx => by
      unfold cottonpadlaw04_BurnFouled_1.f
      rw [if_pos h0, if_pos hi, if_neg hx]
    obtain ⟨m1, m2, m3⟩ := dkF_mono (rd l i) (clS l a i) p hy0.1 hge.1 (by omega) q0 (by omega)
    obtain ⟨m4, m5, m6⟩ := dkF_mono (rd l i) p b hy0.1 (by omega) (by omega) (by omega) (by omega)
    rw [cottonpadlaw04_BurnFouled.l1, if_pos hi, if_pos h0, if_pos (by omega), hr i h0 hi]
    have sp : ∀ x y, cottonpadlaw04_span.f x y = some (x, y) := fun _ _ => rfl
    rw [sp, Option.bind_some, ec, Option.bind_some, ep, Option.bind_some, Clean_eq _ _ _ _ _ (by omega), Option.bind_some, Dark_eq _ _ _ _ _ (by omega), Option.bind_some, eC, eD, if_pos rfl, if_pos rfl, sp, Option.bind_some, if_neg (by simp), if_neg (by simp only; omega), if_neg (by simp only; omega),
      f1 _ (by omega), Option.bind_some, f1 _ (by omega), Option.bind_some, sp, Option.bind_some, if_neg (by simp), f1 _ (by omega), Option.bind_some, if_neg (by simp only; omega), Option.bind_some]
    simp only
    rw [decide_eq_false (by omega), cottonpadlaw04_BurnFouled.j3, if_neg (by simp)]
    have ew : wrap64 (i + 1) = i + 1 := w64 (by omega) (by omega)
    have hback : ∀ (s0' s1' all' : Int), dS l b a (B - max A (min (i + 1) B)).toNat (max A (min (i + 1) B)) s0' s1' = dS l b a (B - A).toNat A 0 0 → s0' ≤ all' → all' ≤ s1' → 0 ≤ s0' → s1' ≤ 1000 * (i + 1) →
        cottonpadlaw04_BurnFouled.l1 k by_ true L A B p all' (l.length : Int) (i + 1) b a l s0' s1' = some true := fun s0' s1' all' x1 x2 x3 x4 x5 =>
      ih k (i + 1) p all' s0' s1' (by omega) (by omega) (by omega) (by omega) (by omega) x1 x2 x3 x4 x5
    by_cases hA : i ≥ A
    · rw [if_pos hA]
      by_cases hB : i < B
      · rw [decide_eq_true hB, cottonpadlaw04_BurnFouled.j4, if_pos rfl, sp, Option.bind_some, f1 _ (by omega), Option.bind_some, ew]
        simp only
        have e1 : max A (min i B) = i := by omega
        have e2 : max A (min (i + 1) B) = i + 1 := by omega
        rw [e1, show (B - i).toNat = (B - (i + 1)).toNat + 1 from by omega] at hs
        simp only [dS] at hs
        rw [w64 (n := all + _) (by omega) (by omega)]
        refine hback _ _ _ (by rw [e2]; exact hs) ?_ ?_ ?_ ?_
        · rw [w64 (by omega) (by omega)]; omega
        · rw [w64 (by omega) (by omega)]; omega
        · rw [w64 (by omega) (by omega)]; omega
        · rw [w64 (by omega) (by omega)]; omega
      · rw [decide_eq_false hB, cottonpadlaw04_BurnFouled.j4, if_neg (by simp), ew]
        have e1 : max A (min (i + 1) B) = max A (min i B) := by omega
        exact hback _ _ _ (by rw [e1]; exact hs) a0 a1 p0 (by omega)
    · rw [if_neg hA, cottonpadlaw04_BurnFouled.j4, if_neg (by simp), ew]
      have e1 : max A (min (i + 1) B) = max A (min i B) := by omega
      exact hback _ _ _ (by rw [e1]; exact hs) a0 a1 p0 (by omega)
end main
theorem pureFouled' (k : Nat) (hk : 1000 < k) (hal : cottonpadlaw04_alive.f k = some true) (b a : Int) (l by_ : List Int) (fr to_ : Int) (hy : by_.length ≤ maxLen ∧ ∀ x ∈ by_, (Lit.int .u32 x).wf = true) (w3 : (Lit.int .u8 fr).wf = true) (w4 : (Lit.int .u8 to_).wf = true) :
    cottonpadlaw04_BurnFouled.f k b a l by_ fr to_ = some true := by
  have hy' : U32 by_ := ⟨hy.1, fun x hx => u32_ok (hy.2 x hx)⟩
  have h3 := u8_ok w3
  have h4 := u8_ok w4
  unfold cottonpadlaw04_BurnFouled.f cottonpadref04_Great.f
  rw [hal, Option.bind_some, Option.bind_some]
  obtain ⟨k, rfl⟩ : ∃ m, k = m + 1 := ⟨k - 1, by omega⟩
  have hno : cottonpadlaw04_BurnFouled.j0 (k + 1) by_ fr to_ true true b a l = some true := by rw [cottonpadlaw04_BurnFouled.j0, if_pos rfl]
  by_cases hg : (l.length : Int) > 150
  · rw [if_pos (by simpa using hg)]; exact hno
  · rw [if_neg (by simpa using hg), Lights_eq _ _ _ _ (by omega), Option.bind_some]
    by_cases hz : litS b a l = 0
    · rw [if_pos hz, cottonpadlaw04_BurnFouled.j0, if_neg (by simp), if_pos (by omega), if_pos (by omega)]
      have hz' := litS_zero hz
      have hin := litS_in hz
      have hb := clS_le (a := a) (b := b) (by omega) hin l.length 0 (Int.le_refl _) (by omega)
      rw [w64 (n := (l.length : Int) - 1) (by omega) (by omega)]
      obtain ⟨k, rfl⟩ : ∃ m, k = m + (l.length + 1) := ⟨k - (l.length + 1), by omega⟩
      obtain ⟨L, hL, hr, e⟩ := fouled_least (by_ := by_) hz fr to_ l.length k ((l.length : Int) - 1) (List.replicate ((l.length : Int)).toNat 0) a (by omega) (by omega) (by omega) (by simp) (by rw [clS_end l a _ (by omega)]) (fun j j0 j1 => by omega)
      rw [e, cottonpadlaw04_BurnFouled.l0, if_neg (by omega), w64 (n := fr) (by omega) (by omega), w64 (n := to_) (by omega) (by omega), w64 (n := (l.length : Int) + 1) (by omega) (by omega), if_neg (by omega), mn_eq, mx_eq,
        Int.tmod_eq_emod_of_nonneg h3.1, Int.tmod_eq_emod_of_nonneg h4.1]
      have p0 := Int.emod_nonneg fr (show (l.length : Int) + 1 ≠ 0 by omega)
      have p1 := Int.emod_lt_of_pos fr (show 0 < (l.length : Int) + 1 by omega)
      have q0 := Int.emod_nonneg to_ (show (l.length : Int) + 1 ≠ 0 by omega)
      have q1 := Int.emod_lt_of_pos to_ (show 0 < (l.length : Int) + 1 by omega)
      generalize fr % ((l.length : Int) + 1) = u at *
      generalize to_ % ((l.length : Int) + 1) = v at *
      refine fouled_loop hz hy' L hL hr (min u v) (max u v) (by omega) (by omega) (by omega) l.length k 0 b 0 0 0 (Int.le_refl _) (by omega) (by omega) hb (Int.le_refl _) ?_ (Int.le_refl _) (Int.le_refl _) (Int.le_refl _) (by omega)
      rw [show max (min u v) (min 0 (max u v)) = min u v from by omega]
    · rw [if_neg hz]; exact hno
/-- The one plain statement of BurnFouled. -/
theorem pureFouled (b a : Int) (l by_ : List Int) (fr to_ : Int) (hy : by_.length ≤ maxLen ∧ ∀ x ∈ by_, (Lit.int .u32 x).wf = true) (w3 : (Lit.int .u8 fr).wf = true) (w4 : (Lit.int .u8 to_).wf = true) :
    ∃ k, cottonpadlaw04_BurnFouled.f k b a l by_ fr to_ = some true :=
  ⟨1000 + 1000, pureFouled' (1000 + 1000) (by omega) (alive_more 1000) b a l by_ fr to_ hy w3 w4⟩
end Go.Proofs.YtfgclmbndgakgaaDoor.Pure
