/- BurnSmokes, the plain law: lamps, lights, dark and smoke as the code tells them are what the reference tells, whatever whole numbers come in and however long (up to what memory holds) the lights are. -/
import Derived.Test.YtfgclmbndgakgaaPBx
namespace Go.Proofs.Ytfgclmbndgakgaa.PureS
open Go.RowKit Go.Proofs.Ytfgclmbndgakgaa Go.Proofs.Ytfgclmbndgakgaa.PB Go.Proofs.Ytfgclmbndgakgaa.PC1 Go.Proofs.YtfgclmbndgakgaaW.PrintWords Go.Proofs.YtfgclmbndgakgaaW.PrintLast Go.Proofs.YtfgclmbndgakgaaW.PrintMore
set_option linter.unusedVariables false
set_option linter.unusedSimpArgs false

theorem w64 {n : Int} (h0 : -9223372036854775808 ≤ n) (h1 : n ≤ 9223372036854775807) : wrap64 n = n := by unfold wrap64; omega
theorem w64_w (n : Int) : wrap64 (wrap64 n) = wrap64 n := by unfold wrap64; omega

/-! ### the lamp and the lights -/
def inB (lo hi : Int) (l : List Int) : Bool := l.all fun x => decide (lo ≤ x) && decide (x ≤ hi)
theorem in_eq (lo hi : Int) (l : List Int) : burn_in.f lo hi l = some (inB lo hi l) := by
  unfold burn_in.f inB
  congr 1
  rw [List.not_any_eq_all_not]
  congr 1
  funext x
  by_cases h1 : x < lo <;> by_cases h2 : hi < x <;> simp [h1, h2] <;> omega
def litS (b a : Int) (l : List Int) : Int := if inB 1 1000000 [b] && inB 1 b [a] then (if (l.length : Int) > 120 then 41 else if inB 0 b l then 0 else 41) else 42
theorem lit_eq (k : Nat) (b a : Int) (l : List Int) (hk : 0 < k) : burn_lit.f k b a l = some (litS b a l) := by
  obtain ⟨k, rfl⟩ : ∃ m, k = m + 1 := ⟨k - 1, by omega⟩
  unfold burn_lit.f litS
  rw [in_eq, in_eq]
  simp only [Option.bind_some, burn_lit.j0, in_eq]
  by_cases h : (l.length : Int) > 120 <;> cases inB 1 1000000 [b] <;> cases inB 1 b [a] <;> cases inB 0 b l <;> simp [h]
theorem within_eq (x lo hi : Int) : cottonpadref04_within.f x lo hi = some (inB lo hi [x]) := by
  unfold cottonpadref04_within.f inB
  by_cases h1 : x ≥ lo <;> by_cases h2 : x ≤ hi <;> simp [h1, h2]
theorem rd_mem (l : List Int) (i : Int) (h0 : 0 ≤ i) (h1 : i < l.length) : rd l i ∈ l := by
  unfold rd
  rw [List.getD_eq_getElem?_getD, List.getElem?_eq_getElem (by omega : i.toNat < l.length)]
  simp
theorem drop_rd' (l : List Int) (i : Int) (h0 : 0 ≤ i) (h : i < l.length) : l.drop i.toNat = rd l i :: l.drop (i + 1).toNat := by
  have := drop_rd l i.toNat (by omega)
  rw [show ((i.toNat : Nat) : Int) = i from by omega] at this
  rw [this, show (i + 1).toNat = i.toNat + 1 from by omega]
theorem reads_loop (l : List Int) (m : Int) (hl : l.length ≤ 150) (d : Nat) : ∀ (k : Nat) (i : Int), 0 ≤ i → i ≤ l.length → (l.length : Int) - i = d → d < k →
    cottonpadref04_reads.l0 k l m i = some (inB 0 m (l.drop i.toNat)) := by
  induction d with
  | zero =>
    intro k i h0 h1 hd hk
    obtain ⟨k, rfl⟩ : ∃ m, k = m + 1 := ⟨k - 1, by omega⟩
    simp only [cottonpadref04_reads.l0]
    rw [if_neg (by omega), List.drop_of_length_le (by omega)]
    rfl
  | succ d ih =>
    intro k i h0 h1 hd hk
    obtain ⟨k, rfl⟩ : ∃ m, k = m + 1 := ⟨k - 1, by omega⟩
    simp only [cottonpadref04_reads.l0]
    rw [if_pos (by omega), if_pos h0, within_eq, Option.bind_some, drop_rd' l i h0 (by omega)]
    rw [w64 (by omega) (by omega), ih k (i + 1) (by omega) (by omega) (by omega) (by omega)]
    have e : inB 0 m (rd l i :: l.drop (i + 1).toNat) = (inB 0 m [rd l i] && inB 0 m (l.drop (i + 1).toNat)) := by simp [inB]
    rw [e]
    cases inB 0 m [rd l i] <;> simp
theorem Lights_eq (k : Nat) (b a : Int) (l : List Int) (hk : 150 < k) : cottonpadref04_Lights.f k b a l = some (litS b a l) := by
  unfold cottonpadref04_Lights.f cottonpadref04_Lamp.f litS cottonpadref04_reads.f
  rw [within_eq, within_eq]
  simp only [Option.bind_some]
  by_cases h : (l.length : Int) > 120
  · simp only [if_pos h, Option.bind_some]
    cases inB 1 1000000 [b] <;> cases inB 1 b [a] <;> simp
  · simp only [if_neg h]
    rw [reads_loop l b (by omega) l.length k 0 (by omega) (by omega) (by omega) (by omega)]
    simp only [Option.bind_some, Int.toNat_zero, List.drop_zero]
    cases inB 1 1000000 [b] <;> cases inB 1 b [a] <;> cases inB 0 b l <;> simp

/-! ### clean air -/
def clS (l : List Int) (a i : Int) : Int := (l.drop i.toNat).foldl mx a
theorem foldl_mx (a x : Int) (r : List Int) : mx a (r.foldl mx x) = r.foldl mx (mx a x) := by
  induction r generalizing x with
  | nil => rfl
  | cons y r ih =>
    simp only [List.foldl_cons]
    rw [ih]
    congr 1
    unfold mx
    repeat' split
    all_goals omega
theorem clean_loop (l : List Int) (hl : l.length ≤ 150) (d : Nat) : ∀ (k : Nat) (i n : Int), 0 ≤ i → i ≤ l.length → (l.length : Int) - i = d → d < k →
    cottonpadref04_clean.l0 k l n i = some (clS l n i) := by
  induction d with
  | zero =>
    intro k i n h0 h1 hd hk
    obtain ⟨k, rfl⟩ : ∃ m, k = m + 1 := ⟨k - 1, by omega⟩
    simp only [cottonpadref04_clean.l0]
    rw [if_neg (by omega), clS, List.drop_of_length_le (by omega)]
    rfl
  | succ d ih =>
    intro k i n h0 h1 hd hk
    obtain ⟨k, rfl⟩ : ∃ m, k = m + 1 := ⟨k - 1, by omega⟩
    simp only [cottonpadref04_clean.l0]
    rw [if_pos (by omega), if_pos h0, w64 (by omega) (by omega), ih k (i + 1) _ (by omega) (by omega) (by omega) (by omega)]
    rw [clS, clS, drop_rd' l i h0 (by omega)]
    rfl
theorem le_foldl_mx (r : List Int) : ∀ a : Int, a ≤ r.foldl mx a := by
  induction r with
  | nil => exact fun a => Int.le_refl a
  | cons y r ih =>
    intro a
    have := ih (mx a y)
    have h : a ≤ mx a y := by unfold mx; split <;> omega
    exact Int.le_trans h this
theorem clS_ge (l : List Int) (a i : Int) : a ≤ clS l a i := le_foldl_mx _ _

theorem litS_zero {b a : Int} {l : List Int} (h : litS b a l = 0) : 1 ≤ a ∧ a ≤ b ∧ 1 ≤ b ∧ b ≤ 1000000 ∧ l.length ≤ 120 := by
  unfold litS at h
  split at h
  · rename_i hc
    simp [inB] at hc
    split at h
    · simp at h
    · rename_i hl
      omega
  · simp at h
theorem inB_one (lo hi x : Int) : inB lo hi [x] = true ↔ lo ≤ x ∧ x ≤ hi := by simp [inB]

def cleanS (b a : Int) (l : List Int) (s : Int) : Int × Int × Int := if litS b a l = 0 then (if inB 0 ((l.length : Int) - 1) [s] then (clS l a s, b, 0) else (0, 0, 2)) else (0, 0, litS b a l)
theorem Clean_eq (k : Nat) (b a : Int) (l : List Int) (s : Int) (hk : 0 < k) : burn_Clean.f k b a l s = some (cleanS b a l s) := by
  unfold burn_Clean.f cleanS
  rw [lit_eq k b a l hk]
  simp only [Option.bind_some]
  by_cases h : litS b a l = 0
  · have hz := litS_zero h
    rw [if_pos h, if_pos h, w64 (by omega) (by omega), in_eq]
    simp only [Option.bind_some]
    by_cases hi : inB 0 ((l.length : Int) - 1) [s] = true
    · have hs := (inB_one _ _ _).1 hi
      rw [if_pos hi, if_pos hi, if_pos hs.1, if_pos (by omega), drop_rd' l s hs.1 (by omega)]
      simp only [slices_Max_int_int.f, Option.bind_some]
      rw [foldl_mx, clS, drop_rd' l s hs.1 (by omega)]
      rfl
    · rw [if_neg hi, if_neg hi]
  · rw [if_neg h, if_neg h]
theorem refClean_eq (k : Nat) (b a : Int) (l : List Int) (s : Int) (hk : 150 < k) : cottonpadref04_Clean.f k b a l s = some (cleanS b a l s) := by
  unfold cottonpadref04_Clean.f cleanS
  rw [Lights_eq k b a l hk]
  simp only [Option.bind_some]
  by_cases h : litS b a l = 0
  · have hz := litS_zero h
    rw [if_pos h, if_pos h, w64 (by omega) (by omega), within_eq]
    simp only [Option.bind_some]
    by_cases hi : inB 0 ((l.length : Int) - 1) [s] = true
    · have hs := (inB_one _ _ _).1 hi
      rw [if_pos hi, if_pos hi, cottonpadref04_clean.f, clean_loop l (by omega) (l.length - s.toNat) k s a hs.1 (by omega) (by omega) (by omega)]
      rfl
    · rw [if_neg hi, if_neg hi]
  · rw [if_neg h, if_neg h]

/-! ### dark -/
theorem dark_eq (y x : Int) (h : x ≠ 0) : cottonpadref04_dark.f y x = some (dkF y x) := by
  unfold cottonpadref04_dark.f dkF
  rw [if_neg h]
def dS (l : List Int) (b a : Int) : Nat → Int → Int → Int → Int × Int
  | 0, _, s1, s2 => (s1, s2)
  | d + 1, i, s1, s2 => dS l b a d (i + 1) (wrap64 (s1 + dkF (rd l i) (clS l a i))) (wrap64 (s2 + dkF (rd l i) b))
def darkS (b a : Int) (l : List Int) (s : Int) : Int × Int × Int := if litS b a l = 0 then (if inB 0 ((l.length : Int) - 1) [s] then (dkF (rd l s) (clS l a s), dkF (rd l s) b, 0) else (0, 0, 2)) else (0, 0, litS b a l)
theorem litS_two (b a : Int) (l : List Int) : litS b a l ≠ 2 := by
  unfold litS
  repeat' split
  all_goals omega
theorem Dark_eq (k : Nat) (b a : Int) (l : List Int) (s : Int) (hk : 0 < k) : burn_Dark.f k b a l s = some (darkS b a l s) := by
  unfold burn_Dark.f
  rw [Clean_eq k b a l s hk]
  simp only [Option.bind_some, cleanS, darkS]
  by_cases h : litS b a l = 0
  · have hz := litS_zero h
    rw [if_pos h, if_pos h]
    by_cases hi : inB 0 ((l.length : Int) - 1) [s] = true
    · have hs := (inB_one _ _ _).1 hi
      have hg := clS_ge l a s
      simp only [if_pos hi, if_true]
      rw [if_pos hs.1, if_pos (by omega), if_neg (by omega), if_neg (by omega)]
    · simp only [if_neg hi]
      rw [if_neg (by decide)]
  · simp only [if_neg h]
theorem darks_loop (l : List Int) (b a tt : Int) (hl : l.length ≤ 150) (ht : tt ≤ l.length) (ha : 1 ≤ a) (hb : 1 ≤ b) (d : Nat) : ∀ (k : Nat) (i s1 s2 : Int), 0 ≤ i → tt - i = d → d + 150 < k →
    cottonpadref04_darks.l0 k l tt i b a s1 s2 = some (dS l b a d i s1 s2) := by
  induction d with
  | zero =>
    intro k i s1 s2 h0 hd hk
    obtain ⟨k, rfl⟩ : ∃ m, k = m + 1 := ⟨k - 1, by omega⟩
    simp only [cottonpadref04_darks.l0]
    rw [if_neg (by omega)]
    rfl
  | succ d ih =>
    intro k i s1 s2 h0 hd hk
    obtain ⟨k, rfl⟩ : ∃ m, k = m + 1 := ⟨k - 1, by omega⟩
    have hg := clS_ge l a i
    simp only [cottonpadref04_darks.l0]
    rw [if_pos (by omega), if_pos h0, if_pos (by omega), cottonpadref04_clean.f, clean_loop l hl (l.length - i.toNat) k i a h0 (by omega) (by omega) (by omega)]
    simp only [Option.bind_some]
    rw [dark_eq _ _ (by omega), dark_eq _ _ (by omega)]
    simp only [Option.bind_some]
    rw [w64 (n := i + 1) (by omega) (by omega)]
    exact ih k (i + 1) _ _ (by omega) (by omega) (by omega)
theorem dkF_w (y x : Int) : wrap64 (0 + dkF y x) = dkF y x := by
  unfold dkF
  rw [Int.zero_add, w64_w]
theorem refDark_eq (k : Nat) (b a : Int) (l : List Int) (s : Int) (hk : 200 < k) : cottonpadref04_Dark.f k b a l s = some (darkS b a l s) := by
  unfold cottonpadref04_Dark.f darkS
  rw [Lights_eq k b a l (by omega)]
  simp only [Option.bind_some]
  by_cases h : litS b a l = 0
  · have hz := litS_zero h
    rw [if_pos h, if_pos h, w64 (by omega) (by omega), within_eq]
    simp only [Option.bind_some]
    by_cases hi : inB 0 ((l.length : Int) - 1) [s] = true
    · have hs := (inB_one _ _ _).1 hi
      rw [if_pos hi, if_pos hi, cottonpadref04_darks.f, w64 (by omega) (by omega), darks_loop l b a (s + 1) (by omega) (by omega) (by omega) (by omega) 1 k s 0 0 hs.1 (by omega) (by omega)]
      simp only [Option.bind_some, dS, dkF_w]
    · rw [if_neg hi, if_neg hi]
  · rw [if_neg h, if_neg h]

/-! ### smoke -/
def smokeS (b a : Int) (l : List Int) (from_ tt : Int) : Int × Int × Int := if litS b a l = 0 then (if 0 ≤ from_ ∧ from_ ≤ tt ∧ tt ≤ l.length then ((dS l b a (tt - from_).toNat from_ 0 0).1, (dS l b a (tt - from_).toNat from_ 0 0).2, 0) else (0, 0, 2)) else (0, 0, litS b a l)
theorem smoke_loop (l : List Int) (b a f n : Int) (hz : litS b a l = 0) (h0 : 0 ≤ f) (hf : f + n ≤ l.length) (d : Nat) : ∀ (k : Nat) (i s1 s2 : Int), 0 ≤ i → n - i = d → d + 1 < k →
    burn_Smoke.l0 k l f n i b a s1 s2 = some ((dS l b a d (f + i) s1 s2).1, (dS l b a d (f + i) s1 s2).2, 0) := by
  have hz' := litS_zero hz
  induction d with
  | zero =>
    intro k i s1 s2 hi hd hk
    obtain ⟨k, rfl⟩ : ∃ m, k = m + 1 := ⟨k - 1, by omega⟩
    simp only [burn_Smoke.l0]
    rw [if_neg (by omega)]
    rfl
  | succ d ih =>
    intro k i s1 s2 hi hd hk
    obtain ⟨k, rfl⟩ : ∃ m, k = m + 1 := ⟨k - 1, by omega⟩
    simp only [burn_Smoke.l0]
    rw [if_pos (by omega), w64 (n := f + i) (by omega) (by omega), Dark_eq _ _ _ _ _ (by omega)]
    simp only [Option.bind_some]
    have e : darkS b a l (f + i) = (dkF (rd l (f + i)) (clS l a (f + i)), dkF (rd l (f + i)) b, 0) := by
      unfold darkS
      rw [if_pos hz, if_pos ((inB_one _ _ _).2 (by omega))]
    rw [e, w64 (n := i + 1) (by omega) (by omega), ih k (i + 1) _ _ (by omega) (by omega) (by omega)]
    simp only [dS]
    rw [show f + (i + 1) = f + i + 1 from by omega]
theorem Smoke_eq (k : Nat) (b a : Int) (l : List Int) (f t : Int) (hk : 200 < k) : burn_Smoke.f k b a l f t = some (smokeS b a l f t) := by
  obtain ⟨k, rfl⟩ : ∃ m, k = m + 1 := ⟨k - 1, by omega⟩
  unfold burn_Smoke.f smokeS
  rw [lit_eq _ b a l (by omega)]
  simp only [Option.bind_some]
  by_cases h : litS b a l = 0
  · have hz := litS_zero h
    rw [if_pos h, if_pos h, in_eq]
    simp only [Option.bind_some, burn_Smoke.j0]
    by_cases hi : inB 0 (l.length : Int) [f, t] = true
    · rw [if_pos hi]
      simp [inB] at hi
      by_cases hft : f > t
      · rw [if_pos (by simpa using hft), if_neg (by omega)]
      · rw [if_neg (by simpa using hft), if_pos (by omega), w64 (n := t - f) (by omega) (by omega), smoke_loop l b a f (t - f) h (by omega) (by omega) (t - f).toNat k 0 0 0 (by omega) (by omega) (by omega)]
        simp
    · rw [if_neg hi]
      simp [inB] at hi
      simp only [if_true]
      rw [if_neg (by omega)]
  · rw [if_neg h, if_neg h]
theorem refSmoke_eq (k : Nat) (b a : Int) (l : List Int) (f t : Int) (hk : 400 < k) : cottonpadref04_Smoke.f k b a l f t = some (smokeS b a l f t) := by
  unfold cottonpadref04_Smoke.f smokeS
  rw [Lights_eq _ b a l (by omega)]
  simp only [Option.bind_some]
  by_cases h : litS b a l = 0
  · have hz := litS_zero h
    rw [if_pos h, if_pos h]
    by_cases h1 : f < 0
    · rw [if_pos h1, if_neg (by omega)]
    · rw [if_neg h1]
      by_cases h2 : t < f
      · rw [if_pos h2, if_neg (by omega)]
      · rw [if_neg h2]
        by_cases h3 : t > (l.length : Int)
        · rw [if_pos h3, if_neg (by omega)]
        · rw [if_neg h3, if_pos (by omega), cottonpadref04_darks.f, darks_loop l b a t (by omega) (by omega) (by omega) (by omega) (t - f).toNat k f 0 0 (by omega) (by omega) (by omega)]
          simp
  · rw [if_neg h, if_neg h]
theorem same_loop (l : List Int) (hl : l.length ≤ 1000000) (d : Nat) : ∀ (k : Nat) (i : Int), 0 ≤ i → (l.length : Int) - i = d → d < k →
    cottonpadref04_SameInts.l0 k l l i = some true := by
  induction d with
  | zero =>
    intro k i h0 hd hk
    obtain ⟨k, rfl⟩ : ∃ m, k = m + 1 := ⟨k - 1, by omega⟩
    simp only [cottonpadref04_SameInts.l0]
    rw [if_neg (by omega)]
  | succ d ih =>
    intro k i h0 hd hk
    obtain ⟨k, rfl⟩ : ∃ m, k = m + 1 := ⟨k - 1, by omega⟩
    simp only [cottonpadref04_SameInts.l0]
    rw [if_pos (by omega), if_pos h0, if_pos (by omega), if_pos trivial, w64 (by omega) (by omega)]
    exact ih k (i + 1) (by omega) (by omega) (by omega)

/-- The one plain statement of BurnSmokes. -/
theorem pure (b a : Int) (l : List Int) (s f t : Int) : ∃ k, cottonpadlaw04_BurnSmokes.f k b a l s f t = some true := by
  refine ⟨1000, ?_⟩
  unfold cottonpadlaw04_BurnSmokes.f cottonpadref04_Great.f
  simp only [Option.bind_some]
  by_cases hg : (l.length : Int) > 150
  · rw [if_pos (by simpa using hg)]
  · rw [if_neg (by simpa using hg), if_pos (by simp; omega)]
    simp only [List.nil_append]
    rw [Clean_eq _ _ _ _ _ (by omega), refClean_eq _ _ _ _ _ (by omega), Dark_eq _ _ _ _ _ (by omega), refDark_eq _ _ _ _ _ (by omega), Smoke_eq _ _ _ _ _ _ (by omega), refSmoke_eq _ _ _ _ _ _ (by omega)]
    simp only [Option.bind_some, beq_self_eq_true, Bool.and_self, if_true]
    unfold cottonpadref04_SameInts.f
    rw [if_pos rfl, same_loop l (by omega) l.length 1000 0 (by omega) (by omega) (by omega)]
    rfl
end Go.Proofs.Ytfgclmbndgakgaa.PureS
