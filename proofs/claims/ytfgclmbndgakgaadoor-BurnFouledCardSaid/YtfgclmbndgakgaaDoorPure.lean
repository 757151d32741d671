/- The plain law of the door seat: what Check, Heat, Sum, First tell of a valid hood and valid readings; and that the chapter's examples stand. -/
import Derived.Test.YtfgclmbndgakgaaDoorSpec
import Derived.Test.YtfgclmbndgakgaaDoorPRx
import Derived.DataShut
namespace Go.Proofs.YtfgclmbndgakgaaDoor.Pure
open Go.RowKit Go.Proofs.YtfgclmbndgakgaaDoor Go.Proofs.YtfgclmbndgakgaaDoor.PR Go.Proofs.YtfgclmbndgakgaaDoor.PC2 Go.Proofs.YtfgclmbndgakgaaDoorW.PrintWords Go.Proofs.YtfgclmbndgakgaaDoorW.PrintLast Go.Proofs.YtfgclmbndgakgaaDoorW.PrintMore
set_option linter.unusedVariables false
set_option linter.unusedSimpArgs false

theorem w64 {n : Int} (h0 : -9223372036854775808 ≤ n) (h1 : n ≤ 9223372036854775807) : wrap64 n = n := by unfold wrap64; omega
theorem w64_w (n : Int) : wrap64 (wrap64 n) = wrap64 n := by unfold wrap64; omega
theorem mx_eq (a b : Int) : mx a b = max a b := by unfold mx; split <;> omega
theorem mn_eq (a b : Int) : mn a b = min a b := by unfold mn; split <;> omega
theorem rd_mem (l : List Int) (i : Int) (h0 : 0 ≤ i) (h1 : i < l.length) : rd l i ∈ l := by
  unfold rd
  rw [List.getD_eq_getElem?_getD, List.getElem?_eq_getElem (by omega : i.toNat < l.length)]
  simp
theorem drop_rd' (l : List Int) (i : Int) (h0 : 0 ≤ i) (h : i < l.length) : l.drop i.toNat = rd l i :: l.drop (i + 1).toNat := by
  have := drop_rd l i.toNat (by omega)
  rw [show ((i.toNat : Nat) : Int) = i from by omega] at this
  rw [this, show (i + 1).toNat = i.toNat + 1 from by omega]

/-! ### valid hoods and readings -/
def inB (lo hi : Int) (l : List Int) : Bool := l.all fun x => decide (lo ≤ x) && decide (x ≤ hi)
theorem in_eq (lo hi : Int) (l : List Int) : burn_in.f lo hi l = some (inB lo hi l) := by
  unfold burn_in.f inB
  congr 1
  rw [List.not_any_eq_all_not]
  congr 1
  funext x
  by_cases h1 : x < lo <;> by_cases h2 : hi < x <;> simp [h1, h2] <;> omega
theorem inRange_eq (lo hi : Int) (l : List Int) : inRange lo hi l = inB lo hi l := by
  have := in_eq lo hi l
  unfold burn_in.f at this
  exact Option.some.inj this
theorem inB_iff (lo hi : Int) (l : List Int) : inB lo hi l = true ↔ ∀ x ∈ l, lo ≤ x ∧ x ≤ hi := by simp [inB]
theorem inB_one (lo hi x : Int) : inB lo hi [x] = true ↔ lo ≤ x ∧ x ≤ hi := by simp [inB]
theorem inB_two (lo hi x y : Int) : inB lo hi [x, y] = true ↔ (lo ≤ x ∧ x ≤ hi) ∧ (lo ≤ y ∧ y ≤ hi) := by simp [inB]
def hoodB (b0 b1 f0 f1 j0 j1 g0 g1 dr : Int) : Bool := decide (HoodOK b0 b1 f0 f1 j0 j1 g0 g1 dr)
def checkS (b0 b1 f0 f1 j0 j1 g0 g1 dr : Int) (l : List Int) : Int := if HoodOK b0 b1 f0 f1 j0 j1 g0 g1 dr then (if ReadsOK l then 0 else 41) else 40
theorem checkS_zero {b0 b1 f0 f1 j0 j1 g0 g1 dr : Int} {l : List Int} : checkS b0 b1 f0 f1 j0 j1 g0 g1 dr l = 0 ↔ HoodOK b0 b1 f0 f1 j0 j1 g0 g1 dr ∧ ReadsOK l := by
  unfold checkS
  by_cases h1 : HoodOK b0 b1 f0 f1 j0 j1 g0 g1 dr <;> by_cases h2 : ReadsOK l <;> simp [h1, h2]
theorem ordered_eq (lo hi a b : Int) : PC2.burn_ordered.f lo hi a b = some (decide (lo ≤ a ∧ a ≤ b ∧ b ≤ hi)) := by
  unfold PC2.burn_ordered.f
  rw [in_eq, Option.bind_some]
  by_cases h : inB lo hi [a, b] = true
  · rw [if_pos h]
    have := (inB_two _ _ _ _).1 h
    congr 1
    exact decide_eq_decide.2 ⟨fun h => ⟨by omega, h, by omega⟩, fun h => h.2.1⟩
  · rw [if_neg h]
    rw [inB_two] at h
    congr 1
    exact (decide_eq_false (by omega)).symm
theorem Check_eq (k : Nat) (b0 b1 f0 f1 j0 j1 g0 g1 dr : Int) (l : List Int) (hk : 0 < k) : burn_Check.f k b0 b1 f0 f1 j0 j1 g0 g1 dr l = some (checkS b0 b1 f0 f1 j0 j1 g0 g1 dr l) := by
  obtain ⟨k, rfl⟩ : ∃ m, k = m + 1 := ⟨k - 1, by omega⟩
  have hr : ReadsOK l ↔ (¬ (l.length : Int) > 120 ∧ inB 0 1000000 l = true) := by
    rw [inB_iff]
    unfold ReadsOK
    exact ⟨fun h => ⟨by omega, h.2⟩, fun h => ⟨by omega, h.2⟩⟩
  have hd : inB 0 1000 [dr] = decide (0 ≤ dr ∧ dr ≤ 1000) := by
    rw [Bool.eq_iff_iff, inB_one]
    simp
  unfold burn_Check.f checkS HoodOK
  simp only [ordered_eq, in_eq, Option.bind_some, burn_Check.j0, hd, hr]
  by_cases h1 : 0 ≤ b0 ∧ b0 ≤ b1 ∧ b1 ≤ 1000000 <;> by_cases h2 : 0 ≤ f0 ∧ f0 ≤ f1 ∧ f1 ≤ 10000 <;> by_cases h3 : 0 ≤ j0 ∧ j0 ≤ j1 ∧ j1 ≤ 30000 <;> by_cases h4 : 0 ≤ g0 ∧ g0 ≤ g1 ∧ g1 ≤ 30 <;> by_cases h5 : 0 ≤ dr ∧ dr ≤ 1000 <;> by_cases h6 : (l.length : Int) > 120 <;> cases inB 0 1000000 l <;>
    simp only [h1, h2, h3, h4, h5, h6, decide_true, decide_false, if_true, if_false, Bool.not_true, Bool.not_false, Bool.false_eq_true, and_true, true_and, and_false, false_and, not_true, not_false_eq_true, and_self]
theorem within_eq (x lo hi : Int) : cottonpadref04_within.f x lo hi = some (inB lo hi [x]) := by
  unfold cottonpadref04_within.f inB
  by_cases h1 : x ≥ lo <;> by_cases h2 : x ≤ hi <;> simp [h1, h2]
theorem spanned_eq (a b lo hi : Int) : cottonpadref04_spanned.f a b lo hi = some (decide (lo ≤ a ∧ a ≤ b ∧ b ≤ hi)) := by
  unfold cottonpadref04_spanned.f
  by_cases h1 : a ≥ lo <;> by_cases h2 : a ≤ b <;> by_cases h3 : b ≤ hi <;> simp [h1, h2, h3]
  all_goals omega
theorem reads_loop (l : List Int) (m : Int) (hl : l.length ≤ 150) (d : Nat) : ∀ (k : Nat) (i : Int), 0 ≤ i → i ≤ l.length → (l.length : Int) - i = d → d < k →
    cottonpadref04_reads.l0 k l m i = some (inB 0 m (l.drop i.toNat)) := by
  induction d with
  | zero =>
    intro k i h0 h1 hd hk
    obtain ⟨k, rfl⟩ : ∃ m, k = m + 1 := ⟨k - 1, by omega⟩
    simp only [cottonpadref04_reads.l0]
    rw [if_neg (by omega), List.drop_of_length_le (by omega)]
    rfl
  | succ d ih =>
    intro k i h0 h1 hd hk
    obtain ⟨k, rfl⟩ : ∃ m, k = m + 1 := ⟨k - 1, by omega⟩
    simp only [cottonpadref04_reads.l0]
    rw [if_pos (by omega), if_pos h0, within_eq, Option.bind_some, drop_rd' l i h0 (by omega)]
    rw [w64 (by omega) (by omega), ih k (i + 1) (by omega) (by omega) (by omega) (by omega)]
    have e : inB 0 m (rd l i :: l.drop (i + 1).toNat) = (inB 0 m [rd l i] && inB 0 m (l.drop (i + 1).toNat)) := by simp [inB]
    rw [e]
    cases inB 0 m [rd l i] <;> simp
theorem refCheck_eq (k : Nat) (b0 b1 f0 f1 j0 j1 g0 g1 dr : Int) (l : List Int) (hk : 150 < k) : cottonpadref04_Check.f k b0 b1 f0 f1 j0 j1 g0 g1 dr l = some (checkS b0 b1 f0 f1 j0 j1 g0 g1 dr l) := by
  have hr : ReadsOK l ↔ (¬ (l.length : Int) > 120 ∧ inB 0 1000000 l = true) := by
    rw [inB_iff]
    unfold ReadsOK
    exact ⟨fun h => ⟨by omega, h.2⟩, fun h => ⟨by omega, h.2⟩⟩
  have hd : inB 0 1000 [dr] = decide (0 ≤ dr ∧ dr ≤ 1000) := by
    rw [Bool.eq_iff_iff, inB_one]
    simp
  have hrd : cottonpadref04_reads.f k l 1000000 = some (decide (ReadsOK l)) := by
    unfold cottonpadref04_reads.f
    by_cases h : (l.length : Int) > 120
    · rw [if_pos h, decide_eq_false (by rw [hr]; exact fun h' => h'.1 h)]
    · rw [if_neg h, reads_loop l 1000000 (by omega) l.length k 0 (by omega) (by omega) (by omega) (by omega)]
      simp only [Int.toNat_zero, List.drop_zero]
      congr 1
      rw [Bool.eq_iff_iff, decide_eq_true_iff, hr]
      exact ⟨fun h' => ⟨h, h'⟩, fun h' => h'.2⟩
  unfold cottonpadref04_Check.f cottonpadref04_Hood.f checkS HoodOK
  simp only [spanned_eq, within_eq, Option.bind_some, hd, hrd]
  by_cases h1 : 0 ≤ b0 ∧ b0 ≤ b1 ∧ b1 ≤ 1000000 <;> by_cases h2 : 0 ≤ f0 ∧ f0 ≤ f1 ∧ f1 ≤ 10000 <;> by_cases h3 : 0 ≤ j0 ∧ j0 ≤ j1 ∧ j1 ≤ 30000 <;> by_cases h4 : 0 ≤ g0 ∧ g0 ≤ g1 ∧ g1 ≤ 30 <;> by_cases h5 : 0 ≤ dr ∧ dr ≤ 1000 <;> by_cases h6 : ReadsOK l <;>
    simp only [h1, h2, h3, h4, h5, h6, decide_true, decide_false, if_true, if_false, Bool.false_eq_true, and_true, true_and, and_false, false_and, and_self, Option.bind_some]
/-! ### what is told of a valid hood and valid readings -/
section told
variable {b0 b1 f0 f1 j0 j1 g0 g1 dr : Int} {l : List Int} (hH : HoodOK b0 b1 f0 f1 j0 j1 g0 g1 dr) (hl : ReadsOK l)
include hH hl
theorem Heat_ok (k : Nat) (s : Int) (hk : 0 < k) (s0 : 0 ≤ s) (s1 : s < max 0 ((l.length : Int) - g1)) :
    burn_Heat.f k b0 b1 f0 f1 j0 j1 g0 g1 dr l s = some ((sumS b0 b1 f0 f1 j0 j1 g0 g1 dr l s (s + 1)).1, (sumS b0 b1 f0 f1 j0 j1 g0 g1 dr l s (s + 1)).2, 0) := by
  have hl0 := hl.1
  have kg : 0 ≤ g0 ∧ g0 ≤ g1 ∧ g1 ≤ 30 := hH.2.2.2.1
  unfold burn_Heat.f
  rw [Check_eq _ _ _ _ _ _ _ _ _ _ _ hk, Option.bind_some, if_pos (checkS_zero.2 ⟨hH, hl⟩), secS_eq hH (by omega), w64 (by omega) (by omega), inRange_eq, if_pos ((inB_one _ _ _).2 (by omega)), w64 (by omega) (by omega)]
  unfold sumG
  rw [if_pos ⟨hH, hl, by omega, by omega, by omega⟩]
  rfl
theorem Sum_ok (k : Nat) (s t : Int) (hk : 0 < k) (s0 : 0 ≤ s) (st : s ≤ t) (t1 : t ≤ max 0 ((l.length : Int) - g1)) :
    burn_Sum.f k b0 b1 f0 f1 j0 j1 g0 g1 dr l s t = some ((sumS b0 b1 f0 f1 j0 j1 g0 g1 dr l s t).1, (sumS b0 b1 f0 f1 j0 j1 g0 g1 dr l s t).2, 0) := by
  have hl0 := hl.1
  have kg : 0 ≤ g0 ∧ g0 ≤ g1 ∧ g1 ≤ 30 := hH.2.2.2.1
  unfold burn_Sum.f
  rw [Check_eq _ _ _ _ _ _ _ _ _ _ _ hk, Option.bind_some, if_pos (checkS_zero.2 ⟨hH, hl⟩), secS_eq hH (by omega), inRange_eq, if_pos ⟨(inB_two _ _ _ _).2 (by omega), st⟩]
  unfold sumG
  rw [if_pos ⟨hH, hl, by omega, by omega, by omega⟩]
  rfl
theorem First_ok (k : Nat) (lv : Int) (hk : 0 < k) (h1 : 1 ≤ lv) :
    ∃ a b n, burn_First.f k b0 b1 f0 f1 j0 j1 g0 g1 dr l lv = some (a, b, n, 0) ∧ FirstSpec (hiA b0 b1 f0 f1 j0 j1 dr l) (loA b0 b1 f0 f1 j0 j1 dr l) lv (max 0 ((l.length : Int) - g1)) g0 g1 a b n := by
  obtain ⟨a, b, n, e, hs⟩ := firstG_spec hH hl lv
  refine ⟨a, b, n, ?_, hs⟩
  unfold burn_First.f
  rw [Check_eq _ _ _ _ _ _ _ _ _ _ _ hk, Option.bind_some, if_pos (checkS_zero.2 ⟨hH, hl⟩), if_neg (by omega), e]
  rfl
end told

theorem u8_ok {x : Int} (h : (Lit.int .u8 x).wf = true) : 0 ≤ x ∧ x ≤ 255 := by
  have h := (Lit.wf_int_iff .u8 x).1 h
  have e1 : IntKind.u8.min = 0 := by decide
  have e2 : IntKind.u8.max = 255 := by decide
  rw [e1, e2] at h
  exact h
theorem u32_ok {x : Int} (h : (Lit.int .u32 x).wf = true) : 0 ≤ x ∧ x ≤ 4294967295 := by
  have h := (Lit.wf_int_iff .u32 x).1 h
  have e1 : IntKind.u32.min = 0 := by decide
  have e2 : IntKind.u32.max = 4294967295 := by decide
  rw [e1, e2] at h
  exact h
theorem heat_big {b0 b1 f0 f1 j0 j1 g0 g1 dr : Int} (hH : HoodOK b0 b1 f0 f1 j0 j1 g0 g1 dr) {y : Int} (y0 : 0 ≤ y) (y1 : y ≤ 1000000) :
    wrap64 ((wrap64 (j0 * f0)) * (mx 0 (wrap64 ((wrap64 (b0 - y)) - dr)))) = heatF false b0 b1 f0 f1 j0 j1 dr y ∧
    wrap64 ((wrap64 (j1 * f1)) * (mx 0 (wrap64 ((wrap64 (b1 - y)) + dr)))) = heatF true b0 b1 f0 f1 j0 j1 dr y ∧ heatF true b0 b1 f0 f1 j0 j1 dr y ≤ 300300000000000 := by
  obtain ⟨⟨kb0, kb1, kb2⟩, ⟨kf0, kf1, kf2⟩, ⟨kj0, kj1, kj2⟩, -, kd0, kd1⟩ := hH
  rw [w64 (n := b0 - y) (by omega) (by omega), w64 (n := b0 - y - dr) (by omega) (by omega), w64 (n := b1 - y) (by omega) (by omega), w64 (n := b1 - y + dr) (by omega) (by omega)]
  unfold heatF missF sel sgn
  simp only [Bool.false_eq_true, if_false, if_true]
  rw [show b1 - y - -dr = b1 - y + dr from by omega]
  have m0 : 0 ≤ mx 0 (b0 - y - dr) ∧ mx 0 (b0 - y - dr) ≤ 1001000 := by unfold mx; split <;> omega
  have m1 : 0 ≤ mx 0 (b1 - y + dr) ∧ mx 0 (b1 - y + dr) ≤ 1001000 := by unfold mx; split <;> omega
  generalize mx 0 (b0 - y - dr) = m at *
  generalize mx 0 (b1 - y + dr) = n at *
  have p0 : 0 ≤ j0 * f0 := Int.mul_nonneg kj0 kf0
  have p1 : j0 * f0 ≤ 30000 * 10000 := Int.mul_le_mul (by omega) (by omega) (by omega) (by omega)
  have q0 : 0 ≤ j1 * f1 := Int.mul_nonneg (by omega) (by omega)
  have q1 : j1 * f1 ≤ 30000 * 10000 := Int.mul_le_mul (by omega) (by omega) (by omega) (by omega)
  have r0 : 0 ≤ j0 * f0 * m := Int.mul_nonneg p0 m0.1
  have r1 : j0 * f0 * m ≤ 30000 * 10000 * 1001000 := Int.mul_le_mul p1 m0.2 (by omega) (by omega)
  have s0 : 0 ≤ j1 * f1 * n := Int.mul_nonneg q0 m1.1
  have s1 : j1 * f1 * n ≤ 30000 * 10000 * 1001000 := Int.mul_le_mul q1 m1.2 (by omega) (by omega)
  rw [w64 (n := j0 * f0) (by omega) (by omega), w64 (n := j1 * f1) (by omega) (by omega), w64 (by omega) (by omega), w64 (by omega) (by omega)]
  exact ⟨rfl, rfl, by omega⟩
def U32 (l : List Int) : Prop := l.length ≤ maxLen ∧ ∀ x ∈ l, 0 ≤ x ∧ x ≤ 4294967295
theorem rd_snoc (l : List Int) (v : Int) (j : Int) (h0 : 0 ≤ j) : rd (l ++ [v]) j = if j < l.length then rd l j else if j = l.length then v else 0 := by
  unfold rd
  rw [List.getD_eq_getElem?_getD, List.getD_eq_getElem?_getD]
  by_cases h : j.toNat < l.length
  · rw [if_pos (by omega), List.getElem?_append_left h]
  · rw [if_neg (by omega), List.getElem?_append_right (by omega)]
    by_cases h' : j = l.length
    · rw [if_pos h', h']
      simp
    · rw [if_neg h', List.getElem?_eq_none (by simp; omega)]
      rfl
theorem least_one (P : Int → Prop) : ∀ (n : Nat) (j : Int), 0 ≤ j → j.toNat ≤ n → P j → ∃ i, 0 ≤ i ∧ i ≤ j ∧ P i ∧ ∀ q, 0 ≤ q → q < i → ¬ P q
  | 0, j, j0, jn, hj => ⟨j, j0, Int.le_refl _, hj, fun q q0 q1 => by omega⟩
  | n + 1, j, j0, jn, hj => by
    by_cases h : ∃ q, 0 ≤ q ∧ q < j ∧ P q
    · obtain ⟨q, q0, q1, hq⟩ := h
      obtain ⟨i, i0, i1, hi, hl⟩ := least_one P n q q0 (by omega) hq
      exact ⟨i, i0, by omega, hi, hl⟩
    · exact ⟨j, j0, Int.le_refl _, hj, fun q q0 q1 hq => h ⟨q, q0, q1, hq⟩⟩
/-- the first second that surely reaches a level can be the first that does -/
theorem reach_sure {hi lo : Int → Int} (hlo : ∀ j, lo j ≤ hi j) {lv sc j : Int} (j0 : 0 ≤ j) (j1 : j < sc) (hj : lv ≤ lo j) : ∃ i, i ≤ j ∧ lv ≤ lo i ∧ Reach hi lo lv sc i := by
  obtain ⟨i, i0, i1, h, hl⟩ := least_one (fun q => lv ≤ lo q) j.toNat j j0 (Nat.le_refl _) hj
  have := hlo i
  exact ⟨i, i1, h, i0, by omega, by omega, fun q q0 q1 => by have := hl q q0 q1; omega⟩
theorem reach_down {hi lo : Int → Int} (hlo : ∀ j, lo j ≤ hi j) {lv lv' sc i : Int} (hv : lv ≤ lv') (h : Reach hi lo lv' sc i) : ∃ i', i' ≤ i ∧ Reach hi lo lv sc i' := by
  obtain ⟨h0, h1, h2, h3⟩ := h
  by_cases e : ∃ q, 0 ≤ q ∧ q < i ∧ lv ≤ lo q
  · obtain ⟨q, q0, q1, hq⟩ := e
    obtain ⟨i', a, _, b⟩ := reach_sure hlo q0 (show q < sc by omega) hq
    exact ⟨i', by omega, b⟩
  · exact ⟨i, Int.le_refl _, h0, h1, by omega, fun q q0 q1 => by
      by_cases hq : lo q < lv
      · exact hq
      · exact absurd ⟨q, q0, q1, by omega⟩ e⟩
/-- a heat out of a span's numbers lies in the span -/
theorem heat_in {b0 b1 f0 f1 j0 j1 g0 g1 dr : Int} (hH : HoodOK b0 b1 f0 f1 j0 j1 g0 g1 dr) {y b f j o : Int} (y0 : 0 ≤ y) (y1 : y ≤ 1000000) (hb0 : b0 ≤ b) (hb1 : b ≤ b1) (hf0 : f0 ≤ f) (hf1 : f ≤ f1) (hj0 : j0 ≤ j) (hj1 : j ≤ j1) (ho0 : -dr ≤ o) (ho1 : o ≤ dr) :
    wrap64 ((wrap64 (j * f)) * (mx 0 (wrap64 ((wrap64 (b - y)) - o)))) = j * f * (mx 0 (b - y - o)) ∧ heatF false b0 b1 f0 f1 j0 j1 dr y ≤ j * f * (mx 0 (b - y - o)) ∧ j * f * (mx 0 (b - y - o)) ≤ heatF true b0 b1 f0 f1 j0 j1 dr y := by
  obtain ⟨⟨kb0, kb1, kb2⟩, ⟨kf0, kf1, kf2⟩, ⟨kj0, kj1, kj2⟩, -, kd0, kd1⟩ := hH
  rw [w64 (n := b - y) (by omega) (by omega), w64 (n := b - y - o) (by omega) (by omega)]
  unfold heatF missF sel sgn
  simp only [Bool.false_eq_true, if_false, if_true]
  have m0 : 0 ≤ mx 0 (b0 - y - dr) := by unfold mx; split <;> omega
  have m1 : mx 0 (b0 - y - dr) ≤ mx 0 (b - y - o) := by unfold mx; (repeat' split) <;> omega
  have m2 : mx 0 (b - y - o) ≤ mx 0 (b1 - y - -dr) := by unfold mx; (repeat' split) <;> omega
  have m3 : mx 0 (b - y - o) ≤ 1001000 := by unfold mx; split <;> omega
  generalize mx 0 (b - y - o) = m at *
  have p0 : 0 ≤ j0 * f0 := Int.mul_nonneg kj0 kf0
  have p1 : j0 * f0 ≤ j * f := Int.mul_le_mul hj0 hf0 kf0 (by omega)
  have p2 : j * f ≤ j1 * f1 := Int.mul_le_mul hj1 hf1 (by omega) (by omega)
  have p3 : j * f ≤ 30000 * 10000 := Int.mul_le_mul (by omega) (by omega) (by omega) (by omega)
  have q0 : 0 ≤ j * f * m := Int.mul_nonneg (by omega) (by omega)
  have q1 : j * f * m ≤ 30000 * 10000 * 1001000 := Int.mul_le_mul p3 m3 (by omega) (by omega)
  refine ⟨?_, Int.mul_le_mul p1 m1 m0 (by omega), Int.mul_le_mul p2 m2 (by omega) (by omega)⟩
  rw [w64 (n := j * f) (by omega) (by omega), w64 (by omega) (by omega)]
end Go.Proofs.YtfgclmbndgakgaaDoor.Pure
