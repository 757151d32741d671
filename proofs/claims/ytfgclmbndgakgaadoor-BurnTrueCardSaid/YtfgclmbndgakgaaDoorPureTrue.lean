/- BurnTrue, the plain law: heat lies in its span for all flows and lags. -/
import Derived.Test.YtfgclmbndgakgaaDoorPureA
import Derived.DataShut
import Derived.Test.YtfgclmbndgakgaaDoorPTx
namespace Go.Proofs.YtfgclmbndgakgaaDoor.Pure
open Go.RowKit Go.Proofs.YtfgclmbndgakgaaDoor Go.Proofs.YtfgclmbndgakgaaDoor.PA Go.Proofs.YtfgclmbndgakgaaDoor.PR Go.Proofs.YtfgclmbndgakgaaDoor.PT Go.Proofs.YtfgclmbndgakgaaDoor.PC1 Go.Proofs.YtfgclmbndgakgaaDoor.PC2 Go.Proofs.YtfgclmbndgakgaaDoorW.PrintWords Go.Proofs.YtfgclmbndgakgaaDoorW.PrintLast Go.Proofs.YtfgclmbndgakgaaDoorW.PrintMore
set_option linter.unusedVariables false
set_option linter.unusedSimpArgs false

section told
variable {b0 b1 f0 f1 j0 j1 g0 g1 dr : Int} {l by_ : List Int} (hH : HoodOK b0 b1 f0 f1 j0 j1 g0 g1 dr) (hl : ReadsOK l) (hy : U32 by_)
include hH hl hy
theorem truth_loop (x : Int) (x0 : g0 ≤ x) (x1 : x ≤ g1) (d : Nat) : ∀ (k : Nat) (i : Int) (acc : List Int), 0 ≤ i → max 0 ((l.length : Int) - g1) - i = d → d < k → (acc.length : Int) = i →
    (∀ j, 0 ≤ j → j < i → loA b0 b1 f0 f1 j0 j1 dr l x j ≤ rd acc j ∧ rd acc j ≤ hiA b0 b1 f0 f1 j0 j1 dr l x j) →
    ∃ t, cottonpadlaw04_truth.l0 k l by_ x acc (max 0 ((l.length : Int) - g1)) i b0 b1 f0 f1 j0 j1 g0 g1 dr = some t ∧ (t.length : Int) = max 0 ((l.length : Int) - g1) ∧
      ∀ j, 0 ≤ j → j < max 0 ((l.length : Int) - g1) → loA b0 b1 f0 f1 j0 j1 dr l x j ≤ rd t j ∧ rd t j ≤ hiA b0 b1 f0 f1 j0 j1 dr l x j := by
  have hl0 := hl.1
  have hH' := hH
  obtain ⟨⟨kb0, kb1, kb2⟩, ⟨kf0, kf1, kf2⟩, ⟨kj0, kj1, kj2⟩, ⟨kg0, kg1, kg2⟩, kd0, kd1⟩ := hH'
  induction d with
  | zero =>
    intro k i acc h0 hd hk hc hb
    obtain ⟨k, rfl⟩ : ∃ m, k = m + 1 := ⟨k - 1, by omega⟩
    simp only [cottonpadlaw04_truth.l0]
    rw [if_neg (by omega)]
    exact ⟨acc, rfl, by omega, fun j j0 j1 => hb j j0 (by omega)⟩
  | succ d ih =>
    intro k i acc h0 hd hk hc hb
    obtain ⟨k, rfl⟩ : ∃ m, k = m + 1 := ⟨k - 1, by omega⟩
    have hi : i < max 0 ((l.length : Int) - g1) := by omega
    simp only [cottonpadlaw04_truth.l0]
    rw [if_pos hi, w64 (n := 4 * i) (by omega) (by omega), w64 (n := 4 * i + 4) (by omega) (by omega), w64 (n := 4 * i + 1) (by omega) (by omega), w64 (n := 4 * i + 2) (by omega) (by omega), w64 (n := 4 * i + 3) (by omega) (by omega), w64 (n := 2 * dr) (by omega) (by omega), w64 (n := 2 * dr + 1) (by omega) (by omega), w64 (n := i + x) (by omega) (by omega), w64 (n := i + 1) (by omega) (by omega)]
    obtain ⟨c1, e1, c10, c11⟩ := choose_ok hy (4 * i + 4) (by omega)
    obtain ⟨c2, e2, c20, c21⟩ := choose_ok hy (4 * i + 1) (by omega)
    obtain ⟨c3, e3, c30, c31⟩ := choose_ok hy (4 * i + 2) (by omega)
    obtain ⟨c4, e4, c40, c41⟩ := choose_ok hy (4 * i + 3) (by omega)
    obtain ⟨b, e5, p50, p51⟩ := pick_ok b0 b1 c2 kb0 kb1 kb2 c20
    obtain ⟨j, e6, p60, p61⟩ := pick_ok j0 j1 c3 kj0 kj1 (by omega) c30
    obtain ⟨f, e7, p70, p71⟩ := pick_ok f0 f1 c4 kf0 kf1 (by omega) c40
    simp only [e1, e2, e3, e4, e5, e6, e7, Option.bind_some]
    have et : Int.tmod c1 (2 * dr + 1) = c1 % (2 * dr + 1) := Int.tmod_eq_emod_of_nonneg c10
    have m0 : 0 ≤ c1 % (2 * dr + 1) := Int.emod_nonneg _ (by omega)
    have m1 : c1 % (2 * dr + 1) < 2 * dr + 1 := Int.emod_lt_of_pos _ (by omega)
    rw [et, if_neg (by omega), if_pos (by omega), if_pos (by omega), if_pos (by omega), w64 (n := c1 % (2 * dr + 1) - dr) (by omega) (by omega)]
    have hr := rd_ok hl (i + x)
    obtain ⟨v0, v1, v2⟩ := heat_in hH (y := rd l (i + x)) (b := b) (f := f) (j := j) (o := c1 % (2 * dr + 1) - dr) hr.1 hr.2 p50 p51 p70 p71 p60 p61 (by omega) (by omega)
    rw [v0]
    refine ih k (i + 1) _ (by omega) (by omega) (by omega) (by simp; omega) fun q q0 q1 => ?_
    rw [rd_snoc _ _ _ q0]
    by_cases hq : q < acc.length
    · rw [if_pos hq]
      exact hb q q0 (by omega)
    · rw [if_neg hq, if_pos (by omega), show q = i from by omega]
      exact ⟨v1, v2⟩
/-- a truth: at some lag each second's heat lies between the least and the greatest -/
theorem truth_ok (k : Nat) (hk : 300 < k) : ∃ t x, cottonpadlaw04_truth.f k b0 b1 f0 f1 j0 j1 g0 g1 dr l by_ = some t ∧ g0 ≤ x ∧ x ≤ g1 ∧ (t.length : Int) = max 0 ((l.length : Int) - g1) ∧
      ∀ j, 0 ≤ j → j < max 0 ((l.length : Int) - g1) → loA b0 b1 f0 f1 j0 j1 dr l x j ≤ rd t j ∧ rd t j ≤ hiA b0 b1 f0 f1 j0 j1 dr l x j := by
  have hl0 := hl.1
  obtain ⟨-, -, -, ⟨kg0, kg1, kg2⟩, -, -⟩ := id hH
  obtain ⟨c, e, c0, c1⟩ := choose_ok hy 0 (Int.le_refl _)
  obtain ⟨x, e', x0, x1⟩ := pick_ok g0 g1 c kg0 kg1 (by omega) c0
  unfold cottonpadlaw04_truth.f cottonpadref04_Seconds.f
  simp only [e, e', Option.bind_some]
  rw [w64 (by omega) (by omega), mx_eq]
  obtain ⟨t, h1, h2, h3⟩ := truth_loop hH hl hy x x0 x1 (max 0 ((l.length : Int) - g1)).toNat k 0 [] (Int.le_refl _) (by omega) (by omega) rfl (fun j j0 j1 => by omega)
  exact ⟨t, x, h1, x0, x1, h2, h3⟩
end told
theorem sumH_one (k : Bool) (b0 b1 f0 f1 j0 j1 dr : Int) (l : List Int) (i x : Int) : sumH k b0 b1 f0 f1 j0 j1 dr l i x (i + 1 - i).toNat = heatF k b0 b1 f0 f1 j0 j1 dr (rd l (i + x)) := by
  rw [show (i + 1 - i).toNat = 0 + 1 from by omega]
  simp only [sumH]
  rw [show i + (0 : Nat) + x = i + x from by omega]
  omega
theorem heat_hi {b0 b1 f0 f1 j0 j1 g0 g1 dr : Int} (hH : HoodOK b0 b1 f0 f1 j0 j1 g0 g1 dr) {y : Int} (y0 : 0 ≤ y) (y1 : y ≤ 1000000) : heatF true b0 b1 f0 f1 j0 j1 dr y ≤ 300300000000000 := by
  obtain ⟨⟨kb0, kb1, kb2⟩, ⟨kf0, kf1, kf2⟩, ⟨kj0, kj1, kj2⟩, -, kd0, kd1⟩ := hH
  unfold heatF missF sel sgn
  simp only [if_true]
  have m0 : 0 ≤ mx 0 (b1 - y - -dr) := by unfold mx; split <;> omega
  have m1 : mx 0 (b1 - y - -dr) ≤ 1001000 := by unfold mx; split <;> omega
  have p3 : j1 * f1 ≤ 30000 * 10000 := Int.mul_le_mul (by omega) (by omega) (by omega) (by omega)
  have := Int.mul_le_mul p3 m1 m0 (by omega)
  omega
theorem true_first (lv : Int) (t : List Int) {hi lo : Int → Int → Int} {g0 g1 a b n x : Int} (hs : FirstSpec hi lo lv (t.length : Int) g0 g1 a b n) (x0 : g0 ≤ x) (x1 : x ≤ g1) (ht : t.length ≤ 1000)
    (hb : ∀ j, 0 ≤ j → j < (t.length : Int) → lo x j ≤ rd t j ∧ rd t j ≤ hi x j) (d : Nat) : ∀ (k : Nat) (i : Int), 0 ≤ i → (t.length : Int) - i = d → d < k → (∀ j, 0 ≤ j → j < i → rd t j < lv) →
    cottonpadlaw04_BurnTrue.l1 k lv true n t (t.length : Int) i a b = some true := by
  induction d with
  | zero =>
    intro k i h0 hd hk hp
    obtain ⟨k, rfl⟩ : ∃ m, k = m + 1 := ⟨k - 1, by omega⟩
    simp only [cottonpadlaw04_BurnTrue.l1]
    rw [if_neg (by omega)]
    simp only [if_true]
    congr 1
    rw [bne_iff_ne]
    intro hn
    obtain ⟨j, j0, j1, j2⟩ := hs.sure.1 hn x x0 x1
    have := hp j j0 (by omega)
    have := (hb j j0 j1).1
    omega
  | succ d ih =>
    intro k i h0 hd hk hp
    obtain ⟨k, rfl⟩ : ∃ m, k = m + 1 := ⟨k - 1, by omega⟩
    simp only [cottonpadlaw04_BurnTrue.l1]
    rw [if_pos (by omega), if_pos h0, if_pos (by omega)]
    by_cases hv : rd t i ≥ lv
    · rw [if_pos hv]
      have hi := hb i h0 (by omega)
      obtain ⟨q0, q1, q2⟩ := hs.all x i x0 x1 ⟨h0, by omega, by omega, fun j j0 j1 => by
        have := hp j j0 j1
        have := (hb j j0 (by omega)).1
        omega⟩
      simp only [if_true]
      rw [if_neg q0, if_pos q1, decide_eq_true q2]
    · rw [if_neg hv, w64 (by omega) (by omega)]
      refine ih k (i + 1) (by omega) (by omega) (by omega) fun j j0 j1 => ?_
      by_cases e : j = i
      · rw [e]; omega
      · exact hp j j0 (by omega)
section told
variable {b0 b1 f0 f1 j0 j1 g0 g1 dr : Int} {l : List Int} (hH : HoodOK b0 b1 f0 f1 j0 j1 g0 g1 dr) (hl : ReadsOK l)
include hH hl
theorem true_sums (lv : Int) (t : List Int) (x : Int) (x0 : g0 ≤ x) (x1 : x ≤ g1) (ht : (t.length : Int) = max 0 ((l.length : Int) - g1))
    (hb : ∀ j, 0 ≤ j → j < max 0 ((l.length : Int) - g1) → loA b0 b1 f0 f1 j0 j1 dr l x j ≤ rd t j ∧ rd t j ≤ hiA b0 b1 f0 f1 j0 j1 dr l x j) (a b : Int) (a0 : 0 ≤ a) (ab : a ≤ b) (b1' : b ≤ max 0 ((l.length : Int) - g1)) (d : Nat) :
    ∀ (k : Nat) (i all : Int), a ≤ i → b - i = d → d + 300 < k → sumH false b0 b1 f0 f1 j0 j1 dr l a x (i - a).toNat ≤ all → all ≤ sumH true b0 b1 f0 f1 j0 j1 dr l a x (i - a).toNat → 0 ≤ all → all ≤ i * 300300000000000 →
    cottonpadlaw04_BurnTrue.l0 k l lv true t a b all i b0 b1 f0 f1 j0 j1 g0 g1 dr = some true := by
  have hl0 := hl.1
  have kg : 0 ≤ g0 ∧ g0 ≤ g1 ∧ g1 ≤ 30 := hH.2.2.2.1
  induction d with
  | zero =>
    intro k i all h0 hd hk s0 s1 s2 s3
    obtain ⟨k, rfl⟩ : ∃ m, k = m + 4 := ⟨k - 4, by omega⟩
    simp only [cottonpadlaw04_BurnTrue.l0]
    rw [if_neg (by omega), Sum_ok hH hl _ a b (by omega) a0 ab b1', Option.bind_some]
    simp only [if_true]
    have sp := sumS_spec b0 b1 f0 f1 j0 j1 g0 g1 dr l a b kg.2.1
    have l0 := sp.low x x0 x1
    have l1 := sp.high x x0 x1
    rw [show i = b from by omega] at s0 s1
    rw [if_neg (by omega), decide_eq_false (by omega)]
    simp only [cottonpadlaw04_BurnTrue.j2, Bool.false_eq_true, if_false]
    by_cases hlv : lv < 1
    · rw [if_pos hlv]
    · rw [if_neg hlv]
      obtain ⟨u, v, n, e, hs⟩ := First_ok hH hl (k + 2) lv (by omega) (by omega)
      rw [e, Option.bind_some]
      have hn : n ≤ 2 := by have := hs.known; omega
      simp only [if_true]
      rw [decide_eq_false (by omega)]
      simp only [cottonpadlaw04_BurnTrue.j3, Bool.false_eq_true, if_false]
      rw [← ht] at hs hb
      exact true_first lv t hs x0 x1 (by omega) hb t.length _ 0 (Int.le_refl _) (by omega) (by omega) (fun j j0 j1 => by omega)
  | succ d ih =>
    intro k i all h0 hd hk s0 s1 s2 s3
    obtain ⟨k, rfl⟩ : ∃ m, k = m + 1 := ⟨k - 1, by omega⟩
    simp only [cottonpadlaw04_BurnTrue.l0]
    have hi := hb i (by omega) (by omega)
    have sp := sumS_spec b0 b1 f0 f1 j0 j1 g0 g1 dr l i (i + 1) kg.2.1
    have l0 := sp.low x x0 x1
    have l1 := sp.high x x0 x1
    simp only [sumH_one] at l0 l1
    unfold loA hiA at hi
    have hr := rd_ok hl (i + x)
    have h1 := heat_hi hH hr.1 hr.2
    have h2 := (heat_lo_hi hH (rd l (i + x))).1
    rw [if_pos (by omega), Heat_ok hH hl _ i (by omega) (by omega) (by omega), Option.bind_some]
    simp only [if_true]
    rw [if_pos (by omega), if_pos (by omega), if_neg (by omega), if_neg (by omega), w64 (n := all + rd t i) (by omega) (by omega), w64 (n := i + 1) (by omega) (by omega)]
    have e : (i + 1 - a).toNat = (i - a).toNat + 1 := by omega
    refine ih k (i + 1) _ (by omega) (by omega) (by omega) ?_ ?_ (by omega) (by omega)
    · rw [e]
      simp only [sumH]
      rw [show a + ((i - a).toNat : Int) + x = i + x from by omega]
      omega
    · rw [e]
      simp only [sumH]
      rw [show a + ((i - a).toNat : Int) + x = i + x from by omega]
      omega
end told
end Go.Proofs.YtfgclmbndgakgaaDoor.Pure
/- BurnTrue, the plain law, its one statement: heat lies in its span for all flows and lags. -/
namespace Go.Proofs.YtfgclmbndgakgaaDoor.Pure
open Go.RowKit Go.Proofs.YtfgclmbndgakgaaDoor Go.Proofs.YtfgclmbndgakgaaDoor.PA Go.Proofs.YtfgclmbndgakgaaDoor.PR Go.Proofs.YtfgclmbndgakgaaDoor.PT Go.Proofs.YtfgclmbndgakgaaDoor.PC1 Go.Proofs.YtfgclmbndgakgaaDoor.PC2 Go.Proofs.YtfgclmbndgakgaaDoorW.PrintWords Go.Proofs.YtfgclmbndgakgaaDoorW.PrintLast Go.Proofs.YtfgclmbndgakgaaDoorW.PrintMore
set_option linter.unusedVariables false
set_option linter.unusedSimpArgs false

theorem pureTrue' (k : Nat) (hk : 1000 < k) (hal : cottonpadlaw04_alive.f k = some true) (b0 b1 f0 f1 j0 j1 g0 g1 dr : Int) (l by_ : List Int) (fr to_ lv : Int) (hy : by_.length ≤ maxLen ∧ ∀ x ∈ by_, (Lit.int .u32 x).wf = true) (w3 : (Lit.int .u8 fr).wf = true) (w4 : (Lit.int .u8 to_).wf = true) :
    cottonpadlaw04_BurnTrue.f k b0 b1 f0 f1 j0 j1 g0 g1 dr l by_ fr to_ lv = some true := by
  have hy' : U32 by_ := ⟨hy.1, fun x hx => u32_ok (hy.2 x hx)⟩
  have h3 := u8_ok w3
  have h4 := u8_ok w4
  unfold cottonpadlaw04_BurnTrue.f
  rw [hal, Option.bind_some, ready_eq _ _ _ _ _ _ _ _ _ _ _ (by omega), Option.bind_some]
  by_cases h : HoodOK b0 b1 f0 f1 j0 j1 g0 g1 dr ∧ ReadsOK l
  · rw [if_pos (decide_eq_true h)]
    obtain ⟨hH, hl⟩ := h
    have hl0 := hl.1
    have kg : 0 ≤ g0 ∧ g0 ≤ g1 ∧ g1 ≤ 30 := hH.2.2.2.1
    obtain ⟨k, rfl⟩ : ∃ m, k = m + 1 := ⟨k - 1, by omega⟩
    obtain ⟨t, x, e, x0, x1, ht, hb⟩ := truth_ok hH hl hy' k (by omega)
    rw [cottonpadlaw04_BurnTrue.j0, if_neg (by simp), e, Option.bind_some, ht, w64 (n := fr) (by omega) (by omega), w64 (n := to_) (by omega) (by omega), w64 (n := max 0 ((l.length : Int) - g1) + 1) (by omega) (by omega), if_neg (by omega), mn_eq, mx_eq,
      Int.tmod_eq_emod_of_nonneg h3.1, Int.tmod_eq_emod_of_nonneg h4.1]
    have p0 := Int.emod_nonneg fr (show max 0 ((l.length : Int) - g1) + 1 ≠ 0 by omega)
    have p1 := Int.emod_lt_of_pos fr (show 0 < max 0 ((l.length : Int) - g1) + 1 by omega)
    have q0 := Int.emod_nonneg to_ (show max 0 ((l.length : Int) - g1) + 1 ≠ 0 by omega)
    have q1 := Int.emod_lt_of_pos to_ (show 0 < max 0 ((l.length : Int) - g1) + 1 by omega)
    generalize fr % (max 0 ((l.length : Int) - g1) + 1) = u at *
    generalize to_ % (max 0 ((l.length : Int) - g1) + 1) = v at *
    refine true_sums hH hl lv t x x0 x1 ht hb (min u v) (max u v) (by omega) (by omega) (by omega) (max u v - min u v).toNat _ (min u v) 0 (Int.le_refl _) (by omega) (by omega) ?_ ?_ (Int.le_refl _) (by omega)
    · simp [sumH]
    · simp [sumH]
  · rw [if_neg (by simpa using h)]
    obtain ⟨k, rfl⟩ : ∃ m, k = m + 1 := ⟨k - 1, by omega⟩
    simp only [cottonpadlaw04_BurnTrue.j0, if_true]
/-- The one plain statement of BurnTrue. -/
theorem pureTrue (b0 b1 f0 f1 j0 j1 g0 g1 dr : Int) (l by_ : List Int) (fr to_ lv : Int) (hy : by_.length ≤ maxLen ∧ ∀ x ∈ by_, (Lit.int .u32 x).wf = true) (w3 : (Lit.int .u8 fr).wf = true) (w4 : (Lit.int .u8 to_).wf = true) :
    ∃ k, cottonpadlaw04_BurnTrue.f k b0 b1 f0 f1 j0 j1 g0 g1 dr l by_ fr to_ lv = some true :=
  ⟨1001, pureTrue' 1001 (by omega) (cottonpadlaw04_alive.mono 1000 true alive_big) b0 b1 f0 f1 j0 j1 g0 g1 dr l by_ fr to_ lv hy w3 w4⟩
end Go.Proofs.YtfgclmbndgakgaaDoor.Pure
