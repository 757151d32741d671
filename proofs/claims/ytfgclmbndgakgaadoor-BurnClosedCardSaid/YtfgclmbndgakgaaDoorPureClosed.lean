/- BurnClosed, the plain law: sums over time close. -/
import Derived.Test.YtfgclmbndgakgaaDoorPureA
import Derived.DataShut
import Derived.Test.YtfgclmbndgakgaaDoorPDx
namespace Go.Proofs.YtfgclmbndgakgaaDoor.Pure
open Go.RowKit Go.Proofs.YtfgclmbndgakgaaDoor Go.Proofs.YtfgclmbndgakgaaDoor.PA Go.Proofs.YtfgclmbndgakgaaDoor.PR Go.Proofs.YtfgclmbndgakgaaDoor.PD Go.Proofs.YtfgclmbndgakgaaDoor.PC1 Go.Proofs.YtfgclmbndgakgaaDoor.PC2 Go.Proofs.YtfgclmbndgakgaaDoorW.PrintWords Go.Proofs.YtfgclmbndgakgaaDoorW.PrintLast Go.Proofs.YtfgclmbndgakgaaDoorW.PrintMore
set_option linter.unusedVariables false
set_option linter.unusedSimpArgs false

theorem sumH_add (k : Bool) (b0 b1 f0 f1 j0 j1 dr : Int) (l : List Int) (fr x : Int) (d : Nat) : ∀ e : Nat, sumH k b0 b1 f0 f1 j0 j1 dr l fr x (d + e) = sumH k b0 b1 f0 f1 j0 j1 dr l fr x d + sumH k b0 b1 f0 f1 j0 j1 dr l (fr + d) x e
  | 0 => by simp [sumH]
  | e + 1 => by
    have ih := sumH_add k b0 b1 f0 f1 j0 j1 dr l fr x d e
    show sumH k b0 b1 f0 f1 j0 j1 dr l fr x (d + e + 1) = _
    simp only [sumH, ih]
    rw [show fr + ((d + e : Nat) : Int) + x = fr + d + e + x from by omega]
    omega
theorem sumH_bound {b0 b1 f0 f1 j0 j1 g0 g1 dr : Int} (hH : HoodOK b0 b1 f0 f1 j0 j1 g0 g1 dr) {l : List Int} (hl : ReadsOK l) (k : Bool) (fr x : Int) : ∀ d : Nat, 0 ≤ sumH k b0 b1 f0 f1 j0 j1 dr l fr x d ∧ sumH k b0 b1 f0 f1 j0 j1 dr l fr x d ≤ d * 300300000000000
  | 0 => by simp [sumH]
  | d + 1 => by
    have ih := sumH_bound hH hl k fr x d
    simp only [sumH]
    have hr := rd_ok hl (fr + d + x)
    have h1 := heat_lo_hi hH (rd l (fr + d + x))
    have h2 : heatF true b0 b1 f0 f1 j0 j1 dr (rd l (fr + d + x)) ≤ 300300000000000 := by
      obtain ⟨⟨kb0, kb1, kb2⟩, ⟨kf0, kf1, kf2⟩, ⟨kj0, kj1, kj2⟩, -, kd0, kd1⟩ := hH
      unfold heatF missF sel sgn
      simp only [if_true]
      generalize rd l (fr + d + x) = y at *
      have m0 : 0 ≤ mx 0 (b1 - y - -dr) := by unfold mx; split <;> omega
      have m1 : mx 0 (b1 - y - -dr) ≤ 1001000 := by unfold mx; split <;> omega
      have p3 : j1 * f1 ≤ 30000 * 10000 := Int.mul_le_mul (by omega) (by omega) (by omega) (by omega)
      have := Int.mul_le_mul p3 m1 m0 (by omega)
      omega
    cases k <;> omega
theorem sumS_bound {b0 b1 f0 f1 j0 j1 g0 g1 dr : Int} (hH : HoodOK b0 b1 f0 f1 j0 j1 g0 g1 dr) {l : List Int} (hl : ReadsOK l) (s t : Int) (st : t - s ≤ 1000) :
    (0 ≤ (sumS b0 b1 f0 f1 j0 j1 g0 g1 dr l s t).1 ∧ (sumS b0 b1 f0 f1 j0 j1 g0 g1 dr l s t).1 ≤ 1000 * 300300000000000) ∧ 0 ≤ (sumS b0 b1 f0 f1 j0 j1 g0 g1 dr l s t).2 ∧ (sumS b0 b1 f0 f1 j0 j1 g0 g1 dr l s t).2 ≤ 1000 * 300300000000000 := by
  have sp := sumS_spec b0 b1 f0 f1 j0 j1 g0 g1 dr l s t hH.2.2.2.1.2.1
  obtain ⟨x, -, -, hx⟩ := sp.lowAt
  obtain ⟨y, -, -, hy⟩ := sp.highAt
  have h1 := sumH_bound hH hl false s x (t - s).toNat
  have h2 := sumH_bound hH hl true s y (t - s).toNat
  rw [hx, hy]
  have : (((t - s).toNat : Nat) : Int) ≤ 1000 := by omega
  generalize sumH false b0 b1 f0 f1 j0 j1 dr l s x (t - s).toNat = X at *
  generalize sumH true b0 b1 f0 f1 j0 j1 dr l s y (t - s).toNat = Y at *
  omega
section told
variable {b0 b1 f0 f1 j0 j1 g0 g1 dr : Int} {l : List Int} (hH : HoodOK b0 b1 f0 f1 j0 j1 g0 g1 dr) (hl : ReadsOK l)
include hH
theorem closed_add (a b c : Int) (ab : a ≤ b) (bc : b ≤ c) :
    (sumS b0 b1 f0 f1 j0 j1 g0 g1 dr l a b).1 + (sumS b0 b1 f0 f1 j0 j1 g0 g1 dr l b c).1 ≤ (sumS b0 b1 f0 f1 j0 j1 g0 g1 dr l a c).1 ∧
    (sumS b0 b1 f0 f1 j0 j1 g0 g1 dr l a c).2 ≤ (sumS b0 b1 f0 f1 j0 j1 g0 g1 dr l a b).2 + (sumS b0 b1 f0 f1 j0 j1 g0 g1 dr l b c).2 ∧
    (g0 = g1 → (sumS b0 b1 f0 f1 j0 j1 g0 g1 dr l a c).1 = (sumS b0 b1 f0 f1 j0 j1 g0 g1 dr l a b).1 + (sumS b0 b1 f0 f1 j0 j1 g0 g1 dr l b c).1 ∧
      (sumS b0 b1 f0 f1 j0 j1 g0 g1 dr l a c).2 = (sumS b0 b1 f0 f1 j0 j1 g0 g1 dr l a b).2 + (sumS b0 b1 f0 f1 j0 j1 g0 g1 dr l b c).2) := by
  have kg := hH.2.2.2.1.2.1
  have s1 := sumS_spec b0 b1 f0 f1 j0 j1 g0 g1 dr l a b kg
  have s2 := sumS_spec b0 b1 f0 f1 j0 j1 g0 g1 dr l b c kg
  have s3 := sumS_spec b0 b1 f0 f1 j0 j1 g0 g1 dr l a c kg
  have key : ∀ k x, sumH k b0 b1 f0 f1 j0 j1 dr l a x (c - a).toNat = sumH k b0 b1 f0 f1 j0 j1 dr l a x (b - a).toNat + sumH k b0 b1 f0 f1 j0 j1 dr l b x (c - b).toNat := by
    intro k x
    rw [show (c - a).toNat = (b - a).toNat + (c - b).toNat from by omega, sumH_add, show a + ((b - a).toNat : Int) = b from by omega]
  obtain ⟨x, x0, x1, hx⟩ := s3.lowAt
  obtain ⟨y, y0, y1, hy⟩ := s3.highAt
  have p1 := s1.low x x0 x1
  have p2 := s2.low x x0 x1
  have q1 := s1.high y y0 y1
  have q2 := s2.high y y0 y1
  simp only [key] at hx hy
  refine ⟨by omega, by omega, fun e => ?_⟩
  obtain ⟨u, u0, u1, hu⟩ := s1.lowAt
  obtain ⟨v, v0, v1, hv⟩ := s2.lowAt
  obtain ⟨u', u0', u1', hu'⟩ := s1.highAt
  obtain ⟨v', v0', v1', hv'⟩ := s2.highAt
  have e1 : x = u := by omega
  have e2 : x = v := by omega
  have e3 : y = u' := by omega
  have e4 : y = v' := by omega
  subst e1; subst e2; subst e3; subst e4
  omega
theorem closed_none (b : Int) : sumS b0 b1 f0 f1 j0 j1 g0 g1 dr l b b = (0, 0) := by
  have s1 := sumS_spec b0 b1 f0 f1 j0 j1 g0 g1 dr l b b hH.2.2.2.1.2.1
  obtain ⟨x, x0, x1, hx⟩ := s1.lowAt
  obtain ⟨y, y0, y1, hy⟩ := s1.highAt
  rw [show (b - b).toNat = 0 from by omega] at hx hy
  simp only [sumH] at hx hy
  ext
  · exact hx
  · exact hy
end told
/-- The one plain statement of BurnClosed. -/
theorem pureClosed (b0 b1 f0 f1 j0 j1 g0 g1 dr : Int) (l : List Int) (one two three : Int) (w2 : (Lit.int .u8 one).wf = true) (w3 : (Lit.int .u8 two).wf = true) (w4 : (Lit.int .u8 three).wf = true) :
    ∃ k, cottonpadlaw04_BurnClosed.f k b0 b1 f0 f1 j0 j1 g0 g1 dr l one two three = some true := by
  have h2 := u8_ok w2
  have h3 := u8_ok w3
  have h4 := u8_ok w4
  refine ⟨1000, ?_⟩
  unfold cottonpadlaw04_BurnClosed.f
  rw [alive_big, Option.bind_some, ready_eq _ _ _ _ _ _ _ _ _ _ _ (by omega), Option.bind_some]
  by_cases h : HoodOK b0 b1 f0 f1 j0 j1 g0 g1 dr ∧ ReadsOK l
  · rw [if_pos (decide_eq_true h)]
    obtain ⟨hH, hl⟩ := h
    have hl0 := hl.1
    have kg : 0 ≤ g0 ∧ g0 ≤ g1 ∧ g1 ≤ 30 := hH.2.2.2.1
    show cottonpadlaw04_BurnClosed.j0 (997 + 3) _ _ _ _ _ _ _ _ _ _ _ _ _ _ _ = _
    have hN : mx 0 (wrap64 ((l.length : Int) - g1)) = max 0 ((l.length : Int) - g1) := by rw [w64 (by omega) (by omega), mx_eq]
    simp only [cottonpadlaw04_BurnClosed.j0, Bool.not_true, Bool.false_eq_true, if_false, cottonpadref04_Seconds.f, Option.bind_some, hN]
    rw [w64 (n := one) (by omega) (by omega), w64 (n := two) (by omega) (by omega), w64 (n := three) (by omega) (by omega), w64 (n := max 0 ((l.length : Int) - g1) + 1) (by omega) (by omega), if_neg (by omega)]
    rw [Int.tmod_eq_emod_of_nonneg h2.1, Int.tmod_eq_emod_of_nonneg h3.1, Int.tmod_eq_emod_of_nonneg h4.1]
    have p0 := Int.emod_nonneg one (show max 0 ((l.length : Int) - g1) + 1 ≠ 0 by omega)
    have p1 := Int.emod_lt_of_pos one (show 0 < max 0 ((l.length : Int) - g1) + 1 by omega)
    have q0 := Int.emod_nonneg two (show max 0 ((l.length : Int) - g1) + 1 ≠ 0 by omega)
    have q1 := Int.emod_lt_of_pos two (show 0 < max 0 ((l.length : Int) - g1) + 1 by omega)
    have r0 := Int.emod_nonneg three (show max 0 ((l.length : Int) - g1) + 1 ≠ 0 by omega)
    have r1 := Int.emod_lt_of_pos three (show 0 < max 0 ((l.length : Int) - g1) + 1 by omega)
    generalize one % (max 0 ((l.length : Int) - g1) + 1) = u at *
    generalize two % (max 0 ((l.length : Int) - g1) + 1) = v at *
    generalize three % (max 0 ((l.length : Int) - g1) + 1) = w at *
    rw [mn_eq, mn_eq, mx_eq, mx_eq, w64 (n := u + v) (by omega) (by omega), w64 (n := u + v + w) (by omega) (by omega), w64 (n := u + v + w - min (min u v) w) (by omega) (by omega), w64 (n := u + v + w - min (min u v) w - max (max u v) w) (by omega) (by omega)]
    have e1 : min (min u v) w ≤ u + v + w - min (min u v) w - max (max u v) w ∧ u + v + w - min (min u v) w - max (max u v) w ≤ max (max u v) w := by omega
    have e2 : 0 ≤ min (min u v) w ∧ max (max u v) w ≤ max 0 ((l.length : Int) - g1) := by omega
    generalize u + v + w - min (min u v) w - max (max u v) w = b at *
    generalize min (min u v) w = a at *
    generalize max (max u v) w = c at *
    rw [Sum_ok hH hl _ a b (by omega) (by omega) (by omega) (by omega), Option.bind_some, Sum_ok hH hl _ b c (by omega) (by omega) (by omega) (by omega), Option.bind_some, Sum_ok hH hl _ a c (by omega) (by omega) (by omega) (by omega), Option.bind_some, Sum_ok hH hl _ b b (by omega) (by omega) (by omega) (by omega), Option.bind_some, closed_none hH b]
    obtain ⟨c1, c2, c3⟩ := closed_add (l := l) hH a b c e1.1 e1.2
    have d1 := sumS_bound hH hl a b (by omega)
    have d2 := sumS_bound hH hl b c (by omega)
    simp only [if_true, beq_self_eq_true, Bool.not_true, Bool.or_self, Bool.false_eq_true, if_false]
    rw [w64 (by omega) (by omega), if_neg (by omega), w64 (by omega) (by omega), decide_eq_false (by omega)]
    simp only [cottonpadlaw04_BurnClosed.j1, Bool.false_eq_true, if_false, cottonpadlaw04_span.f, Option.bind_some]
    have tail : cottonpadlaw04_BurnClosed.j2 998 l true (max 0 ((l.length : Int) - g1)) b false b0 b1 f0 f1 j0 j1 g0 g1 dr = some true := by
      show cottonpadlaw04_BurnClosed.j2 (997 + 1) _ _ _ _ _ _ _ _ _ _ _ _ _ _ = _
      simp only [cottonpadlaw04_BurnClosed.j2, Bool.false_eq_true, if_false]
      by_cases hb : b = max 0 ((l.length : Int) - g1)
      · rw [if_pos hb]
      · rw [if_neg hb, Heat_ok hH hl _ b (by omega) (by omega) (by omega), Option.bind_some, w64 (by omega) (by omega), Sum_ok hH hl _ b (b + 1) (by omega) (by omega) (by omega) (by omega), Option.bind_some]
        simp
    by_cases hg : g0 = g1
    · obtain ⟨k1, k2⟩ := c3 hg
      rw [if_pos hg, w64 (by omega) (by omega), w64 (by omega) (by omega), k1, k2]
      simp only [beq_self_eq_true, Bool.not_true, Bool.or_self]
      exact tail
    · rw [if_neg hg]
      exact tail
  · rw [if_neg (by simpa using h)]
    show cottonpadlaw04_BurnClosed.j0 (999 + 1) _ _ _ _ _ _ _ _ _ _ _ _ _ _ _ = _
    simp only [cottonpadlaw04_BurnClosed.j0, if_true]
end Go.Proofs.YtfgclmbndgakgaaDoor.Pure
