/- BurnHeats, the plain law: hoods, heat, sums and levels are the specification's. -/
import Derived.Test.YtfgclmbndgakgaaDoorPure
import Derived.Test.YtfgclmbndgakgaaDoorPHx
namespace Go.Proofs.YtfgclmbndgakgaaDoor.Pure
open Go.RowKit Go.Proofs.YtfgclmbndgakgaaDoor Go.Proofs.YtfgclmbndgakgaaDoor.PR Go.Proofs.YtfgclmbndgakgaaDoor.PH Go.Proofs.YtfgclmbndgakgaaDoor.PC2 Go.Proofs.YtfgclmbndgakgaaDoorW.PrintWords Go.Proofs.YtfgclmbndgakgaaDoorW.PrintLast Go.Proofs.YtfgclmbndgakgaaDoorW.PrintMore
set_option linter.unusedVariables false
set_option linter.unusedSimpArgs false

section told
variable {b0 b1 f0 f1 j0 j1 g0 g1 dr : Int} {l : List Int} (hH : HoodOK b0 b1 f0 f1 j0 j1 g0 g1 dr) (hl : ReadsOK l)
include hH hl
theorem at_eq (i x : Int) (h0 : 0 ≤ i) (x0 : 0 ≤ x) (h1 : i + x < l.length) : cottonpadref04_at.f b0 b1 f0 f1 j0 j1 g0 g1 dr l i x = some (loA b0 b1 f0 f1 j0 j1 dr l x i, hiA b0 b1 f0 f1 j0 j1 dr l x i) := by
  have hl0 := hl.1
  have hr := rd_ok hl (i + x)
  obtain ⟨e1, e2, -⟩ := heat_big hH hr.1 hr.2
  unfold cottonpadref04_at.f loA hiA
  rw [w64 (n := i + x) (by omega) (by omega), if_pos (by omega), if_pos (by omega), e1, e2]
/-- one lag's seconds, summed -/
theorem ref_one (a t x : Int) (a0 : 0 ≤ a) (x0 : g0 ≤ x) (x1 : x ≤ g1) (ht : t ≤ max 0 ((l.length : Int) - g1)) (o0 o1 : Int) (r : Nat) :
    ∀ (k : Nat) (i p q : Int), a ≤ i → t - i = r → p = sumH false b0 b1 f0 f1 j0 j1 dr l a x (i - a).toNat → q = sumH true b0 b1 f0 f1 j0 j1 dr l a x (i - a).toNat → 0 ≤ p → p ≤ i * 300300000000000 → 0 ≤ q → q ≤ i * 300300000000000 →
    cottonpadref04_sum.l1 (k + (r + 1)) l a t x i b0 b1 f0 f1 j0 j1 g0 g1 dr o0 o1 p q =
      if x = g0 then cottonpadref04_sum.l0 k l a t (wrap64 (x + 1)) b0 b1 f0 f1 j0 j1 g0 g1 dr (mn (sumH false b0 b1 f0 f1 j0 j1 dr l a x (t - a).toNat) (sumH false b0 b1 f0 f1 j0 j1 dr l a x (t - a).toNat)) (mx (sumH true b0 b1 f0 f1 j0 j1 dr l a x (t - a).toNat) (sumH true b0 b1 f0 f1 j0 j1 dr l a x (t - a).toNat))
      else cottonpadref04_sum.l0 k l a t (wrap64 (x + 1)) b0 b1 f0 f1 j0 j1 g0 g1 dr (mn o0 (sumH false b0 b1 f0 f1 j0 j1 dr l a x (t - a).toNat)) (mx o1 (sumH true b0 b1 f0 f1 j0 j1 dr l a x (t - a).toNat)) := by
  have hl0 := hl.1
  have kg : 0 ≤ g0 ∧ g0 ≤ g1 ∧ g1 ≤ 30 := hH.2.2.2.1
  induction r with
  | zero =>
    intro k i p q h0 hr hp hq p0 p1 q0 q1
    simp only [cottonpadref04_sum.l1]
    rw [if_neg (by omega), hp, hq, show i = t from by omega]
  | succ r ih =>
    intro k i p q h0 hr hp hq p0 p1 q0 q1
    rw [show k + (r + 1 + 1) = (k + (r + 1)) + 1 from by omega]
    simp only [cottonpadref04_sum.l1]
    have hy := rd_ok hl (i + x)
    obtain ⟨-, -, e3⟩ := heat_big hH hy.1 hy.2
    have e4 := heat_lo_hi hH (rd l (i + x))
    rw [if_pos (by omega), at_eq hH hl i x (by omega) (by omega) (by omega), Option.bind_some]
    unfold loA hiA
    rw [w64 (n := p + _) (by omega) (by omega), w64 (n := q + _) (by omega) (by omega), w64 (n := i + 1) (by omega) (by omega)]
    have e : (i + 1 - a).toNat = (i - a).toNat + 1 := by omega
    refine ih k (i + 1) _ _ (by omega) (by omega) ?_ ?_ (by omega) (by omega) (by omega) (by omega)
    · rw [e]; simp only [sumH]
      rw [show a + ((i - a).toNat : Int) + x = i + x from by omega, hp]
    · rw [e]; simp only [sumH]
      rw [show a + ((i - a).toNat : Int) + x = i + x from by omega, hq]
def needS (d : Nat) : Nat → Nat
  | 0 => 1
  | e + 1 => needS d e + (d + 2)
omit hH hl in
theorem needS_le (d : Nat) : ∀ e, needS d e ≤ 1 + e * (d + 2)
  | 0 => by simp [needS]
  | e + 1 => by
    have := needS_le d e
    simp only [needS]
    rw [Nat.add_mul]
    omega
theorem ref_sum (a t : Int) (a0 : 0 ≤ a) (at_ : a ≤ t) (ht : t ≤ max 0 ((l.length : Int) - g1)) (e : Nat) :
    ∀ (k : Nat) (x o0 o1 : Int), x + e = g1 + 1 → g0 ≤ x →
      (x = g0 ∨ SumSpec (fun x => sumH false b0 b1 f0 f1 j0 j1 dr l a x (t - a).toNat) (fun x => sumH true b0 b1 f0 f1 j0 j1 dr l a x (t - a).toNat) g0 (x - 1) (o0, o1)) →
      needS (t - a).toNat e ≤ k → cottonpadref04_sum.l0 k l a t x b0 b1 f0 f1 j0 j1 g0 g1 dr o0 o1 = some (sumS b0 b1 f0 f1 j0 j1 g0 g1 dr l a t) := by
  have hl0 := hl.1
  have kg : 0 ≤ g0 ∧ g0 ≤ g1 ∧ g1 ≤ 30 := hH.2.2.2.1
  induction e with
  | zero =>
    intro k x o0 o1 hx h0 hs hk
    obtain ⟨k, rfl⟩ : ∃ m, k = m + 1 := ⟨k - 1, by simp only [needS] at hk; omega⟩
    simp only [cottonpadref04_sum.l0]
    rw [if_neg (by omega)]
    rcases hs with hs | hs
    · omega
    · rw [show x - 1 = g1 from by omega] at hs
      rw [hs.same (sumS_spec b0 b1 f0 f1 j0 j1 g0 g1 dr l a t kg.2.1)]
  | succ e ih =>
    intro k x o0 o1 hx h0 hs hk
    simp only [needS] at hk
    obtain ⟨k, rfl⟩ : ∃ m, k = (m + ((t - a).toNat + 1)) + 1 := ⟨k - ((t - a).toNat + 1) - 1, by omega⟩
    simp only [cottonpadref04_sum.l0]
    rw [if_pos (by omega), ref_one hH hl a t x a0 h0 (by omega) ht o0 o1 (t - a).toNat k a 0 0 (Int.le_refl _) (by omega) (by simp [sumH]) (by simp [sumH]) (Int.le_refl _) (by omega) (Int.le_refl _) (by omega), w64 (by omega) (by omega)]
    generalize hS : sumH false b0 b1 f0 f1 j0 j1 dr l a x (t - a).toNat = S
    generalize hT : sumH true b0 b1 f0 f1 j0 j1 dr l a x (t - a).toNat = T
    by_cases hg : x = g0
    · rw [if_pos hg]
      refine ih k (x + 1) _ _ (by omega) (by omega) (.inr ?_) (by omega)
      have m1 : mn S S = S := by unfold mn; split <;> rfl
      have m2 : mx T T = T := by unfold mx; split <;> rfl
      rw [m1, m2, show x + 1 - 1 = x from by omega]
      refine ⟨fun y y0 y1 => ?_, fun y y0 y1 => ?_, ⟨x, h0, Int.le_refl _, hS.symm⟩, ⟨x, h0, Int.le_refl _, hT.symm⟩⟩
      · have : y = x := by omega
        subst this
        simp only [hS]; omega
      · have : y = x := by omega
        subst this
        simp only [hT]; omega
    · rw [if_neg hg]
      rcases hs with hs | hs
      · exact absurd hs hg
      · refine ih k (x + 1) _ _ (by omega) (by omega) (.inr ?_) (by omega)
        rw [show x + 1 - 1 = x from by omega]
        have hm := hull_le (o0, o1) (S, T)
        have hh : (hull (o0, o1) (S, T)) = (mn o0 S, mx o1 T) := rfl
        rw [hh] at hm
        simp only at hm
        obtain ⟨m1, m2, m3, m4, m5, m6⟩ := hm
        refine ⟨fun y y0 y1 => ?_, fun y y0 y1 => ?_, ?_, ?_⟩
        · by_cases e : y = x
          · subst e; simp only [hS]; omega
          · have := hs.low y y0 (by omega); simp only at this ⊢; omega
        · by_cases e : y = x
          · subst e; simp only [hT]; omega
          · have := hs.high y y0 (by omega); simp only at this ⊢; omega
        · rcases m5 with m | m
          · obtain ⟨y, y0, y1, hy⟩ := hs.lowAt
            exact ⟨y, y0, by omega, by simp only at hy ⊢; omega⟩
          · exact ⟨x, h0, Int.le_refl _, by simp only [hS]; omega⟩
        · rcases m6 with m | m
          · obtain ⟨y, y0, y1, hy⟩ := hs.highAt
            exact ⟨y, y0, by omega, by simp only at hy ⊢; omega⟩
          · exact ⟨x, h0, Int.le_refl _, by simp only [hT]; omega⟩
theorem refsum_eq (k : Nat) (a t : Int) (a0 : 0 ≤ a) (at_ : a ≤ t) (ht : t ≤ max 0 ((l.length : Int) - g1)) (hk : 5000 < k) : cottonpadref04_sum.f k b0 b1 f0 f1 j0 j1 g0 g1 dr l a t = some (sumS b0 b1 f0 f1 j0 j1 g0 g1 dr l a t) := by
  have hl0 := hl.1
  have kg : 0 ≤ g0 ∧ g0 ≤ g1 ∧ g1 ≤ 30 := hH.2.2.2.1
  unfold cottonpadref04_sum.f
  refine ref_sum hH hl a t a0 at_ ht (g1 + 1 - g0).toNat k g0 0 0 (by omega) (Int.le_refl _) (.inl rfl) ?_
  have h1 := needS_le (t - a).toNat (g1 + 1 - g0).toNat
  have h2 : (g1 + 1 - g0).toNat * ((t - a).toNat + 2) ≤ 31 * 122 := Nat.mul_le_mul (by omega) (by omega)
  omega

/-! ### the first second, the reference -/
omit hH hl in
theorem oneF_stop {hi lo : Int → Int} {lv : Int} {k : Nat} (h : (oneF hi lo lv k).2 = true) : ∀ d, oneF hi lo lv (k + d) = oneF hi lo lv k
  | 0 => rfl
  | d + 1 => by
    have ih := oneF_stop h d
    show oneF hi lo lv (k + d + 1) = _
    simp only [oneF, ih, h, ↓reduceIte]
/-- the first and the last of a lag, as the reference keeps them -/
def KeptO (o : Option (Int × Int)) (f g : Int) : Prop := match o with | none => f = -1 | some p => f = p.1 ∧ g = p.2
theorem ref_lag (lv x : Int) (x0 : g0 ≤ x) (x1 : x ≤ g1) (all some_ : Bool) (o0 o1 : Int) (d : Nat) :
    ∀ (k : Nat) (i f g : Int) (sure : Bool), 0 ≤ i → max 0 ((l.length : Int) - g1) - i = d → KeptO (oneF (hiA b0 b1 f0 f1 j0 j1 dr l x) (loA b0 b1 f0 f1 j0 j1 dr l x) lv i.toNat).1 f g → sure = (oneF (hiA b0 b1 f0 f1 j0 j1 dr l x) (loA b0 b1 f0 f1 j0 j1 dr l x) lv i.toNat).2 →
    ∃ k' f' g', k + 1 ≤ k' ∧ KeptO (oneF (hiA b0 b1 f0 f1 j0 j1 dr l x) (loA b0 b1 f0 f1 j0 j1 dr l x) lv (max 0 ((l.length : Int) - g1)).toNat).1 f' g' ∧
    cottonpadref04_First.l1 (k + (2 * d + 3)) l lv all some_ x f g sure i b0 b1 f0 f1 j0 j1 g0 g1 dr o0 o1 =
      cottonpadref04_First.j3 k' l lv (all && (oneF (hiA b0 b1 f0 f1 j0 j1 dr l x) (loA b0 b1 f0 f1 j0 j1 dr l x) lv (max 0 ((l.length : Int) - g1)).toNat).2) some_ x f' g' b0 b1 f0 f1 j0 j1 g0 g1 dr o0 o1 := by
  have hl0 := hl.1
  have kg : 0 ≤ g0 ∧ g0 ≤ g1 ∧ g1 ≤ 30 := hH.2.2.2.1
  have hN : mx 0 (wrap64 ((l.length : Int) - g1)) = max 0 ((l.length : Int) - g1) := by rw [w64 (by omega) (by omega), mx_eq]
  have hlo : ∀ j, loA b0 b1 f0 f1 j0 j1 dr l x j ≤ hiA b0 b1 f0 f1 j0 j1 dr l x j := fun j => (heat_lo_hi hH _).2
  induction d with
  | zero =>
    intro k i f g sure h0 hd hf hs
    have hi : i.toNat = (max 0 ((l.length : Int) - g1)).toNat := by omega
    rw [hi] at hf hs
    refine ⟨k + 1, f, g, by omega, hf, ?_⟩
    rw [← hs]
    show cottonpadref04_First.l1 (k + 1 + 1 + 1) _ _ _ _ _ _ _ _ _ _ _ _ _ _ _ _ _ _ _ _ = _
    simp only [cottonpadref04_First.l1, cottonpadref04_Seconds.f, Option.bind_some, hN]
    rw [if_neg (by omega)]
    simp only [cottonpadref04_First.j2, Bool.false_eq_true, if_false]
    cases all <;> rfl
  | succ d ih =>
    intro k i f g sure h0 hd hf hs
    rw [show k + (2 * (d + 1) + 3) = (k + (2 * d + 3)) + 1 + 1 from by omega]
    simp only [cottonpadref04_First.l1, cottonpadref04_Seconds.f, Option.bind_some, hN]
    rw [if_pos (by omega)]
    simp only [cottonpadref04_First.j2]
    cases hsu : sure with
    | true =>
      rw [hsu] at hs
      have hst := oneF_stop hs.symm ((max 0 ((l.length : Int) - g1)).toNat - i.toNat)
      rw [show i.toNat + ((max 0 ((l.length : Int) - g1)).toNat - i.toNat) = (max 0 ((l.length : Int) - g1)).toNat from by omega] at hst
      refine ⟨k + (2 * d + 3), f, g, by omega, by rw [hst]; exact hf, ?_⟩
      rw [hst, ← hs]
      cases all <;> simp
    | false =>
      rw [hsu] at hs
      simp only [Bool.not_false, if_true]
      rw [at_eq hH hl i x h0 (by omega) (by omega), Option.bind_some, w64 (by omega) (by omega)]
      have e1 : (i + 1).toNat = i.toNat + 1 := by omega
      have ei : ((i.toNat : Nat) : Int) = i := by omega
      have hstep : oneF (hiA b0 b1 f0 f1 j0 j1 dr l x) (loA b0 b1 f0 f1 j0 j1 dr l x) lv (i + 1).toNat =
          if hiA b0 b1 f0 f1 j0 j1 dr l x i < lv then oneF (hiA b0 b1 f0 f1 j0 j1 dr l x) (loA b0 b1 f0 f1 j0 j1 dr l x) lv i.toNat else (some (hullAt (oneF (hiA b0 b1 f0 f1 j0 j1 dr l x) (loA b0 b1 f0 f1 j0 j1 dr l x) lv i.toNat).1 i), decide (lv ≤ loA b0 b1 f0 f1 j0 j1 dr l x i)) := by
        rw [e1]
        simp only [oneF, ei, ← hs, Bool.false_eq_true, if_false]
      by_cases hh : hiA b0 b1 f0 f1 j0 j1 dr l x i < lv
      · rw [if_pos hh] at hstep ⊢
        exact ih k (i + 1) f g false (by omega) (by omega) (by rw [hstep]; exact hf) (by rw [hstep]; exact hs)
      · rw [if_neg hh] at hstep ⊢
        have hsp := (oneF_spec (hiA b0 b1 f0 f1 j0 j1 dr l x) (loA b0 b1 f0 f1 j0 j1 dr l x) lv hlo i.toNat).1
        cases ho : (oneF (hiA b0 b1 f0 f1 j0 j1 dr l x) (loA b0 b1 f0 f1 j0 j1 dr l x) lv i.toNat).1 with
        | none =>
          rw [ho] at hf hstep
          have hf' : f = -1 := hf
          rw [if_pos (by omega)]
          exact ih k (i + 1) i i _ (by omega) (by omega) (by rw [hstep]; exact ⟨rfl, rfl⟩) (by rw [hstep])
        | some p =>
          rw [ho] at hf hstep hsp
          obtain ⟨hf1, hf2⟩ : f = p.1 ∧ g = p.2 := hf
          have r1 := hsp.1
          have r2 := hsp.2.1
          have r1a := r1.1
          have r1b := r1.2.1
          have r2b := r2.2.1
          rw [if_neg (by omega)]
          refine ih k (i + 1) f i _ (by omega) (by omega) ?_ (by rw [hstep])
          rw [hstep]
          show f = mn p.1 i ∧ i = mx p.2 i
          unfold mn mx
          refine ⟨?_, ?_⟩
          · rw [if_neg (by omega)]; exact hf1
          · rw [if_pos (by omega)]
def needF (d : Nat) : Nat → Nat
  | 0 => 1
  | e + 1 => needF d e + (2 * d + 5)
omit hH hl in
theorem needF_le (d : Nat) : ∀ e, needF d e ≤ 1 + e * (2 * d + 5)
  | 0 => by simp [needF]
  | e + 1 => by
    have := needF_le d e
    simp only [needF]
    rw [Nat.add_mul]
    omega
theorem ref_lags (lv : Int) (e : Nat) :
    ∀ (k : Nat) (x : Int) (all some_ : Bool) (o0 o1 : Int) (O : Option (Int × Int)), x + e = g1 + 1 → g0 ≤ x → OptSpec (fun i => ∃ y, g0 ≤ y ∧ y < x ∧ Reach (hiA b0 b1 f0 f1 j0 j1 dr l y) (loA b0 b1 f0 f1 j0 j1 dr l y) lv (max 0 ((l.length : Int) - g1)) i) O →
      (some_ = O.isSome) → (∀ p, O = some p → o0 = p.1 ∧ o1 = p.2) → (all = true ↔ ∀ y, g0 ≤ y → y < x → ∃ j, 0 ≤ j ∧ j < max 0 ((l.length : Int) - g1) ∧ lv ≤ loA b0 b1 f0 f1 j0 j1 dr l y j) →
      needF (max 0 ((l.length : Int) - g1)).toNat e ≤ k →
      ∃ a b n, cottonpadref04_First.l0 k l lv all some_ x b0 b1 f0 f1 j0 j1 g0 g1 dr o0 o1 = some (a, b, n, 0) ∧ FirstSpec (hiA b0 b1 f0 f1 j0 j1 dr l) (loA b0 b1 f0 f1 j0 j1 dr l) lv (max 0 ((l.length : Int) - g1)) g0 g1 a b n := by
  have hl0 := hl.1
  have kg : 0 ≤ g0 ∧ g0 ≤ g1 ∧ g1 ≤ 30 := hH.2.2.2.1
  have hlo : ∀ x j, loA b0 b1 f0 f1 j0 j1 dr l x j ≤ hiA b0 b1 f0 f1 j0 j1 dr l x j := fun x j => (heat_lo_hi hH _).2
  have hone := fun x => oneF_spec (hiA b0 b1 f0 f1 j0 j1 dr l x) (loA b0 b1 f0 f1 j0 j1 dr l x) lv (hlo x) (max 0 ((l.length : Int) - g1)).toNat
  rw [show (((max 0 ((l.length : Int) - g1)).toNat : Nat) : Int) = max 0 ((l.length : Int) - g1) from by omega] at hone
  induction e with
  | zero =>
    intro k x all some_ o0 o1 O hx h0 hO hs ho ha hk
    obtain ⟨k, rfl⟩ : ∃ m, k = m + 1 := ⟨k - 1, by simp only [needF] at hk; omega⟩
    simp only [cottonpadref04_First.l0]
    rw [if_neg (by omega)]
    cases O with
    | none =>
      have hs' : some_ = false := hs
      rw [hs']
      simp only [Bool.false_eq_true, if_false]
      have hno : ∀ y i, g0 ≤ y → y ≤ g1 → ¬ Reach (hiA b0 b1 f0 f1 j0 j1 dr l y) (loA b0 b1 f0 f1 j0 j1 dr l y) lv (max 0 ((l.length : Int) - g1)) i := fun y i y0 y1 r => hO i ⟨y, y0, by omega, r⟩
      refine ⟨0, 0, 0, rfl, .inl rfl, fun _ => ⟨rfl, rfl, hno⟩, fun h => absurd rfl h, fun h => absurd rfl h, fun y i y0 y1 r => absurd r (hno y i y0 y1), ⟨fun h => by omega, fun h => ?_⟩⟩
      exfalso
      have hsu := (hone g0).2.2 (h g0 (Int.le_refl _) kg.2.1)
      have ho := (hone g0).1
      cases hc : (oneF (hiA b0 b1 f0 f1 j0 j1 dr l g0) (loA b0 b1 f0 f1 j0 j1 dr l g0) lv (max 0 ((l.length : Int) - g1)).toNat).1 with
      | some p => rw [hc] at ho; exact hno g0 _ (Int.le_refl _) kg.2.1 ho.1
      | none =>
        have : ∀ (hi lo : Int → Int) (k : Nat), (oneF hi lo lv k).2 = true → (oneF hi lo lv k).1 ≠ none := by
          intro hi lo k
          induction k with
          | zero => intro h; simp [oneF] at h
          | succ k ih =>
            simp only [oneF]
            split
            · exact ih
            · split
              · exact ih
              · intro _; simp
        exact this _ _ _ hsu hc
    | some p =>
      have hs' : some_ = true := hs
      obtain ⟨rfl, rfl⟩ := ho p rfl
      obtain ⟨⟨y, y0, y1, r⟩, ⟨z, z0, z1, q⟩, hall⟩ := hO
      rw [hs']
      simp only [if_true]
      have ha' : all = true ↔ ∀ y, g0 ≤ y → y ≤ g1 → ∃ j, 0 ≤ j ∧ j < max 0 ((l.length : Int) - g1) ∧ lv ≤ loA b0 b1 f0 f1 j0 j1 dr l y j := ha.trans ⟨fun h y y0 y1 => h y y0 (by omega), fun h y y0 y1 => h y y0 (by omega)⟩
      cases all with
      | true =>
        exact ⟨p.1, p.2, 2, rfl, .inr (.inr rfl), fun h => by omega, fun _ => ⟨y, y0, by omega, r⟩, fun _ => ⟨z, z0, by omega, q⟩, fun u i u0 u1 r => ⟨by omega, hall i ⟨u, u0, by omega, r⟩⟩, ⟨fun _ => ha'.1 rfl, fun _ => rfl⟩⟩
      | false =>
        exact ⟨p.1, p.2, 1, rfl, .inr (.inl rfl), fun h => by omega, fun _ => ⟨y, y0, by omega, r⟩, fun _ => ⟨z, z0, by omega, q⟩, fun u i u0 u1 r => ⟨by omega, hall i ⟨u, u0, by omega, r⟩⟩, ⟨fun h => by omega, fun h => absurd (ha'.2 h) (by simp)⟩⟩
  | succ e ih =>
    intro k x all some_ o0 o1 O hx h0 hO hs ho ha hk
    simp only [needF] at hk
    obtain ⟨k, rfl⟩ : ∃ m, k = (m + (2 * (max 0 ((l.length : Int) - g1)).toNat + 3)) + 1 := ⟨k - (2 * (max 0 ((l.length : Int) - g1)).toNat + 3) - 1, by omega⟩
    simp only [cottonpadref04_First.l0]
    rw [if_pos (by omega)]
    obtain ⟨k', f', g', hk', hkept, heq⟩ := ref_lag hH hl lv x h0 (by omega) all some_ o0 o1 (max 0 ((l.length : Int) - g1)).toNat k 0 (-1) (-1) false (Int.le_refl _) (by omega) rfl rfl
    rw [heq]
    obtain ⟨k', rfl⟩ : ∃ m, k' = m + 1 := ⟨k' - 1, by omega⟩
    simp only [cottonpadref04_First.j3]
    rw [w64 (by omega) (by omega)]
    have hsp := hone x
    have ha' : (all && (oneF (hiA b0 b1 f0 f1 j0 j1 dr l x) (loA b0 b1 f0 f1 j0 j1 dr l x) lv (max 0 ((l.length : Int) - g1)).toNat).2) = true ↔ ∀ y, g0 ≤ y → y < x + 1 → ∃ j, 0 ≤ j ∧ j < max 0 ((l.length : Int) - g1) ∧ lv ≤ loA b0 b1 f0 f1 j0 j1 dr l y j := by
      rw [Bool.and_eq_true, ha, hsp.2]
      constructor
      · rintro ⟨h1, h2⟩ y y0 y1
        by_cases e : y = x
        · rw [e]; exact h2
        · exact h1 y y0 (by omega)
      · intro h
        exact ⟨fun y y0 y1 => h y y0 (by omega), h x h0 (by omega)⟩
    cases hc : (oneF (hiA b0 b1 f0 f1 j0 j1 dr l x) (loA b0 b1 f0 f1 j0 j1 dr l x) lv (max 0 ((l.length : Int) - g1)).toNat).1 with
    | none =>
      rw [hc] at hkept
      have h1 : f' = -1 := hkept
      have hsp1 := hsp.1
      rw [hc] at hsp1
      rw [if_pos (by omega)]
      refine ih k' (x + 1) _ some_ o0 o1 O (by omega) (by omega) (hO.iff fun i => ⟨fun ⟨y, y0, y1, r⟩ => ⟨y, y0, by omega, r⟩, fun ⟨y, y0, y1, r⟩ => ?_⟩) hs ho ha' (by omega)
      by_cases e : y = x
      · rw [e] at r; exact absurd r (hsp1 i)
      · exact ⟨y, y0, by omega, r⟩
    | some p =>
      rw [hc] at hkept
      obtain ⟨h1, h2⟩ : f' = p.1 ∧ g' = p.2 := hkept
      have hsp1 := hsp.1
      rw [hc] at hsp1
      obtain ⟨p1, p2, p3⟩ := hsp1
      have p1a := p1.1
      rw [if_neg (by omega)]
      cases O with
      | none =>
        have hs' : some_ = false := hs
        rw [hs']
        simp only [Bool.false_eq_true, if_false]
        refine ih k' (x + 1) _ true _ _ (some p) (by omega) (by omega) ⟨⟨x, h0, by omega, p1⟩, ⟨x, h0, by omega, p2⟩, fun i ⟨y, y0, y1, r⟩ => ?_⟩ rfl (fun q hq => ?_) ha' (by omega)
        · by_cases e : y = x
          · rw [e] at r; exact p3 i r
          · exact absurd ⟨y, y0, by omega, r⟩ (hO i)
        · obtain rfl := Option.some.inj hq
          rw [h1, h2, mn_eq, mx_eq]
          omega
      | some q =>
        have hs' : some_ = true := hs
        obtain ⟨rfl, rfl⟩ := ho q rfl
        obtain ⟨⟨y, y0, y1, r⟩, ⟨z, z0, z1, s⟩, hall⟩ := hO
        rw [hs']
        simp only [if_true]
        obtain ⟨m1, m2, m3, m4, m5, m6⟩ := hull_le q p
        refine ih k' (x + 1) _ true _ _ (some (hull q p)) (by omega) (by omega) ⟨?_, ?_, fun i ⟨u, u0, u1, t⟩ => ?_⟩ rfl (fun v hv => ?_) ha' (by omega)
        · rcases m5 with m | m
          · show ∃ y, _ ∧ _ ∧ Reach _ _ _ _ (hull q p).1
            rw [m]; exact ⟨y, y0, by omega, r⟩
          · show ∃ y, _ ∧ _ ∧ Reach _ _ _ _ (hull q p).1
            rw [m]; exact ⟨x, h0, by omega, p1⟩
        · rcases m6 with m | m
          · show ∃ y, _ ∧ _ ∧ Reach _ _ _ _ (hull q p).2
            rw [m]; exact ⟨z, z0, by omega, s⟩
          · show ∃ y, _ ∧ _ ∧ Reach _ _ _ _ (hull q p).2
            rw [m]; exact ⟨x, h0, by omega, p2⟩
        · by_cases e : u = x
          · rw [e] at t; have := p3 i t; omega
          · have := hall i ⟨u, u0, by omega, t⟩; omega
        · obtain rfl := Option.some.inj hv
          rw [h1, h2]
          exact ⟨rfl, rfl⟩
end told
section all
variable (b0 b1 f0 f1 j0 j1 g0 g1 dr : Int) (l : List Int)
theorem Heat_same (k : Nat) (s : Int) (hk : 5000 < k) : ∃ p q e, burn_Heat.f k b0 b1 f0 f1 j0 j1 g0 g1 dr l s = some (p, q, e) ∧ cottonpadref04_Heat.f k b0 b1 f0 f1 j0 j1 g0 g1 dr l s = some (p, q, e) := by
  unfold burn_Heat.f cottonpadref04_Heat.f
  rw [Check_eq _ _ _ _ _ _ _ _ _ _ _ (by omega), refCheck_eq _ _ _ _ _ _ _ _ _ _ _ (by omega), Option.bind_some, Option.bind_some]
  by_cases h : checkS b0 b1 f0 f1 j0 j1 g0 g1 dr l = 0
  · obtain ⟨hH, hl⟩ := checkS_zero.1 h
    have hl0 := hl.1
    have kg : 0 ≤ g0 ∧ g0 ≤ g1 ∧ g1 ≤ 30 := hH.2.2.2.1
    have hN : mx 0 (wrap64 ((l.length : Int) - g1)) = max 0 ((l.length : Int) - g1) := by rw [w64 (by omega) (by omega), mx_eq]
    have hw : wrap64 (max 0 ((l.length : Int) - g1) - 1) = max 0 ((l.length : Int) - g1) - 1 := w64 (by omega) (by omega)
    rw [if_pos h, if_pos h, secS_eq hH (by omega), hw, inRange_eq]
    simp only [cottonpadref04_Seconds.f, Option.bind_some, hN, hw]
    rw [within_eq]
    simp only [Option.bind_some]
    by_cases hi : inB 0 (max 0 ((l.length : Int) - g1) - 1) [s] = true
    · have hs := (inB_one _ _ _).1 hi
      rw [if_pos hi, if_pos hi, w64 (by omega) (by omega), refsum_eq hH hl k s (s + 1) hs.1 (by omega) (by omega) hk]
      unfold sumG
      rw [if_pos ⟨hH, hl, by omega, by omega, by omega⟩]
      exact ⟨_, _, _, rfl, rfl⟩
    · rw [if_neg hi, if_neg hi]
      exact ⟨_, _, _, rfl, rfl⟩
  · rw [if_neg h, if_neg h]
    exact ⟨_, _, _, rfl, rfl⟩
theorem Sum_same (k : Nat) (s t : Int) (hk : 5000 < k) : ∃ p q e, burn_Sum.f k b0 b1 f0 f1 j0 j1 g0 g1 dr l s t = some (p, q, e) ∧ cottonpadref04_Sum.f k b0 b1 f0 f1 j0 j1 g0 g1 dr l s t = some (p, q, e) := by
  unfold burn_Sum.f cottonpadref04_Sum.f
  rw [Check_eq _ _ _ _ _ _ _ _ _ _ _ (by omega), refCheck_eq _ _ _ _ _ _ _ _ _ _ _ (by omega), Option.bind_some, Option.bind_some]
  by_cases h : checkS b0 b1 f0 f1 j0 j1 g0 g1 dr l = 0
  · obtain ⟨hH, hl⟩ := checkS_zero.1 h
    have hl0 := hl.1
    have kg : 0 ≤ g0 ∧ g0 ≤ g1 ∧ g1 ≤ 30 := hH.2.2.2.1
    have hN : mx 0 (wrap64 ((l.length : Int) - g1)) = max 0 ((l.length : Int) - g1) := by rw [w64 (by omega) (by omega), mx_eq]
    rw [if_pos h, if_pos h, secS_eq hH (by omega), inRange_eq]
    have hib := inB_two 0 (max 0 ((l.length : Int) - g1)) s t
    simp only [cottonpadref04_Seconds.f, Option.bind_some, hN]
    by_cases h1 : s < 0
    · rw [if_pos h1, if_neg (by rw [hib]; omega)]
      exact ⟨_, _, _, rfl, rfl⟩
    · rw [if_neg h1]
      by_cases h2 : t < s
      · rw [if_pos h2, if_neg (by rw [hib]; omega)]
        exact ⟨_, _, _, rfl, rfl⟩
      · rw [if_neg h2]
        by_cases h3 : t > max 0 ((l.length : Int) - g1)
        · rw [if_pos h3, if_neg (by rw [hib]; omega)]
          exact ⟨_, _, _, rfl, rfl⟩
        · rw [if_neg h3, if_pos (by rw [hib]; omega), refsum_eq hH hl k s t (by omega) (by omega) (by omega) hk]
          unfold sumG
          rw [if_pos ⟨hH, hl, by omega, by omega, by omega⟩]
          exact ⟨_, _, _, rfl, rfl⟩
  · rw [if_neg h, if_neg h]
    exact ⟨_, _, _, rfl, rfl⟩
theorem First_same (k : Nat) (lv : Int) (hk : 10000 < k) : ∃ p q n e, burn_First.f k b0 b1 f0 f1 j0 j1 g0 g1 dr l lv = some (p, q, n, e) ∧ cottonpadref04_First.f k b0 b1 f0 f1 j0 j1 g0 g1 dr l lv = some (p, q, n, e) := by
  by_cases h : checkS b0 b1 f0 f1 j0 j1 g0 g1 dr l = 0
  · obtain ⟨hH, hl⟩ := checkS_zero.1 h
    have hl0 := hl.1
    have kg : 0 ≤ g0 ∧ g0 ≤ g1 ∧ g1 ≤ 30 := hH.2.2.2.1
    by_cases h1 : lv < 1
    · unfold burn_First.f cottonpadref04_First.f
      rw [Check_eq _ _ _ _ _ _ _ _ _ _ _ (by omega), refCheck_eq _ _ _ _ _ _ _ _ _ _ _ (by omega), Option.bind_some, Option.bind_some, if_pos h, if_pos h, if_pos h1, if_pos h1]
      exact ⟨_, _, _, _, rfl, rfl⟩
    · obtain ⟨a, b, n, e1, s1⟩ := First_ok hH hl k lv (by omega) (by omega)
      unfold cottonpadref04_First.f
      rw [refCheck_eq _ _ _ _ _ _ _ _ _ _ _ (by omega), Option.bind_some, if_pos h, if_neg h1]
      have h2 := needF_le (max 0 ((l.length : Int) - g1)).toNat (g1 + 1 - g0).toNat
      have h3 : (g1 + 1 - g0).toNat * (2 * (max 0 ((l.length : Int) - g1)).toNat + 5) ≤ 31 * 245 := Nat.mul_le_mul (by omega) (by omega)
      obtain ⟨a', b', n', e2, s2⟩ := ref_lags hH hl lv (g1 + 1 - g0).toNat k g0 true false 0 0 none (by omega) (Int.le_refl _) (fun i ⟨y, y0, y1, _⟩ => by omega) rfl (fun p hp => by cases hp) ⟨fun _ y y0 y1 => by omega, fun _ => rfl⟩ (by omega)
      obtain ⟨rfl, rfl, rfl⟩ := s1.same s2
      exact ⟨_, _, _, _, e1, e2⟩
  · unfold burn_First.f cottonpadref04_First.f
    rw [Check_eq _ _ _ _ _ _ _ _ _ _ _ (by omega), refCheck_eq _ _ _ _ _ _ _ _ _ _ _ (by omega), Option.bind_some, Option.bind_some, if_neg h, if_neg h]
    exact ⟨_, _, _, _, rfl, rfl⟩
end all
theorem same_loop (l : List Int) (hl : l.length ≤ 1000000) (d : Nat) : ∀ (k : Nat) (i : Int), 0 ≤ i → (l.length : Int) - i = d → d < k →
    cottonpadref04_SameInts.l0 k l l i = some true := by
  induction d with
  | zero =>
    intro k i h0 hd hk
    obtain ⟨k, rfl⟩ : ∃ m, k = m + 1 := ⟨k - 1, by omega⟩
    simp only [cottonpadref04_SameInts.l0]
    rw [if_neg (by omega)]
  | succ d ih =>
    intro k i h0 hd hk
    obtain ⟨k, rfl⟩ : ∃ m, k = m + 1 := ⟨k - 1, by omega⟩
    simp only [cottonpadref04_SameInts.l0]
    rw [if_pos (by omega), if_pos h0, if_pos (by omega), if_pos trivial, w64 (by omega) (by omega)]
    exact ih k (i + 1) (by omega) (by omega) (by omega)
/-- The one plain statement of BurnHeats. -/
theorem pureHeats (b0 b1 f0 f1 j0 j1 g0 g1 dr : Int) (l : List Int) (s fr to_ lv : Int) : ∃ k, cottonpadlaw04_BurnHeats.f k b0 b1 f0 f1 j0 j1 g0 g1 dr l s fr to_ lv = some true := by
  refine ⟨20000, ?_⟩
  unfold cottonpadlaw04_BurnHeats.f cottonpadref04_Great.f
  simp only [Option.bind_some]
  by_cases hg : (l.length : Int) > 150
  · rw [if_pos (by simpa using hg)]
  · rw [if_neg (by simpa using hg), if_pos (by simp; omega)]
    simp only [List.nil_append]
    obtain ⟨p1, q1, e1, a1, a2⟩ := Heat_same b0 b1 f0 f1 j0 j1 g0 g1 dr l 20000 s (by omega)
    obtain ⟨p2, q2, e2, c1, c2⟩ := Sum_same b0 b1 f0 f1 j0 j1 g0 g1 dr l 20000 fr to_ (by omega)
    obtain ⟨p3, q3, n3, e3, d1, d2⟩ := First_same b0 b1 f0 f1 j0 j1 g0 g1 dr l 20000 lv (by omega)
    rw [a1, a2, c1, c2, d1, d2, Check_eq _ _ _ _ _ _ _ _ _ _ _ (by omega), refCheck_eq _ _ _ _ _ _ _ _ _ _ _ (by omega)]
    simp only [Option.bind_some, beq_self_eq_true, Bool.and_self, if_true]
    unfold cottonpadref04_SameInts.f
    rw [if_pos rfl, same_loop l (by omega) l.length 20000 0 (by omega) (by omega) (by omega)]
    rfl
end Go.Proofs.YtfgclmbndgakgaaDoor.Pure
