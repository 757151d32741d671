/- BurnEnds, the plain law: both ends come about. -/
import Derived.Test.YtfgclmbndgakgaaDoorPureA
import Derived.Test.YtfgclmbndgakgaaDoorPEx3
namespace Go.Proofs.YtfgclmbndgakgaaDoor.Pure
open Go.RowKit Go.Proofs.YtfgclmbndgakgaaDoor Go.Proofs.YtfgclmbndgakgaaDoor.PA Go.Proofs.YtfgclmbndgakgaaDoor.PR Go.Proofs.YtfgclmbndgakgaaDoor.PE Go.Proofs.YtfgclmbndgakgaaDoor.PC1 Go.Proofs.YtfgclmbndgakgaaDoor.PC2 Go.Proofs.YtfgclmbndgakgaaDoorW.PrintWords Go.Proofs.YtfgclmbndgakgaaDoorW.PrintLast Go.Proofs.YtfgclmbndgakgaaDoorW.PrintMore
set_option linter.unusedVariables false
set_option linter.unusedSimpArgs false

section told
variable {b0 b1 f0 f1 j0 j1 g0 g1 dr : Int} {l : List Int} (hH : HoodOK b0 b1 f0 f1 j0 j1 g0 g1 dr) (hl : ReadsOK l)
include hH hl
theorem ends_loop (x : Int) (x0 : g0 ≤ x) (x1 : x ≤ g1) (most : Bool) (d : Nat) : ∀ (k : Nat) (i : Int) (acc : List Int), 0 ≤ i → max 0 ((l.length : Int) - g1) - i = d → d < k → (acc.length : Int) = i →
    (∀ j, 0 ≤ j → j < i → rd acc j = if most then hiA b0 b1 f0 f1 j0 j1 dr l x j else loA b0 b1 f0 f1 j0 j1 dr l x j) →
    ∃ t, cottonpadlaw04_ends.l0 k l x most acc (max 0 ((l.length : Int) - g1)) i b0 b1 f0 f1 j0 j1 g0 g1 dr = some t ∧ (t.length : Int) = max 0 ((l.length : Int) - g1) ∧
      ∀ j, 0 ≤ j → j < max 0 ((l.length : Int) - g1) → rd t j = if most then hiA b0 b1 f0 f1 j0 j1 dr l x j else loA b0 b1 f0 f1 j0 j1 dr l x j := by
  have hl0 := hl.1
  have kg : 0 ≤ g0 ∧ g0 ≤ g1 ∧ g1 ≤ 30 := hH.2.2.2.1
  induction d with
  | zero =>
    intro k i acc h0 hd hk hc hb
    obtain ⟨k, rfl⟩ : ∃ m, k = m + 1 := ⟨k - 1, by omega⟩
    rw [cottonpadlaw04_ends.l0, if_neg (by omega)]
    exact ⟨acc, rfl, by omega, fun j j0 j1 => hb j j0 (by omega)⟩
  | succ d ih =>
    intro k i acc h0 hd hk hc hb
    obtain ⟨k, rfl⟩ : ∃ m, k = m + 1 := ⟨k - 1, by omega⟩
    have hr := rd_ok hl (i + x)
    obtain ⟨e1, e2, -⟩ := heat_big hH hr.1 hr.2
    rw [cottonpadlaw04_ends.l0, if_pos (by omega), w64 (n := i + x) (by omega) (by omega), w64 (n := i + 1) (by omega) (by omega), e1, e2]
    cases most with
    | true =>
      rw [if_pos rfl, if_pos (by omega), if_pos (by omega), if_pos (by omega)]
      refine ih k (i + 1) _ (by omega) (by omega) (by omega) (by simp; omega) fun q q0 q1 => ?_
      rw [rd_snoc _ _ _ q0]
      by_cases hq : q < acc.length
      · rw [if_pos hq]
        exact hb q q0 (by omega)
      · rw [if_neg hq, if_pos (by omega), show q = i from by omega]
        rfl
    | false =>
      rw [if_neg (by simp), if_pos (by omega), if_pos (by omega), if_pos (by omega)]
      refine ih k (i + 1) _ (by omega) (by omega) (by omega) (by simp; omega) fun q q0 q1 => ?_
      rw [rd_snoc _ _ _ q0]
      by_cases hq : q < acc.length
      · rw [if_pos hq]
        exact hb q q0 (by omega)
      · rw [if_neg hq, if_pos (by omega), show q = i from by omega]
        rfl
theorem ends_ok (k : Nat) (hk : 300 < k) (x : Int) (x0 : g0 ≤ x) (x1 : x ≤ g1) (most : Bool) : ∃ t, cottonpadlaw04_ends.f k b0 b1 f0 f1 j0 j1 g0 g1 dr l x most = some t ∧ (t.length : Int) = max 0 ((l.length : Int) - g1) ∧
      ∀ j, 0 ≤ j → j < max 0 ((l.length : Int) - g1) → rd t j = if most then hiA b0 b1 f0 f1 j0 j1 dr l x j else loA b0 b1 f0 f1 j0 j1 dr l x j := by
  have hl0 := hl.1
  have kg : 0 ≤ g0 ∧ g0 ≤ g1 ∧ g1 ≤ 30 := hH.2.2.2.1
  unfold cottonpadlaw04_ends.f cottonpadref04_Seconds.f
  simp only [Option.bind_some]
  rw [w64 (by omega) (by omega), mx_eq]
  exact ends_loop hH hl x x0 x1 most (max 0 ((l.length : Int) - g1)).toNat k 0 [] (Int.le_refl _) (by omega) (by omega) rfl (fun j j0 j1 => by omega)
/-- the sums at one lag -/
theorem ends_sum (lv n a b kn lag : Int) (least most early late always : Bool) (tl th : List Int) (s0 s1 u v : Int) (x0 : g0 ≤ lag) (x1 : lag ≤ g1)
    (htl : (tl.length : Int) = max 0 ((l.length : Int) - g1)) (hth : (th.length : Int) = max 0 ((l.length : Int) - g1))
    (hlo : ∀ j, 0 ≤ j → j < max 0 ((l.length : Int) - g1) → rd tl j = loA b0 b1 f0 f1 j0 j1 dr l lag j) (hhi : ∀ j, 0 ≤ j → j < max 0 ((l.length : Int) - g1) → rd th j = hiA b0 b1 f0 f1 j0 j1 dr l lag j)
    (a0 : 0 ≤ a) (b1' : b ≤ max 0 ((l.length : Int) - g1)) (r : Nat) :
    ∀ (k : Nat) (i p q : Int), a ≤ i → b - i = r → p = sumH false b0 b1 f0 f1 j0 j1 dr l a lag (i - a).toNat → q = sumH true b0 b1 f0 f1 j0 j1 dr l a lag (i - a).toNat → 0 ≤ p → p ≤ i * 300300000000000 → 0 ≤ q → q ≤ i * 300300000000000 →
    cottonpadlaw04_BurnEnds.l1 (k + (r + 1)) l lv true n a b kn least most early late always lag tl th p q i b0 b1 f0 f1 j0 j1 g0 g1 dr s0 s1 u v =
      cottonpadlaw04_BurnEnds.j3 k l lv true n a b kn (least || (sumH false b0 b1 f0 f1 j0 j1 dr l a lag (b - a).toNat == s0)) (most || (sumH true b0 b1 f0 f1 j0 j1 dr l a lag (b - a).toNat == s1)) early late always lag tl th
        (sumH false b0 b1 f0 f1 j0 j1 dr l a lag (b - a).toNat) (sumH true b0 b1 f0 f1 j0 j1 dr l a lag (b - a).toNat) b0 b1 f0 f1 j0 j1 g0 g1 dr s0 s1 u v := by
  have hl0 := hl.1
  have kg : 0 ≤ g0 ∧ g0 ≤ g1 ∧ g1 ≤ 30 := hH.2.2.2.1
  induction r with
  | zero =>
    intro k i p q h0 hr hp hq p0 p1 q0 q1
    rw [cottonpadlaw04_BurnEnds.l1, if_neg (by omega), hp, hq, show i = b from by omega]
    cases least <;> cases most <;> simp only [Bool.false_eq_true, if_false, if_true, Bool.false_or, Bool.true_or]
  | succ r ih =>
    intro k i p q h0 hr hp hq p0 p1 q0 q1
    rw [show k + (r + 1 + 1) = (k + (r + 1)) + 1 from by omega]
    have hy := rd_ok hl (i + lag)
    obtain ⟨-, -, e3⟩ := heat_big hH hy.1 hy.2
    have e4 := heat_lo_hi hH (rd l (i + lag))
    rw [cottonpadlaw04_BurnEnds.l1, if_pos (by omega), if_pos (by omega), if_pos (by omega), if_pos (by omega), hlo i (by omega) (by omega), hhi i (by omega) (by omega)]
    unfold loA hiA
    rw [w64 (n := p + _) (by omega) (by omega), w64 (n := q + _) (by omega) (by omega), w64 (n := i + 1) (by omega) (by omega)]
    have e : (i + 1 - a).toNat = (i - a).toNat + 1 := by omega
    refine ih k (i + 1) _ _ (by omega) (by omega) ?_ ?_ (by omega) (by omega) (by omega) (by omega)
    · rw [e]; simp only [sumH]
      rw [show a + ((i - a).toNat : Int) + lag = i + lag from by omega, hp]
    · rw [e]; simp only [sumH]
      rw [show a + ((i - a).toNat : Int) + lag = i + lag from by omega, hq]
/-- the first seconds at one lag -/
theorem ends_first (lv n a b kn lag : Int) (least most always : Bool) (tl th : List Int) (s0 s1 u v : Int) (x0 : g0 ≤ lag) (x1 : lag ≤ g1) (hn : n = max 0 ((l.length : Int) - g1))
    (hs : FirstSpec (hiA b0 b1 f0 f1 j0 j1 dr l) (loA b0 b1 f0 f1 j0 j1 dr l) lv n g0 g1 u v kn)
    (htl : (tl.length : Int) = n) (hth : (th.length : Int) = n)
    (hlo : ∀ j, 0 ≤ j → j < n → rd tl j = loA b0 b1 f0 f1 j0 j1 dr l lag j) (hhi : ∀ j, 0 ≤ j → j < n → rd th j = hiA b0 b1 f0 f1 j0 j1 dr l lag j) (E0 L0 : Prop) (r : Nat) :
    ∀ (k : Nat) (i : Int) (early late sure : Bool), 0 ≤ i → n - i = r → (sure = true ↔ ∃ j, 0 ≤ j ∧ j < i ∧ lv ≤ loA b0 b1 f0 f1 j0 j1 dr l lag j) →
      (early = true ↔ E0 ∨ (u < i ∧ Reach (hiA b0 b1 f0 f1 j0 j1 dr l lag) (loA b0 b1 f0 f1 j0 j1 dr l lag) lv n u)) → (late = true ↔ L0 ∨ (v < i ∧ Reach (hiA b0 b1 f0 f1 j0 j1 dr l lag) (loA b0 b1 f0 f1 j0 j1 dr l lag) lv n v)) →
    ∃ early' late' sure', (sure' = true ↔ ∃ j, 0 ≤ j ∧ j < n ∧ lv ≤ loA b0 b1 f0 f1 j0 j1 dr l lag j) ∧
      (early' = true ↔ E0 ∨ Reach (hiA b0 b1 f0 f1 j0 j1 dr l lag) (loA b0 b1 f0 f1 j0 j1 dr l lag) lv n u) ∧ (late' = true ↔ L0 ∨ Reach (hiA b0 b1 f0 f1 j0 j1 dr l lag) (loA b0 b1 f0 f1 j0 j1 dr l lag) lv n v) ∧
    cottonpadlaw04_BurnEnds.l2 (k + (2 * r + 1)) l lv true n a b kn least most early late always lag tl th sure n i b0 b1 f0 f1 j0 j1 g0 g1 dr s0 s1 u v =
      cottonpadlaw04_BurnEnds.l0 k l lv true n a b kn least most early' late' (always && sure') (wrap64 (lag + 1)) b0 b1 f0 f1 j0 j1 g0 g1 dr s0 s1 u v := by
  have hl0 := hl.1
  have kg : 0 ≤ g0 ∧ g0 ≤ g1 ∧ g1 ≤ 30 := hH.2.2.2.1
  have hle : ∀ j, loA b0 b1 f0 f1 j0 j1 dr l lag j ≤ hiA b0 b1 f0 f1 j0 j1 dr l lag j := fun j => (heat_lo_hi hH _).2
  induction r with
  | zero =>
    intro k i early late sure h0 hr h1 h2 h3
    have e : i = n := by omega
    rw [e] at h1 h2 h3
    refine ⟨early, late, sure, h1, h2.trans ⟨fun h => h.imp_right And.right, fun h => h.imp_right fun r => ⟨r.2.1, r⟩⟩, h3.trans ⟨fun h => h.imp_right And.right, fun h => h.imp_right fun r => ⟨r.2.1, r⟩⟩, ?_⟩
    rw [cottonpadlaw04_BurnEnds.l2, if_neg (by omega)]
    cases always <;> simp only [Bool.false_eq_true, if_false, if_true, Bool.false_and, Bool.true_and]
  | succ r ih =>
    intro k i early late sure h0 hr h1 h2 h3
    rw [show k + (2 * (r + 1) + 1) = (k + (2 * r + 1)) + 1 + 1 from by omega]
    have ew : wrap64 (i + 1) = i + 1 := by
      clear h1 h2 h3
      exact w64 (by omega) (by omega)
    rw [cottonpadlaw04_BurnEnds.l2, if_pos (by omega), if_pos (by omega), if_pos (by omega), hhi i h0 (by omega)]
    have hsure : ∀ s', (s' = true ↔ sure = true ∨ lv ≤ loA b0 b1 f0 f1 j0 j1 dr l lag i) → (s' = true ↔ ∃ j, 0 ≤ j ∧ j < i + 1 ∧ lv ≤ loA b0 b1 f0 f1 j0 j1 dr l lag j) := by
      intro s' hs'
      rw [hs', h1]
      constructor
      · rintro (⟨j, j0, j1, hj⟩ | h)
        · exact ⟨j, j0, by omega, hj⟩
        · exact ⟨i, h0, by omega, h⟩
      · rintro ⟨j, j0, j1, hj⟩
        by_cases e : j = i
        · rw [e] at hj; exact .inr hj
        · exact .inl ⟨j, j0, by omega, hj⟩
    -- whether this second can be the first at this lag
    have hreach : (hiA b0 b1 f0 f1 j0 j1 dr l lag i ≥ lv ∧ sure = false) ↔ Reach (hiA b0 b1 f0 f1 j0 j1 dr l lag) (loA b0 b1 f0 f1 j0 j1 dr l lag) lv n i := by
      constructor
      · rintro ⟨p, q⟩
        refine ⟨h0, by omega, p, fun z z0 z1 => ?_⟩
        by_cases hj : loA b0 b1 f0 f1 j0 j1 dr l lag z < lv
        · exact hj
        · rw [h1.2 ⟨z, z0, z1, by omega⟩] at q
          simp at q
      · rintro ⟨-, -, p, q⟩
        refine ⟨p, ?_⟩
        cases hsu : sure with
        | false => rfl
        | true =>
          obtain ⟨j, j0, j1, hj⟩ := h1.1 hsu
          have := q j j0 j1
          omega
    have hmore : ∀ (F : Prop) (z : Int) (c : Bool), (c = true ↔ F ∨ (z < i ∧ Reach (hiA b0 b1 f0 f1 j0 j1 dr l lag) (loA b0 b1 f0 f1 j0 j1 dr l lag) lv n z)) →
        ((Reach (hiA b0 b1 f0 f1 j0 j1 dr l lag) (loA b0 b1 f0 f1 j0 j1 dr l lag) lv n i → ((c || (i == z)) = true ↔ F ∨ (z < i + 1 ∧ Reach (hiA b0 b1 f0 f1 j0 j1 dr l lag) (loA b0 b1 f0 f1 j0 j1 dr l lag) lv n z))) ∧
         (¬ Reach (hiA b0 b1 f0 f1 j0 j1 dr l lag) (loA b0 b1 f0 f1 j0 j1 dr l lag) lv n i → (c = true ↔ F ∨ (z < i + 1 ∧ Reach (hiA b0 b1 f0 f1 j0 j1 dr l lag) (loA b0 b1 f0 f1 j0 j1 dr l lag) lv n z)))) := by
      intro F z c hc
      refine ⟨fun hR => ?_, fun hR => ?_⟩
      · rw [Bool.or_eq_true, hc, beq_iff_eq]
        constructor
        · rintro ((h | ⟨h, h'⟩) | h)
          · exact .inl h
          · exact .inr ⟨by omega, h'⟩
          · exact .inr ⟨by omega, h ▸ hR⟩
        · rintro (h | ⟨h, h'⟩)
          · exact .inl (.inl h)
          · by_cases e : i = z
            · exact .inr e
            · exact .inl (.inr ⟨by omega, h'⟩)
      · rw [hc]
        constructor
        · rintro (h | ⟨h, h'⟩)
          · exact .inl h
          · exact .inr ⟨by omega, h'⟩
        · rintro (h | ⟨h, h'⟩)
          · exact .inl h
          · by_cases e : z = i
            · rw [e] at h'; exact absurd h' hR
            · exact .inr ⟨by omega, h'⟩
    have hm1 := hmore E0 u early h2
    have hm2 := hmore L0 v late h3
    by_cases hR : Reach (hiA b0 b1 f0 f1 j0 j1 dr l lag) (loA b0 b1 f0 f1 j0 j1 dr l lag) lv n i
    · obtain ⟨p, q⟩ := hreach.2 hR
      have hkn := (hs.all lag i x0 x1 hR).1
      obtain ⟨E, L, S, e1, e2, e3, e4⟩ := ih k (i + 1) (early || (i == u)) (late || (i == v)) (decide (rd tl i ≥ lv)) (by omega) (by omega) (hsure _ (by rw [decide_eq_true_iff, hlo i h0 (by omega), q]; simp)) (hm1.1 hR) (hm2.1 hR)
      refine ⟨E, L, S, e1, e2, e3, ?_⟩
      subst q
      have el : i < (tl.length : Int) := by omega
      rw [← e4, if_pos p, cottonpadlaw04_BurnEnds.j6, if_pos (by simp), ew]
      cases early <;> cases late <;> simp only [Bool.false_eq_true, if_false, if_true, Bool.false_or, Bool.true_or, if_neg hkn, if_pos h0, if_pos el]
    · have hflag : (cottonpadlaw04_BurnEnds.j6 (k + (2 * r + 1) + 1) l lv true n a b kn least most early late always lag tl th sure i n i false b0 b1 f0 f1 j0 j1 g0 g1 dr s0 s1 u v) =
          cottonpadlaw04_BurnEnds.l2 (k + (2 * r + 1)) l lv true n a b kn least most early late always lag tl th (sure || decide (rd tl i ≥ lv)) n (i + 1) b0 b1 f0 f1 j0 j1 g0 g1 dr s0 s1 u v := by
        have el : i < (tl.length : Int) := by omega
        rw [cottonpadlaw04_BurnEnds.j6, if_neg (by simp), ew]
        cases sure <;> simp only [Bool.false_eq_true, if_false, if_true, Bool.false_or, Bool.true_or, if_pos h0, if_pos el]
      obtain ⟨E, L, S, e1, e2, e3, e4⟩ := ih k (i + 1) early late (sure || decide (rd tl i ≥ lv)) (by omega) (by omega) (hsure _ (by rw [Bool.or_eq_true, decide_eq_true_iff, hlo i h0 (by omega)])) (hm1.2 hR) (hm2.2 hR)
      refine ⟨E, L, S, e1, e2, e3, ?_⟩
      rw [← e4, ← hflag]
      by_cases p : hiA b0 b1 f0 f1 j0 j1 dr l lag i ≥ lv
      · rw [if_pos p]
        cases hsu : sure with
        | false => exact absurd (hreach.1 ⟨p, hsu⟩) hR
        | true => rfl
      · rw [if_neg p]
def needG (C : Nat) : Nat → Nat
  | 0 => 600
  | e + 1 => needG C e + C
omit hH hl in
theorem needG_eq (C : Nat) : ∀ e, needG C e = 600 + e * C
  | 0 => by simp [needG]
  | e + 1 => by
    simp only [needG, needG_eq C e, Nat.add_mul]
    omega
theorem ends_lags (lv n a b kn : Int) (s0 s1 u v : Int) (hn : n = max 0 ((l.length : Int) - g1)) (a0 : 0 ≤ a) (ab : a ≤ b) (bn : b ≤ n)
    (hS : SumSpec (fun x => sumH false b0 b1 f0 f1 j0 j1 dr l a x (b - a).toNat) (fun x => sumH true b0 b1 f0 f1 j0 j1 dr l a x (b - a).toNat) g0 g1 (s0, s1))
    (hs : FirstSpec (hiA b0 b1 f0 f1 j0 j1 dr l) (loA b0 b1 f0 f1 j0 j1 dr l) lv n g0 g1 u v kn) (e : Nat) :
    ∀ (k : Nat) (x : Int) (least most early late always : Bool), x + e = g1 + 1 → g0 ≤ x →
      (least = true ↔ ∃ y, g0 ≤ y ∧ y < x ∧ s0 = sumH false b0 b1 f0 f1 j0 j1 dr l a y (b - a).toNat) → (most = true ↔ ∃ y, g0 ≤ y ∧ y < x ∧ s1 = sumH true b0 b1 f0 f1 j0 j1 dr l a y (b - a).toNat) →
      (early = true ↔ kn = 0 ∨ ∃ y, g0 ≤ y ∧ y < x ∧ Reach (hiA b0 b1 f0 f1 j0 j1 dr l y) (loA b0 b1 f0 f1 j0 j1 dr l y) lv n u) →
      (late = true ↔ kn = 0 ∨ ∃ y, g0 ≤ y ∧ y < x ∧ Reach (hiA b0 b1 f0 f1 j0 j1 dr l y) (loA b0 b1 f0 f1 j0 j1 dr l y) lv n v) →
      (always = true ↔ ∀ y, g0 ≤ y → y < x → ∃ j, 0 ≤ j ∧ j < n ∧ lv ≤ loA b0 b1 f0 f1 j0 j1 dr l y j) →
      needG ((b - a).toNat + 2 * n.toNat + 5) e ≤ k →
      cottonpadlaw04_BurnEnds.l0 k l lv true n a b kn least most early late always x b0 b1 f0 f1 j0 j1 g0 g1 dr s0 s1 u v = some true := by
  have hl0 := hl.1
  have kg : 0 ≤ g0 ∧ g0 ≤ g1 ∧ g1 ≤ 30 := hH.2.2.2.1
  induction e with
  | zero =>
    intro k x least most early late always hx h0 h1 h2 h3 h4 h5 hk
    obtain ⟨k, rfl⟩ : ∃ m, k = m + 1 := ⟨k - 1, by simp only [needG] at hk; omega⟩
    have ex : x = g1 + 1 := by omega
    have a1 : least = true := h1.2 (by obtain ⟨y, y0, y1, hy⟩ := hS.lowAt; exact ⟨y, y0, by omega, hy⟩)
    have a2 : most = true := h2.2 (by obtain ⟨y, y0, y1, hy⟩ := hS.highAt; exact ⟨y, y0, by omega, hy⟩)
    have a3 : early = true := h3.2 (by
      by_cases e : kn = 0
      · exact .inl e
      · obtain ⟨y, y0, y1, hy⟩ := hs.first e
        exact .inr ⟨y, y0, by omega, hy⟩)
    have a4 : late = true := h4.2 (by
      by_cases e : kn = 0
      · exact .inl e
      · obtain ⟨y, y0, y1, hy⟩ := hs.last e
        exact .inr ⟨y, y0, by omega, hy⟩)
    have a5 : ((kn == 2) == always) = true := by
      rw [beq_iff_eq, Bool.eq_iff_iff, beq_iff_eq, h5, hs.sure]
      exact ⟨fun h y y0 y1 => h y y0 (by omega), fun h y y0 y1 => h y y0 (by omega)⟩
    rw [cottonpadlaw04_BurnEnds.l0, if_neg (by omega), if_pos rfl, if_pos a1, if_pos a2, if_pos a3, if_pos a4, if_pos a5]
    by_cases e : kn = 0
    · obtain ⟨p, q, -⟩ := hs.no e
      rw [if_pos e, p, q]
      rfl
    · rw [if_neg e]
  | succ e ih =>
    intro k x least most early late always hx h0 h1 h2 h3 h4 h5 hk
    simp only [needG] at hk
    have hng : 600 ≤ needG ((b - a).toNat + 2 * n.toNat + 5) e := by rw [needG_eq]; omega
    obtain ⟨k, rfl⟩ : ∃ m, k = (m + (2 * n.toNat + 1) + 1 + 1 + ((b - a).toNat + 1)) + 1 := ⟨k - ((2 * n.toNat + 1) + 1 + 1 + ((b - a).toNat + 1)) - 1, by omega⟩
    obtain ⟨tl, t1, t2, t3⟩ := ends_ok hH hl (k + (2 * n.toNat + 1) + 1 + 1 + ((b - a).toNat + 1)) (by omega) x h0 (by omega) false
    obtain ⟨th, t4, t5, t6⟩ := ends_ok hH hl (k + (2 * n.toNat + 1) + 1 + 1 + ((b - a).toNat + 1)) (by omega) x h0 (by omega) true
    simp only [Bool.false_eq_true, if_false, if_true] at t3 t6
    rw [cottonpadlaw04_BurnEnds.l0, if_pos (by omega), t1, Option.bind_some, t4, Option.bind_some]
    rw [ends_sum hH hl lv n a b kn x least most early late always tl th s0 s1 u v h0 (by omega) t2 t5 t3 t6 a0 (by omega) (b - a).toNat _ a 0 0 (Int.le_refl _) (by omega) (by simp [sumH]) (by simp [sumH]) (Int.le_refl _) (by omega) (Int.le_refl _) (by omega)]
    have p1 := hS.low x h0 (by omega)
    have p2 := hS.high x h0 (by omega)
    simp only at p1 p2
    rw [cottonpadlaw04_BurnEnds.j3, if_neg (by omega), decide_eq_false (by omega), cottonpadlaw04_BurnEnds.j4, if_neg (by simp)]
    rw [← hn] at t2 t5 t3 t6
    obtain ⟨E, L, S, e1, e2, e3, e4⟩ := ends_first hH hl lv n a b kn x (least || (sumH false b0 b1 f0 f1 j0 j1 dr l a x (b - a).toNat == s0)) (most || (sumH true b0 b1 f0 f1 j0 j1 dr l a x (b - a).toNat == s1)) always tl th s0 s1 u v h0 (by omega) hn hs t2 t5 t3 t6 (early = true) (late = true) n.toNat k 0 early late false (Int.le_refl _) (by omega)
      ⟨fun h => by simp at h, fun ⟨j, j0, j1, _⟩ => by omega⟩ ⟨fun h => .inl h, fun h => h.elim id fun ⟨h, h'⟩ => by have := h'.1; omega⟩ ⟨fun h => .inl h, fun h => h.elim id fun ⟨h, h'⟩ => by have := h'.1; omega⟩
    rw [e4, w64 (by omega) (by omega)]
    have hex : ∀ (F : Int → Prop), (∃ y, g0 ≤ y ∧ y < x + 1 ∧ F y) ↔ (∃ y, g0 ≤ y ∧ y < x ∧ F y) ∨ F x := by
      intro F
      constructor
      · rintro ⟨y, y0, y1, hy⟩
        by_cases e : y = x
        · rw [e] at hy; exact .inr hy
        · exact .inl ⟨y, y0, by omega, hy⟩
      · rintro (⟨y, y0, y1, hy⟩ | h)
        · exact ⟨y, y0, by omega, hy⟩
        · exact ⟨x, h0, by omega, h⟩
    refine ih k (x + 1) _ _ E L (always && S) (by omega) (by omega) ?_ ?_ ?_ ?_ ?_ (by omega)
    · rw [Bool.or_eq_true, h1, hex, beq_iff_eq]
      exact or_congr Iff.rfl eq_comm
    · rw [Bool.or_eq_true, h2, hex, beq_iff_eq]
      exact or_congr Iff.rfl eq_comm
    · rw [e2, h3, hex, or_assoc]
    · rw [e3, h4, hex, or_assoc]
    · rw [Bool.and_eq_true, h5, e1]
      constructor
      · rintro ⟨p, q⟩ y y0 y1
        by_cases e : y = x
        · rw [e]; exact q
        · exact p y y0 (by omega)
      · intro h
        exact ⟨fun y y0 y1 => h y y0 (by omega), h x h0 (by omega)⟩
end told
theorem pureEnds' (k : Nat) (hk : 20000 < k) (hal : cottonpadlaw04_alive.f k = some true) (b0 b1 f0 f1 j0 j1 g0 g1 dr : Int) (l : List Int) (fr to_ lv : Int) (w3 : (Lit.int .u8 fr).wf = true) (w4 : (Lit.int .u8 to_).wf = true) :
    cottonpadlaw04_BurnEnds.f k b0 b1 f0 f1 j0 j1 g0 g1 dr l fr to_ lv = some true := by
  have h3 := u8_ok w3
  have h4 := u8_ok w4
  unfold cottonpadlaw04_BurnEnds.f
  rw [hal, Option.bind_some, ready_eq _ _ _ _ _ _ _ _ _ _ _ (by omega), Option.bind_some]
  obtain ⟨k, rfl⟩ : ∃ m, k = m + 1 := ⟨k - 1, by omega⟩
  by_cases h : HoodOK b0 b1 f0 f1 j0 j1 g0 g1 dr ∧ ReadsOK l
  · rw [if_pos (decide_eq_true h)]
    obtain ⟨hH, hl⟩ := h
    have hl0 := hl.1
    have kg : 0 ≤ g0 ∧ g0 ≤ g1 ∧ g1 ≤ 30 := hH.2.2.2.1
    have hN : cottonpadref04_Seconds.f b0 b1 f0 f1 j0 j1 g0 g1 dr l = some (max 0 ((l.length : Int) - g1)) := by
      unfold cottonpadref04_Seconds.f
      rw [w64 (by omega) (by omega), mx_eq]
    rw [cottonpadlaw04_BurnEnds.j0, if_neg (by simp), hN, Option.bind_some]
    rw [w64 (n := fr) (by omega) (by omega), w64 (n := to_) (by omega) (by omega), w64 (n := max 0 ((l.length : Int) - g1) + 1) (by omega) (by omega), if_neg (by omega), mn_eq, mx_eq, mx_eq, Int.tmod_eq_emod_of_nonneg h3.1, Int.tmod_eq_emod_of_nonneg h4.1]
    have p0 := Int.emod_nonneg fr (show max 0 ((l.length : Int) - g1) + 1 ≠ 0 by omega)
    have p1 := Int.emod_lt_of_pos fr (show 0 < max 0 ((l.length : Int) - g1) + 1 by omega)
    have q0 := Int.emod_nonneg to_ (show max 0 ((l.length : Int) - g1) + 1 ≠ 0 by omega)
    have q1 := Int.emod_lt_of_pos to_ (show 0 < max 0 ((l.length : Int) - g1) + 1 by omega)
    generalize fr % (max 0 ((l.length : Int) - g1) + 1) = u at *
    generalize to_ % (max 0 ((l.length : Int) - g1) + 1) = v at *
    have ab : min u v ≤ max u v := by omega
    have a0 : 0 ≤ min u v := by omega
    have bn : max u v ≤ max 0 ((l.length : Int) - g1) := by omega
    generalize min u v = a at *
    generalize max u v = b at *
    obtain ⟨p, q, n, e, hs⟩ := First_ok hH hl k (max lv 1) (by omega) (by omega)
    rw [Sum_ok hH hl k a b (by omega) a0 ab bn, Option.bind_some, if_pos rfl, e, Option.bind_some, if_pos rfl]
    refine ends_lags hH hl (max lv 1) _ a b n _ _ p q rfl a0 ab bn (sumS_spec b0 b1 f0 f1 j0 j1 g0 g1 dr l a b kg.2.1) hs (g1 + 1 - g0).toNat k g0 false false (n == 0) (n == 0) true (by omega) (Int.le_refl _) ?_ ?_ ?_ ?_ ?_ ?_
    · exact ⟨fun h => by simp at h, fun ⟨y, y0, y1, _⟩ => by omega⟩
    · exact ⟨fun h => by simp at h, fun ⟨y, y0, y1, _⟩ => by omega⟩
    · rw [beq_iff_eq]
      exact ⟨fun h => .inl h, fun h => h.elim id fun ⟨y, y0, y1, _⟩ => by omega⟩
    · rw [beq_iff_eq]
      exact ⟨fun h => .inl h, fun h => h.elim id fun ⟨y, y0, y1, _⟩ => by omega⟩
    · exact ⟨fun _ y y0 y1 => by omega, fun _ => rfl⟩
    · rw [needG_eq]
      have : (g1 + 1 - g0).toNat * ((b - a).toNat + 2 * (max 0 ((l.length : Int) - g1)).toNat + 5) ≤ 31 * 365 := Nat.mul_le_mul (by omega) (by omega)
      omega
  · rw [if_neg (by simpa using h), cottonpadlaw04_BurnEnds.j0, if_pos rfl]
/-- The one plain statement of BurnEnds. -/
theorem pureEnds (b0 b1 f0 f1 j0 j1 g0 g1 dr : Int) (l : List Int) (fr to_ lv : Int) (w3 : (Lit.int .u8 fr).wf = true) (w4 : (Lit.int .u8 to_).wf = true) :
    ∃ k, cottonpadlaw04_BurnEnds.f k b0 b1 f0 f1 j0 j1 g0 g1 dr l fr to_ lv = some true :=
  ⟨1000 + 20000, pureEnds' (1000 + 20000) (by omega) (alive_more 20000) b0 b1 f0 f1 j0 j1 g0 g1 dr l fr to_ lv w3 w4⟩
end Go.Proofs.YtfgclmbndgakgaaDoor.Pure
