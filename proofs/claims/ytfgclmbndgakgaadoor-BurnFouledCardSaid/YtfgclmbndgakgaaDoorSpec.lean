/- What burn.Sum and burn.First tell, said by what is the least and the greatest over all lags: plain law. -/
import Derived.Test.YtfgclmbndgakgaaDoorFirst
namespace Go.Proofs.YtfgclmbndgakgaaDoor
open Go.RowKit Go.Proofs.YtfgclmbndgakgaaDoorW.PrintWords Go.Proofs.YtfgclmbndgakgaaDoorW.PrintMore
set_option linter.unusedVariables false
set_option linter.unusedSimpArgs false

theorem mem_upFrom (a : Int) (n : Nat) (x : Int) : x ∈ upFrom a n ↔ a ≤ x ∧ x < a + n := by
  unfold upFrom
  simp only [List.mem_map, List.mem_range]
  constructor
  · rintro ⟨k, hk, rfl⟩
    omega
  · intro h
    exact ⟨(x - a).toNat, by omega, by omega⟩

/-! ### sums over all lags -/
structure SumSpec (lo hi : Int → Int) (g0 g1 : Int) (p : Int × Int) : Prop where
  low : ∀ x, g0 ≤ x → x ≤ g1 → p.1 ≤ lo x
  high : ∀ x, g0 ≤ x → x ≤ g1 → hi x ≤ p.2
  lowAt : ∃ x, g0 ≤ x ∧ x ≤ g1 ∧ p.1 = lo x
  highAt : ∃ x, g0 ≤ x ∧ x ≤ g1 ∧ p.2 = hi x
theorem SumSpec.same {lo hi : Int → Int} {g0 g1 : Int} {p q : Int × Int} (h : SumSpec lo hi g0 g1 p) (h' : SumSpec lo hi g0 g1 q) : p = q := by
  obtain ⟨x, x0, x1, hx⟩ := h.lowAt
  obtain ⟨y, y0, y1, hy⟩ := h.highAt
  obtain ⟨x', x0', x1', hx'⟩ := h'.lowAt
  obtain ⟨y', y0', y1', hy'⟩ := h'.highAt
  have a1 := h.low x' x0' x1'
  have a2 := h'.low x x0 x1
  have a3 := h.high y' y0' y1'
  have a4 := h'.high y y0 y1
  ext <;> omega
theorem hull_le (a b : Int × Int) : (hull a b).1 ≤ a.1 ∧ (hull a b).1 ≤ b.1 ∧ a.2 ≤ (hull a b).2 ∧ b.2 ≤ (hull a b).2 ∧ ((hull a b).1 = a.1 ∨ (hull a b).1 = b.1) ∧ ((hull a b).2 = a.2 ∨ (hull a b).2 = b.2) := by
  unfold hull mn mx
  simp only
  repeat' split
  all_goals omega
theorem fold_spec (f : Int → Int × Int) : ∀ (xs : List Int) (s : Int × Int), ((xs.map f).foldl hull s).1 ≤ s.1 ∧ s.2 ≤ ((xs.map f).foldl hull s).2 ∧
    (∀ x ∈ xs, ((xs.map f).foldl hull s).1 ≤ (f x).1 ∧ (f x).2 ≤ ((xs.map f).foldl hull s).2) ∧
    (((xs.map f).foldl hull s).1 = s.1 ∨ ∃ x ∈ xs, ((xs.map f).foldl hull s).1 = (f x).1) ∧ (((xs.map f).foldl hull s).2 = s.2 ∨ ∃ x ∈ xs, ((xs.map f).foldl hull s).2 = (f x).2)
  | [], s => by simp
  | x :: xs, s => by
    obtain ⟨h1, h2, h3, h4, h5⟩ := fold_spec f xs (hull s (f x))
    obtain ⟨g1, g2, g3, g4, g5, g6⟩ := hull_le s (f x)
    simp only [List.map_cons, List.foldl_cons]
    refine ⟨by omega, by omega, ?_, ?_, ?_⟩
    · intro y hy
      rcases List.mem_cons.1 hy with rfl | hy
      · exact ⟨by omega, by omega⟩
      · exact h3 y hy
    · rcases h4 with h4 | ⟨y, hy, h4⟩
      · rcases g5 with g5 | g5
        · exact .inl (h4.trans g5)
        · exact .inr ⟨x, List.mem_cons_self, h4.trans g5⟩
      · exact .inr ⟨y, List.mem_cons_of_mem _ hy, h4⟩
    · rcases h5 with h5 | ⟨y, hy, h5⟩
      · rcases g6 with g6 | g6
        · exact .inl (h5.trans g6)
        · exact .inr ⟨x, List.mem_cons_self, h5.trans g6⟩
      · exact .inr ⟨y, List.mem_cons_of_mem _ hy, h5⟩
theorem sumS_spec (b0 b1 f0 f1 j0 j1 g0 g1 dr : Int) (l : List Int) (fr to_ : Int) (hg : g0 ≤ g1) :
    SumSpec (fun x => sumH false b0 b1 f0 f1 j0 j1 dr l fr x (to_ - fr).toNat) (fun x => sumH true b0 b1 f0 f1 j0 j1 dr l fr x (to_ - fr).toNat) g0 g1 (sumS b0 b1 f0 f1 j0 j1 g0 g1 dr l fr to_) := by
  unfold sumS
  obtain ⟨h1, h2, h3, h4, h5⟩ := fold_spec (spanAt b0 b1 f0 f1 j0 j1 dr l fr (to_ - fr).toNat) (upFrom (g0 + 1) (g1 - g0).toNat) (spanAt b0 b1 f0 f1 j0 j1 dr l fr (to_ - fr).toNat g0)
  refine ⟨fun x x0 x1 => ?_, fun x x0 x1 => ?_, ?_, ?_⟩
  · by_cases hx : x = g0
    · rw [hx]; exact h1
    · exact (h3 x ((mem_upFrom _ _ _).2 (by omega))).1
  · by_cases hx : x = g0
    · rw [hx]; exact h2
    · exact (h3 x ((mem_upFrom _ _ _).2 (by omega))).2
  · rcases h4 with h4 | ⟨x, hx, h4⟩
    · exact ⟨g0, Int.le_refl _, hg, h4⟩
    · have := (mem_upFrom _ _ _).1 hx
      exact ⟨x, by omega, by omega, h4⟩
  · rcases h5 with h5 | ⟨x, hx, h5⟩
    · exact ⟨g0, Int.le_refl _, hg, h5⟩
    · have := (mem_upFrom _ _ _).1 hx
      exact ⟨x, by omega, by omega, h5⟩

/-! ### the first second, at one lag -/
/-- a second at which the level may be reached first -/
def Reach (hi lo : Int → Int) (lv d i : Int) : Prop := 0 ≤ i ∧ i < d ∧ lv ≤ hi i ∧ ∀ j, 0 ≤ j → j < i → lo j < lv
def OptSpec (R : Int → Prop) : Option (Int × Int) → Prop
  | none => ∀ i, ¬ R i
  | some p => R p.1 ∧ R p.2 ∧ ∀ i, R i → p.1 ≤ i ∧ i ≤ p.2
theorem OptSpec.same {R : Int → Prop} {o p : Option (Int × Int)} (h : OptSpec R o) (h' : OptSpec R p) : o = p := by
  cases o with
  | none =>
    cases p with
    | none => rfl
    | some p => exact absurd h'.1 (h _)
  | some o =>
    cases p with
    | none => exact absurd h.1 (h' _)
    | some p =>
      have a1 := h.2.2 _ h'.1
      have a2 := h.2.2 _ h'.2.1
      have a3 := h'.2.2 _ h.1
      have a4 := h'.2.2 _ h.2.1
      congr 1
      ext <;> omega
theorem OptSpec.iff {R R' : Int → Prop} {o : Option (Int × Int)} (h : OptSpec R o) (e : ∀ i, R i ↔ R' i) : OptSpec R' o := by
  have : R = R' := funext fun i => propext (e i)
  exact this ▸ h
def oneF (hi lo : Int → Int) (lv : Int) : Nat → Option (Int × Int) × Bool
  | 0 => (none, false)
  | k + 1 =>
    let r := oneF hi lo lv k
    if r.2 then r else if hi k < lv then r else (some (hullAt r.1 k), decide (lv ≤ lo k))
theorem oneF_spec (hi lo : Int → Int) (lv : Int) (hlo : ∀ j, lo j ≤ hi j) : ∀ k : Nat, OptSpec (Reach hi lo lv k) (oneF hi lo lv k).1 ∧ ((oneF hi lo lv k).2 = true ↔ ∃ j, 0 ≤ j ∧ j < (k : Int) ∧ lv ≤ lo j)
  | 0 => by
    refine ⟨fun i h => ?_, ?_⟩
    · have := h.1; have := h.2.1; omega
    · simp [oneF]; omega
  | k + 1 => by
    obtain ⟨h1, h2⟩ := oneF_spec hi lo lv hlo k
    simp only [oneF]
    by_cases hs : (oneF hi lo lv k).2 = true
    · rw [if_pos hs]
      obtain ⟨j, j0, j1, j2⟩ := h2.1 hs
      refine ⟨h1.iff fun i => ⟨fun h => ⟨h.1, by have := h.2.1; omega, h.2.2⟩, fun h => ⟨h.1, ?_, h.2.2⟩⟩, fun _ => ⟨j, j0, by omega, j2⟩, fun _ => hs⟩
      have := h.2.1
      by_cases e : i < k
      · exact e
      · have := h.2.2.2 j j0 (by omega)
        omega
    · rw [if_neg hs]
      have hno : ∀ j, 0 ≤ j → j < (k : Int) → lo j < lv := by
        intro j j0 j1
        by_cases e : lo j < lv
        · exact e
        · exact absurd (h2.2 ⟨j, j0, j1, by omega⟩) hs
      by_cases hh : hi k < lv
      · rw [if_pos hh]
        refine ⟨h1.iff fun i => ⟨fun h => ⟨h.1, by have := h.2.1; omega, h.2.2⟩, fun h => ⟨h.1, ?_, h.2.2⟩⟩, ?_⟩
        · have := h.2.1
          have := h.2.2.1
          by_cases e : i = k
          · rw [e] at this; omega
          · omega
        · rw [h2]
          constructor
          · rintro ⟨j, j0, j1, j2⟩
            exact ⟨j, j0, by omega, j2⟩
          · rintro ⟨j, j0, j1, j2⟩
            refine ⟨j, j0, ?_, j2⟩
            by_cases e : j = k
            · have := hlo k; rw [e] at j2; omega
            · omega
      · rw [if_neg hh]
        have hk : Reach hi lo lv ((k + 1 : Nat) : Int) k := ⟨by omega, by omega, by omega, hno⟩
        have hup : ∀ i, Reach hi lo lv k i → Reach hi lo lv ((k + 1 : Nat) : Int) i := fun i h => ⟨h.1, by have := h.2.1; omega, h.2.2⟩
        have hdn : ∀ i, Reach hi lo lv ((k + 1 : Nat) : Int) i → i = k ∨ Reach hi lo lv k i := by
          intro i h
          have := h.2.1
          by_cases e : i = k
          · exact .inl e
          · exact .inr ⟨h.1, by omega, h.2.2⟩
        refine ⟨?_, ?_⟩
        · cases ho : (oneF hi lo lv k).1 with
          | none =>
            rw [ho] at h1
            refine ⟨hk, hk, fun i h => ?_⟩
            rcases hdn i h with rfl | h
            · exact ⟨Int.le_refl _, Int.le_refl _⟩
            · exact absurd h (h1 i)
          | some p =>
            rw [ho] at h1
            obtain ⟨p1, p2, p3⟩ := h1
            have hp1 := p1.2.1
            have hp2 := p2.2.1
            obtain ⟨q1, q2, q3, q4, q5, q6⟩ := hull_le p (k, k)
            simp only at q1 q2 q3 q4 q5 q6
            show OptSpec _ (some (hull p (k, k)))
            refine ⟨?_, ?_, fun i h => ?_⟩
            · rcases q5 with q5 | q5
              · rw [q5]; exact hup _ p1
              · rw [q5]; exact hk
            · rcases q6 with q6 | q6
              · rw [q6]; exact hup _ p2
              · rw [q6]; exact hk
            · rcases hdn i h with rfl | h
              · exact ⟨q2, q4⟩
              · have := p3 i h; omega
        · simp only [decide_eq_true_eq]
          constructor
          · intro h
            exact ⟨k, by omega, by omega, h⟩
          · rintro ⟨j, j0, j1, j2⟩
            by_cases e : j = k
            · rw [← e]; exact j2
            · have := hno j j0 (by omega)
              omega

/-! ### over all lags -/
theorem imSet_new {β : Type} (x : Int) (v : β) : ∀ m : List (Int × β), imGet x m = none → imSet x v m = m ++ [(x, v)]
  | [], _ => rfl
  | p :: r, h => by
    unfold imGet at h
    split at h
    · simp at h
    · rename_i hp
      simp only [imSet, hp, ↓reduceIte, imSet_new x v r h, List.cons_append]
theorem imSet_twice {β : Type} (x : Int) (v v' : β) : ∀ m : List (Int × β), imSet x v' (imSet x v m) = imSet x v' m
  | [] => by simp [imSet]
  | p :: r => by
    by_cases hp : p.1 = x
    · simp [imSet, hp]
    · simp [imSet, hp, imSet_twice x v v' r]
theorem imGet_same {β : Type} (x : Int) (v : β) : ∀ m : List (Int × β), imGet x (imSet x v m) = some v
  | [] => by simp [imGet, imSet]
  | p :: r => by
    by_cases hp : p.1 = x
    · simp [imGet, imSet, hp]
    · simp [imGet, imSet, hp, imGet_same x v r]
theorem imGet_other {β : Type} (x y : Int) (hxy : y ≠ x) (v : β) : ∀ m : List (Int × β), imGet y (imSet x v m) = imGet y m
  | [] => by simp [imGet, imSet]; omega
  | p :: r => by
    by_cases hp : p.1 = x
    · simp [imGet, imSet, hp]
      rw [if_neg (by omega), if_neg (by omega)]
    · simp [imGet, imSet, hp, imGet_other x y hxy v r]
def putO (x : Int) (m : List (Int × (Int × Int))) : Option (Int × Int) → List (Int × (Int × Int))
  | none => m
  | some s => imSet x s m
theorem scanF_one (hi lo : Int → Int) (lv x : Int) (m : List (Int × (Int × Int))) (hx : imGet x m = none) : ∀ k : Nat, scanF hi lo lv x m k = (putO x m (oneF hi lo lv k).1, (oneF hi lo lv k).2)
  | 0 => rfl
  | k + 1 => by
    have ih := scanF_one hi lo lv x m hx k
    simp only [scanF, oneF, ih]
    by_cases hs : (oneF hi lo lv k).2 = true
    · simp only [if_pos hs]
    · simp only [if_neg hs]
      by_cases hh : hi k < lv
      · simp only [if_pos hh]
      · simp only [if_neg hh]
        cases (oneF hi lo lv k).1 with
        | none => simp only [putO, hx, hullAt]
        | some s => simp only [putO, imGet_same, hullAt, imSet_twice]
theorem putO_other (x y : Int) (hxy : y ≠ x) (m : List (Int × (Int × Int))) (o : Option (Int × Int)) : imGet y (putO x m o) = imGet y m := by
  cases o with
  | none => rfl
  | some s => exact imGet_other x y hxy s m
theorem putO_vals (x : Int) (m : List (Int × (Int × Int))) (hx : imGet x m = none) (o : Option (Int × Int)) : (putO x m o).map (·.2) = m.map (·.2) ++ o.toList := by
  cases o with
  | none => simp [putO]
  | some s => simp [putO, imSet_new x s m hx]
section lags
variable (b0 b1 f0 f1 j0 j1 g0 g1 dr : Int) (l : List Int) (lv sc : Int)
/-- the greatest, and the least heat of a second, at a lag -/
def hiA (x i : Int) : Int := heatF true b0 b1 f0 f1 j0 j1 dr (rd l (i + x))
def loA (x i : Int) : Int := heatF false b0 b1 f0 f1 j0 j1 dr (rd l (i + x))
def oneA (x : Int) : Option (Int × Int) × Bool := oneF (hiA b0 b1 f0 f1 j0 j1 dr l x) (loA b0 b1 f0 f1 j0 j1 dr l x) lv sc.toNat
theorem lagF_one (st : List (Int × (Int × Int)) × Int) (x : Int) (hx : imGet x st.1 = none) :
    lagF b0 b1 f0 f1 j0 j1 g0 g1 dr l lv sc st x = (putO x st.1 (oneA b0 b1 f0 f1 j0 j1 dr l lv sc x).1, if (oneA b0 b1 f0 f1 j0 j1 dr l lv sc x).2 then st.2 + 1 else st.2) := by
  unfold lagF
  simp only
  rw [scanF_one _ _ lv x st.1 hx sc.toNat]
  rfl
theorem lags_fold : ∀ (xs : List Int) (st : List (Int × (Int × Int)) × Int), xs.Nodup → (∀ x ∈ xs, imGet x st.1 = none) →
    ((xs.foldl (lagF b0 b1 f0 f1 j0 j1 g0 g1 dr l lv sc) st).1.map (·.2) = st.1.map (·.2) ++ xs.filterMap fun x => (oneA b0 b1 f0 f1 j0 j1 dr l lv sc x).1) ∧
    ((xs.foldl (lagF b0 b1 f0 f1 j0 j1 g0 g1 dr l lv sc) st).2 = st.2 + (xs.countP fun x => (oneA b0 b1 f0 f1 j0 j1 dr l lv sc x).2 : Nat))
  | [], st, _, _ => by simp
  | x :: xs, st, hn, hx => by
    have hn' := List.nodup_cons.1 hn
    have hx0 := hx x List.mem_cons_self
    have ih := lags_fold xs (lagF b0 b1 f0 f1 j0 j1 g0 g1 dr l lv sc st x) hn'.2 (fun y hy => by
      rw [lagF_one b0 b1 f0 f1 j0 j1 g0 g1 dr l lv sc st x hx0]
      rw [putO_other x y (fun e => hn'.1 (e ▸ hy))]
      exact hx y (List.mem_cons_of_mem _ hy))
    simp only [List.foldl_cons]
    rw [ih.1, ih.2, lagF_one b0 b1 f0 f1 j0 j1 g0 g1 dr l lv sc st x hx0]
    constructor
    · simp only [putO_vals x st.1 hx0, List.filterMap_cons, List.append_assoc]
      cases (oneA b0 b1 f0 f1 j0 j1 dr l lv sc x).1 <;> simp
    · simp only [List.countP_cons]
      cases (oneA b0 b1 f0 f1 j0 j1 dr l lv sc x).2 <;> simp <;> omega
end lags
theorem hullL_spec (f : Int → Option (Int × Int)) (R : Int → Int → Prop) : ∀ xs : List Int, (∀ x ∈ xs, OptSpec (R x) (f x)) → OptSpec (fun i => ∃ x ∈ xs, R x i) (hullL (xs.filterMap f))
  | [], _ => by
    intro i h
    simp at h
  | x :: xs, h => by
    have ih := hullL_spec f R xs (fun y hy => h y (List.mem_cons_of_mem _ hy))
    have hx := h x List.mem_cons_self
    simp only [List.filterMap_cons]
    cases hf : f x with
    | none =>
      rw [hf] at hx
      refine ih.iff fun i => ⟨fun ⟨y, hy, r⟩ => ⟨y, List.mem_cons_of_mem _ hy, r⟩, fun ⟨y, hy, r⟩ => ?_⟩
      rcases List.mem_cons.1 hy with rfl | hy
      · exact absurd r (hx i)
      · exact ⟨y, hy, r⟩
    | some p =>
      rw [hf] at hx
      obtain ⟨p1, p2, p3⟩ := hx
      show OptSpec _ (hullO p (hullL (xs.filterMap f)))
      cases hq : hullL (xs.filterMap f) with
      | none =>
        rw [hq] at ih
        refine ⟨⟨x, List.mem_cons_self, p1⟩, ⟨x, List.mem_cons_self, p2⟩, fun i ⟨y, hy, r⟩ => ?_⟩
        rcases List.mem_cons.1 hy with rfl | hy
        · exact p3 i r
        · exact absurd ⟨y, hy, r⟩ (ih i)
      | some q =>
        rw [hq] at ih
        obtain ⟨⟨y1, hy1, q1⟩, ⟨y2, hy2, q2⟩, q3⟩ := ih
        obtain ⟨e1, e2, e3, e4, e5, e6⟩ := hull_le p q
        refine ⟨?_, ?_, fun i ⟨y, hy, r⟩ => ?_⟩
        · rcases e5 with e | e
          · show ∃ z ∈ x :: xs, R z (hull p q).1
            rw [e]; exact ⟨x, List.mem_cons_self, p1⟩
          · show ∃ z ∈ x :: xs, R z (hull p q).1
            rw [e]; exact ⟨y1, List.mem_cons_of_mem _ hy1, q1⟩
        · rcases e6 with e | e
          · show ∃ z ∈ x :: xs, R z (hull p q).2
            rw [e]; exact ⟨x, List.mem_cons_self, p2⟩
          · show ∃ z ∈ x :: xs, R z (hull p q).2
            rw [e]; exact ⟨y2, List.mem_cons_of_mem _ hy2, q2⟩
        · rcases List.mem_cons.1 hy with rfl | hy
          · have := p3 i r; omega
          · have := q3 i ⟨y, hy, r⟩; omega
theorem upFrom_nodup (a : Int) (n : Nat) : (upFrom a n).Nodup := by
  unfold upFrom
  rw [List.nodup_iff_pairwise_ne, List.pairwise_map]
  exact List.nodup_range.imp (fun h e => h (by omega))
/-- what First tells -/
structure FirstSpec (hi lo : Int → Int → Int) (lv sc g0 g1 a b n : Int) : Prop where
  known : n = 0 ∨ n = 1 ∨ n = 2
  no : n = 0 → a = 0 ∧ b = 0 ∧ ∀ x i, g0 ≤ x → x ≤ g1 → ¬ Reach (hi x) (lo x) lv sc i
  first : n ≠ 0 → ∃ x, g0 ≤ x ∧ x ≤ g1 ∧ Reach (hi x) (lo x) lv sc a
  last : n ≠ 0 → ∃ x, g0 ≤ x ∧ x ≤ g1 ∧ Reach (hi x) (lo x) lv sc b
  all : ∀ x i, g0 ≤ x → x ≤ g1 → Reach (hi x) (lo x) lv sc i → n ≠ 0 ∧ a ≤ i ∧ i ≤ b
  sure : n = 2 ↔ ∀ x, g0 ≤ x → x ≤ g1 → ∃ j, 0 ≤ j ∧ j < sc ∧ lv ≤ lo x j
theorem FirstSpec.same {hi lo : Int → Int → Int} {lv sc g0 g1 a b n a' b' n' : Int} (h : FirstSpec hi lo lv sc g0 g1 a b n) (h' : FirstSpec hi lo lv sc g0 g1 a' b' n') : a = a' ∧ b = b' ∧ n = n' := by
  have k := h.known
  have k' := h'.known
  have s : n = 2 ↔ n' = 2 := h.sure.trans h'.sure.symm
  by_cases e : n = 0
  · obtain ⟨rfl, rfl, hh⟩ := h.no e
    by_cases e' : n' = 0
    · obtain ⟨rfl, rfl, _⟩ := h'.no e'
      exact ⟨rfl, rfl, by omega⟩
    · obtain ⟨x, x0, x1, r⟩ := h'.first e'
      exact absurd r (hh x _ x0 x1)
  · by_cases e' : n' = 0
    · obtain ⟨_, _, hh⟩ := h'.no e'
      obtain ⟨x, x0, x1, r⟩ := h.first e
      exact absurd r (hh x _ x0 x1)
    · obtain ⟨x, x0, x1, r⟩ := h.first e
      obtain ⟨y, y0, y1, q⟩ := h.last e
      obtain ⟨x', x0', x1', r'⟩ := h'.first e'
      obtain ⟨y', y0', y1', q'⟩ := h'.last e'
      have a1 := h.all _ _ x0' x1' r'
      have a2 := h.all _ _ y0' y1' q'
      have a3 := h'.all _ _ x0 x1 r
      have a4 := h'.all _ _ y0 y1 q
      omega
theorem heat_lo_hi {b0 b1 f0 f1 j0 j1 g0 g1 dr : Int} (hH : HoodOK b0 b1 f0 f1 j0 j1 g0 g1 dr) (y : Int) : 0 ≤ heatF false b0 b1 f0 f1 j0 j1 dr y ∧ heatF false b0 b1 f0 f1 j0 j1 dr y ≤ heatF true b0 b1 f0 f1 j0 j1 dr y := by
  obtain ⟨⟨hb0, hb1, hb2⟩, ⟨hf0, hf1, hf2⟩, ⟨hj0, hj1, hj2⟩, -, hd0, hd1⟩ := hH
  unfold heatF missF sel sgn mx
  simp only [Bool.false_eq_true, if_false, if_true]
  have m0 : 0 ≤ (if 0 < b0 - y - dr then b0 - y - dr else 0) := by split <;> omega
  have m1 : (if 0 < b0 - y - dr then b0 - y - dr else 0) ≤ (if 0 < b1 - y - -dr then b1 - y - -dr else 0) := by (repeat' split) <;> omega
  have p0 : 0 ≤ j0 * f0 := Int.mul_nonneg hj0 hf0
  have p1 : j0 * f0 ≤ j1 * f1 := Int.mul_le_mul hj1 hf1 hf0 (by omega)
  exact ⟨Int.mul_nonneg p0 m0, Int.mul_le_mul p1 m1 m0 (by omega)⟩
theorem secS_eq {b0 b1 f0 f1 j0 j1 g0 g1 dr : Int} (hH : HoodOK b0 b1 f0 f1 j0 j1 g0 g1 dr) {l : List Int} (hl : l.length ≤ 1000) : secS g1 l.length = max 0 ((l.length : Int) - g1) := by
  obtain ⟨-, -, -, ⟨hg0, hg1, hg2⟩, -⟩ := hH
  unfold secS mx wrap64
  split <;> omega
theorem firstG_spec {b0 b1 f0 f1 j0 j1 g0 g1 dr : Int} (hH : HoodOK b0 b1 f0 f1 j0 j1 g0 g1 dr) {l : List Int} (hl : ReadsOK l) (lv : Int) :
    ∃ a b n, firstG b0 b1 f0 f1 j0 j1 g0 g1 dr l lv = some (a, b, n) ∧ FirstSpec (hiA b0 b1 f0 f1 j0 j1 dr l) (loA b0 b1 f0 f1 j0 j1 dr l) lv (max 0 ((l.length : Int) - g1)) g0 g1 a b n := by
  have hg : g0 ≤ g1 := hH.2.2.2.1.2.1
  have hsec : secS g1 l.length = max 0 ((l.length : Int) - g1) := secS_eq hH (by have := hl.1; omega)
  unfold firstG
  rw [if_pos ⟨hH, hl⟩, hsec]
  obtain ⟨e1, e2⟩ := lags_fold b0 b1 f0 f1 j0 j1 g0 g1 dr l lv (max 0 ((l.length : Int) - g1)) (upFrom g0 (g1 - g0 + 1).toNat) ([], 0) (upFrom_nodup _ _) (fun _ _ => rfl)
  change (lagsF b0 b1 f0 f1 j0 j1 g0 g1 dr l lv (max 0 ((l.length : Int) - g1)) (upFrom g0 (g1 - g0 + 1).toNat)).1.map (·.2) = _ at e1
  change (lagsF b0 b1 f0 f1 j0 j1 g0 g1 dr l lv (max 0 ((l.length : Int) - g1)) (upFrom g0 (g1 - g0 + 1).toNat)).2 = _ at e2
  rw [e1, e2]
  simp only [List.map_nil, List.nil_append, Int.zero_add]
  have hone := fun x => oneF_spec (hiA b0 b1 f0 f1 j0 j1 dr l x) (loA b0 b1 f0 f1 j0 j1 dr l x) lv (fun j => (heat_lo_hi hH _).2) (max 0 ((l.length : Int) - g1)).toNat
  rw [show (((max 0 ((l.length : Int) - g1)).toNat : Nat) : Int) = max 0 ((l.length : Int) - g1) from by omega] at hone
  have hsp := hullL_spec (fun x => (oneA b0 b1 f0 f1 j0 j1 dr l lv (max 0 ((l.length : Int) - g1)) x).1) (fun x => Reach (hiA b0 b1 f0 f1 j0 j1 dr l x) (loA b0 b1 f0 f1 j0 j1 dr l x) lv (max 0 ((l.length : Int) - g1))) (upFrom g0 (g1 - g0 + 1).toNat) (fun x _ => (hone x).1)
  have hmem : ∀ x, x ∈ upFrom g0 (g1 - g0 + 1).toNat ↔ g0 ≤ x ∧ x ≤ g1 := fun x => by rw [mem_upFrom]; omega
  have hlen : ((upFrom g0 (g1 - g0 + 1).toNat).length : Int) = g1 - g0 + 1 := by simp [upFrom]; omega
  have hcnt : ((List.countP (fun x => (oneA b0 b1 f0 f1 j0 j1 dr l lv (max 0 ((l.length : Int) - g1)) x).2) (upFrom g0 (g1 - g0 + 1).toNat) : Nat) : Int) = g1 - g0 + 1 ↔ ∀ x, g0 ≤ x → x ≤ g1 → ∃ j, 0 ≤ j ∧ j < max 0 ((l.length : Int) - g1) ∧ lv ≤ loA b0 b1 f0 f1 j0 j1 dr l x j := by
    constructor
    · intro h x x0 x1
      have h2 : List.countP (fun x => (oneA b0 b1 f0 f1 j0 j1 dr l lv (max 0 ((l.length : Int) - g1)) x).2) (upFrom g0 (g1 - g0 + 1).toNat) = (upFrom g0 (g1 - g0 + 1).toNat).length := by omega
      have h' := List.countP_eq_length.1 h2 x ((hmem x).2 ⟨x0, x1⟩)
      exact (hone x).2.1 h'
    · intro h
      have h2 : List.countP (fun x => (oneA b0 b1 f0 f1 j0 j1 dr l lv (max 0 ((l.length : Int) - g1)) x).2) (upFrom g0 (g1 - g0 + 1).toNat) = (upFrom g0 (g1 - g0 + 1).toNat).length := by
        refine List.countP_eq_length.2 fun x hx => ?_
        have := (hmem x).1 hx
        exact (hone x).2.2 (h x this.1 this.2)
      omega
  generalize hE : hullL (List.filterMap (fun x => (oneA b0 b1 f0 f1 j0 j1 dr l lv (max 0 ((l.length : Int) - g1)) x).1) (upFrom g0 (g1 - g0 + 1).toNat)) = E at hsp
  cases E with
  | none =>
    have hno : ∀ x i, g0 ≤ x → x ≤ g1 → ¬ Reach (hiA b0 b1 f0 f1 j0 j1 dr l x) (loA b0 b1 f0 f1 j0 j1 dr l x) lv (max 0 ((l.length : Int) - g1)) i := fun x i x0 x1 r => hsp i ⟨x, (hmem x).2 ⟨x0, x1⟩, r⟩
    refine ⟨0, 0, 0, rfl, .inl rfl, fun _ => ⟨rfl, rfl, hno⟩, fun h => absurd rfl h, fun h => absurd rfl h, fun x i x0 x1 r => absurd r (hno x i x0 x1), ⟨fun h => by omega, fun h => ?_⟩⟩
    -- a second that surely reaches it: the first of those at this lag can be the first
    exfalso
    have hs := (hone g0).2.2 (h g0 (Int.le_refl _) hg)
    have ho := (hone g0).1
    cases hc : (oneF (hiA b0 b1 f0 f1 j0 j1 dr l g0) (loA b0 b1 f0 f1 j0 j1 dr l g0) lv (max 0 ((l.length : Int) - g1)).toNat).1 with
    | some p => rw [hc] at ho; exact hno g0 _ (Int.le_refl _) hg ho.1
    | none =>
      have : ∀ (hi lo : Int → Int) (k : Nat), (oneF hi lo lv k).2 = true → (oneF hi lo lv k).1 ≠ none := by
        intro hi lo k
        induction k with
        | zero => intro h; simp [oneF] at h
        | succ k ih =>
          simp only [oneF]
          split
          · exact ih
          · split
            · exact ih
            · intro _; simp
      exact this _ _ _ hs hc
  | some p =>
    obtain ⟨⟨x, hx, p1⟩, ⟨y, hy, p2⟩, p3⟩ := hsp
    have hx' := (hmem x).1 hx
    have hy' := (hmem y).1 hy
    refine ⟨p.1, p.2, _, rfl, ?_, fun h => ?_, fun _ => ⟨x, hx'.1, hx'.2, p1⟩, fun _ => ⟨y, hy'.1, hy'.2, p2⟩, fun z i z0 z1 r => ⟨?_, p3 i ⟨z, (hmem z).2 ⟨z0, z1⟩, r⟩⟩, ?_⟩
    · split <;> simp
    · split at h <;> simp at h
    · split <;> simp
    · rw [← hcnt]
      split <;> rename_i h <;> simp [h]
end Go.Proofs.YtfgclmbndgakgaaDoor
