/- BurnLevel, the plain law: a level that is lower is reached no later, and no less surely. -/
import Derived.Test.YtfgclmbndgakgaaDoorPureA
import Derived.Test.YtfgclmbndgakgaaDoorPLx
namespace Go.Proofs.YtfgclmbndgakgaaDoor.Pure
open Go.RowKit Go.Proofs.YtfgclmbndgakgaaDoor Go.Proofs.YtfgclmbndgakgaaDoor.PA Go.Proofs.YtfgclmbndgakgaaDoor.PR Go.Proofs.YtfgclmbndgakgaaDoor.PL Go.Proofs.YtfgclmbndgakgaaDoor.PC1 Go.Proofs.YtfgclmbndgakgaaDoor.PC2 Go.Proofs.YtfgclmbndgakgaaDoorW.PrintWords Go.Proofs.YtfgclmbndgakgaaDoorW.PrintLast Go.Proofs.YtfgclmbndgakgaaDoorW.PrintMore
set_option linter.unusedVariables false
set_option linter.unusedSimpArgs false

/-- The one plain statement of BurnLevel. -/
theorem pureLevel (b0 b1 f0 f1 j0 j1 g0 g1 dr : Int) (l : List Int) (lv lv' : Int) :
    ∃ k, cottonpadlaw04_BurnLevel.f k b0 b1 f0 f1 j0 j1 g0 g1 dr l lv lv' = some true := by
  refine ⟨1000, ?_⟩
  unfold cottonpadlaw04_BurnLevel.f
  rw [alive_big, Option.bind_some, ready_eq _ _ _ _ _ _ _ _ _ _ _ (by omega), Option.bind_some]
  have hno : cottonpadlaw04_BurnLevel.j0 1000 l lv lv' true true b0 b1 f0 f1 j0 j1 g0 g1 dr = some true := rfl
  by_cases h : HoodOK b0 b1 f0 f1 j0 j1 g0 g1 dr ∧ ReadsOK l
  · rw [if_pos (decide_eq_true h)]
    obtain ⟨hH, hl⟩ := h
    by_cases h1 : lv < 1
    · rw [if_pos h1]; exact hno
    · rw [if_neg h1]
      by_cases h2 : lv' < 1
      · rw [if_pos h2]; exact hno
      · rw [if_neg h2]
        show cottonpadlaw04_BurnLevel.j0 (999 + 1) _ _ _ _ _ _ _ _ _ _ _ _ _ _ = _
        simp only [cottonpadlaw04_BurnLevel.j0, Bool.not_true, Bool.false_eq_true, if_false, mn_eq, mx_eq]
        obtain ⟨a, b, n, e1, s1⟩ := First_ok hH hl 999 (min lv lv') (by omega) (by omega)
        obtain ⟨a', b', n', e2, s2⟩ := First_ok hH hl 999 (max lv lv') (by omega) (by omega)
        rw [e1, Option.bind_some, e2, Option.bind_some]
        have hv : min lv lv' ≤ max lv lv' := by omega
        generalize min lv lv' = lo at *
        generalize max lv lv' = hi at *
        have hlo : ∀ x j, loA b0 b1 f0 f1 j0 j1 dr l x j ≤ hiA b0 b1 f0 f1 j0 j1 dr l x j := fun x j => (heat_lo_hi hH _).2
        have k1 := s1.known
        have k2 := s2.known
        have hn2 : n' = 2 → n = 2 := fun e => s1.sure.2 fun x x0 x1 => by
          obtain ⟨j, j0', j1', hj⟩ := s2.sure.1 e x x0 x1
          exact ⟨j, j0', j1', by omega⟩
        have hn1 : n' ≠ 0 → n ≠ 0 ∧ a ≤ a' := fun e => by
          obtain ⟨x, x0, x1, r⟩ := s2.first e
          obtain ⟨i, hi', r'⟩ := reach_down (hlo x) hv r
          have := s1.all x i x0 x1 r'
          exact ⟨this.1, by omega⟩
        have hn3 : n' = 2 → b ≤ b' := fun e => by
          obtain ⟨x, x0, x1, r⟩ := s1.last (by have := hn2 e; omega)
          obtain ⟨j, j0', j1', hj⟩ := s2.sure.1 e x x0 x1
          obtain ⟨i, hi', hi2, r'⟩ := reach_sure (hlo x) j0' j1' hj
          have := s2.all x i x0 x1 r'
          have hbi : b ≤ i := by
            by_cases hc : b ≤ i
            · exact hc
            · have := r.2.2.2 i r'.1 (by omega)
              omega
          omega
        simp only [if_true]
        rw [if_pos (by omega)]
        by_cases hz : n' = 0
        · rw [if_pos hz]
        · rw [if_neg hz, if_pos (hn1 hz).2]
          by_cases ht : n' = 2
          · rw [if_pos ht, decide_eq_true (hn3 ht)]
          · rw [if_neg ht]
  · rw [if_neg (by simpa using h)]
    exact hno
end Go.Proofs.YtfgclmbndgakgaaDoor.Pure
