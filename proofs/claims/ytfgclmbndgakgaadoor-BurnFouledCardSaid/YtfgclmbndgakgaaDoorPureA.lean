/- The plain law of the door seat: that the chapter's examples stand, what is ready, choices. -/
import Derived.Test.YtfgclmbndgakgaaDoorPure
import Derived.Test.YtfgclmbndgakgaaDoorPAx4
namespace Go.Proofs.YtfgclmbndgakgaaDoor.Pure
open Go.RowKit Go.Proofs.YtfgclmbndgakgaaDoor Go.Proofs.YtfgclmbndgakgaaDoor.PA Go.Proofs.YtfgclmbndgakgaaDoor.PR Go.Proofs.YtfgclmbndgakgaaDoor.PC1 Go.Proofs.YtfgclmbndgakgaaDoor.PC2 Go.Proofs.YtfgclmbndgakgaaDoorW.PrintWords Go.Proofs.YtfgclmbndgakgaaDoorW.PrintLast Go.Proofs.YtfgclmbndgakgaaDoorW.PrintMore
set_option linter.unusedVariables false
set_option linter.unusedSimpArgs false

theorem ready_eq (k : Nat) (b0 b1 f0 f1 j0 j1 g0 g1 dr : Int) (l : List Int) (hk : 150 < k) : cottonpadlaw04_ready.f k b0 b1 f0 f1 j0 j1 g0 g1 dr l = some (decide (HoodOK b0 b1 f0 f1 j0 j1 g0 g1 dr ∧ ReadsOK l)) := by
  unfold cottonpadlaw04_ready.f cottonpadref04_Great.f
  rw [refCheck_eq _ _ _ _ _ _ _ _ _ _ _ hk]
  simp only [Option.bind_some, decide_eq_true_eq]
  by_cases h : (l.length : Int) > 150
  · rw [if_pos h]
    congr 1
    exact (decide_eq_false (fun h' => by have := h'.2.1; omega)).symm
  · rw [if_neg h]
    congr 1
    rw [Bool.eq_iff_iff, beq_iff_eq, checkS_zero, decide_eq_true_iff]

theorem choose_ok {l : List Int} (h : U32 l) (i : Int) (h0 : 0 ≤ i) : ∃ c, cottonpadlaw04_choose.f l i = some c ∧ 0 ≤ c ∧ c ≤ 4294967295 := by
  unfold cottonpadlaw04_choose.f
  by_cases hl : (l.length : Int) = 0
  · exact ⟨0, by rw [if_pos hl], by omega, by omega⟩
  · have e : Int.tmod i l.length = i % l.length := Int.tmod_eq_emod_of_nonneg h0
    have m0 : 0 ≤ i % (l.length : Int) := Int.emod_nonneg _ hl
    have m1 : i % (l.length : Int) < l.length := Int.emod_lt_of_pos _ (by omega)
    have hx := h.2 _ (rd_mem l (i % l.length) m0 m1)
    refine ⟨rd l (i % l.length), ?_, hx.1, hx.2⟩
    rw [if_neg hl, e, if_pos m0, if_pos m1, w64 (by omega) (by omega)]
theorem pick_ok (lo hi n : Int) (h0 : 0 ≤ lo) (h1 : lo ≤ hi) (h2 : hi ≤ 1000000) (n0 : 0 ≤ n) : ∃ p, cottonpadlaw04_pick.f lo hi n = some p ∧ lo ≤ p ∧ p ≤ hi := by
  unfold cottonpadlaw04_pick.f
  rw [w64 (n := hi - lo) (by omega) (by omega), w64 (n := hi - lo + 1) (by omega) (by omega), if_neg (by omega)]
  have e : Int.tmod n (hi - lo + 1) = n % (hi - lo + 1) := Int.tmod_eq_emod_of_nonneg n0
  have m0 : 0 ≤ n % (hi - lo + 1) := Int.emod_nonneg _ (by omega)
  have m1 : n % (hi - lo + 1) < hi - lo + 1 := Int.emod_lt_of_pos _ (by omega)
  rw [e, w64 (by omega) (by omega)]
  exact ⟨_, rfl, by omega, by omega⟩
/-! ### the chapter's examples -/
theorem alive_big : cottonpadlaw04_alive.f 1000 = some true := by decide +kernel
theorem alive_more (n : Nat) : cottonpadlaw04_alive.f (1000 + n) = some true := by
  induction n with
  | zero => exact alive_big
  | succ n ih => exact cottonpadlaw04_alive.mono (1000 + n) true ih
end Go.Proofs.YtfgclmbndgakgaaDoor.Pure
