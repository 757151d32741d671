/- slices.Max over whole numbers, at a list that is not empty: it returns the greatest. -/
import Derived.Test.YtfgclmbndgakgaaIn
import Derived.Test.YtfgclmbndgakgaaWMore
import Derived.Laws.Slices
namespace Go.Proofs.Ytfgclmbndgakgaa
open Go.RowKit Go.Proofs.YtfgclmbndgakgaaW.PrintWords Go.Proofs.YtfgclmbndgakgaaW.PrintMore
attribute [local go_sem] max2_int min2_int max_two min_two max_three min_three max_four min_four
set_option linter.unusedVariables false
set_option linter.unusedSimpArgs false

def slices_Max_int_int.f (l0 : List Int) : Option Int := match l0 with | [] => none | x :: r => some (r.foldl mx x)

theorem drop_rd (zs : List Int) (k : Nat) (h : k < zs.length) : zs.drop k = rd zs (k : Int) :: zs.drop (k + 1) := by
  rw [List.drop_eq_getElem_cons h]
  simp [rd, h]

set_option maxHeartbeats 1000000 in
theorem slices_Max_int_int.calls (A0 : Option Addr) (c0 : Nat) (l0 : List Int) (r : Int) (w : World) (hr0 : Kd.C (Kd.int .i64) w A0 l0.length l0) (hc0 : l0.length ≤ c0) (h : slices_Max_int_int.f l0 = some r) :
    Calls Try.prog 14 #[.slice A0 l0.length c0] w fun e w' => e = .returned (.int .i64 r) ∧ Drawn0 w w' := by
  have hn := hr0.2.1
  have hpos : 0 < l0.length := by
    cases l0 with
    | nil => simp [slices_Max_int_int.f] at h
    | cons _ _ => simp
  have hstart : (l0.drop 1).foldl mx (rd l0 0) = r := by
    cases l0 with
    | nil => simp at hpos
    | cons x t =>
      simp only [slices_Max_int_int.f] at h
      simpa [rd] using Option.some.inj h
  have HS := Aside0.mk hstart
  have HR := Aside0.mk hr0
  obtain ⟨ad, rfl, hcell0⟩ := Kd.at_int HR.out 0 (by omega) (by omega)
  simp only [Int.toNat_zero, Addr.add_zero'] at hcell0
  clear hr0 h hstart hc0
  generalize hL : l0.length = n at *
  have HL := Aside0.mk hL
  clear hL
  have hd1 : decide ((n : Int) < 1) = false := decide_eq_false (by omega)
  have hd2 : decide (n < 1) = false := decide_eq_false (by omega)
  go_enter Try.func14, Try.ntmps14
  go_wp2
  clear hcell0
  go_loopg [3, 4] n (fun gg s3 s4 wr => ∃ (kk q : Nat) (m : Int), 1 ≤ kk ∧ kk ≤ n ∧ n - kk ≤ gg ∧ s3 = .int .i64 m ∧ s4 = .int .i64 kk ∧ wr = w.drewN q ∧ Aside0 ((l0.drop kk).foldl mx m = r))
  case atStart => exact ⟨1, 0, _, by omega, by omega, by omega, rfl, rfl, rfl, HS⟩
  case round =>
    obtain ⟨kk, q, m, h1, hkk, hg, rfl, rfl, rfl, HA⟩ := hrel
    by_cases hlt : kk < n
    · have hltz : (kk : Int) < (n : Int) := by omega
      obtain ⟨ad', e, hcell⟩ := Kd.at_int HR.out (kk : Int) (by omega) (by omega)
      cases e
      simp only [Int.toNat_natCast] at hcell
      have HN : Aside0 ((l0.drop (kk + 1)).foldl mx (mx m (rd l0 kk)) = r) := ⟨by
        have := HA.out
        rw [drop_rd l0 kk (by rw [HL.out]; exact hlt)] at this
        exact this⟩
      generalize rd l0 kk = y at hcell HN
      by_cases hy : m < y
      · rw [show mx m y = y from if_pos hy] at HN
        go_wp2
        go_roundg (n - (kk + 1))
        case measure => omega
        case rel =>
          exact ⟨kk + 1, _, _, by omega, by omega, by omega, rfl, by go_num, rfl, HN⟩
      · rw [show mx m y = m from if_neg hy] at HN
        go_wp2
        go_roundg (n - (kk + 1))
        case measure => omega
        case rel =>
          exact ⟨kk + 1, _, _, by omega, by omega, by omega, rfl, by go_num, rfl, HN⟩
    · have hltz : ¬ (kk : Int) < (n : Int) := by omega
      obtain rfl : kk = n := by omega
      have hm : m = r := by
        have := HA.out
        rw [List.drop_of_length_le (by rw [HL.out]; omega)] at this
        exact this
      have HM := Aside0.mk hm
      clear hm
      go_wp2
      go_ret
      exact ⟨by rw [← HM.out]; rfl, ⟨q, rfl⟩⟩
end Go.Proofs.Ytfgclmbndgakgaa
