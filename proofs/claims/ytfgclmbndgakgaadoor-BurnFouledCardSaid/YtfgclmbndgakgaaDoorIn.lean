/- burn.in: all numbers of a list are from lo to hi: what the call returns, and that it leaves the world alone below its own blocks. -/
import Derived.Test.YtfgclmbndgakgaaDoorProg
import Derived.WalkKit
import Derived.KernelRfl
import Derived.Deep.LoopGhost
import Derived.Deep.Draws
import Derived.Shelf.Abstract
import Derived.Test.YtfgclmbndgakgaaDoorWWords
import Derived.Test.YtfgclmbndgakgaaDoorWMore
import Derived.Laws.Slices
namespace Go.Proofs.YtfgclmbndgakgaaDoor
open Go.RowKit Go.Proofs.YtfgclmbndgakgaaDoorW.PrintWords
set_option linter.unusedVariables false
set_option linter.unusedSimpArgs false

/-- the closure of in -/
theorem in1_calls (x lo hi : Int) (B C : Nat) (w : World) (hB : w.cell? ⟨B, 0, none⟩ = some (.int .i64 lo)) (hC : w.cell? ⟨C, 0, none⟩ = some (.int .i64 hi)) :
    Calls Tryd.prog 59 #[.int .i64 x, .pointer (some ⟨B, 0, none⟩), .pointer (some ⟨C, 0, none⟩)] w fun e w' => e = .returned (.bool (decide (x < lo) || decide (hi < x))) ∧ w' = w := by
  by_cases h : x < lo
  · go_enter Tryd.func59, Tryd.ntmps59
    go_wp2
    go_ret
    exact ⟨by simp [h], rfl⟩
  · go_enter Tryd.func59, Tryd.ntmps59
    go_wp2
    all_goals go_ret
    all_goals exact ⟨by simp [show ¬ x < lo by omega], rfl⟩

/-- the place of the first element of which something is so, -1 if there is none -/
def idxF (p : Int → Bool) : List Int → Nat → Int
  | [], _ => -1
  | x :: r, i => if p x then (i : Int) else idxF p r (i + 1)
theorem idxF_hit (p : Int → Bool) : ∀ (zs : List Int) (k i : Nat), k < zs.length → p (zs.getD k 0) = true → (∀ j, j < k → p (zs.getD j 0) = false) → idxF p zs i = ((i + k : Nat) : Int)
  | [], k, i, h, _, _ => absurd h (by simp)
  | x :: r, 0, i, _, h, _ => by simp [idxF] at h ⊢; simp [h]
  | x :: r, k + 1, i, hk, h, hn => by
    have h0 := hn 0 (by omega)
    simp at h0
    have := idxF_hit p r k (i + 1) (by simpa using hk) (by simpa using h) (fun j hj => by simpa using hn (j + 1) (by omega))
    simp [idxF, h0, this]
    omega
theorem idxF_miss (p : Int → Bool) : ∀ (zs : List Int) (i : Nat), (∀ j, j < zs.length → p (zs.getD j 0) = false) → idxF p zs i = -1
  | [], _, _ => rfl
  | x :: r, i, h => by
    have h0 := h 0 (by simp)
    simp at h0
    simp [idxF, h0, idxF_miss p r (i + 1) (fun j hj => by simpa using h (j + 1) (by simpa using hj))]
theorem idxF_any (p : Int → Bool) : ∀ (zs : List Int) (i : Nat), decide (0 ≤ idxF p zs i) = zs.any p
  | [], _ => rfl
  | x :: r, i => by
    by_cases h : p x = true
    · simp [idxF, h]
    · have h' : p x = false := by simpa using h
      simp [idxF, h', ← idxF_any p r (i + 1)]

set_option maxHeartbeats 1000000 in
/-- slices.IndexFunc over whole numbers, at a closure that only reads. -/
theorem indexFunc_calls (p : Int → Bool) (g : Nat) (lb : Array Value) (eg : ∀ args w, (callFunc g args).run Tryd.prog w = .ok (.enter g args) w) (A : Option Addr) (c : Nat) (zs : List Int) (w : World)
    (hr : Kd.C (Kd.int .i64) w A zs.length zs) (hp : ∀ (x : Int) (q : Nat), Calls Tryd.prog g (#[.int .i64 x] ++ lb) (w.drewN q) fun e w' => e = .returned (.bool (p x)) ∧ w' = w.drewN q) :
    Calls Tryd.prog 63 #[.slice A zs.length c, .func (.func g) #[] lb] w fun e w' => e = .returned (.int .i64 (idxF p zs 0)) ∧ Drawn0 w w' := by
  have hn := hr.2.1
  have HR := Aside0.mk hr
  clear hr
  generalize hL : zs.length = n at *
  have HL := Aside0.mk hL
  clear hL
  go_enter Tryd.func63, Tryd.ntmps63
  go_wp2
  go_loopg [5, 8] n (fun gg _ s8 wr => ∃ kk q : Nat, kk ≤ n ∧ n - kk ≤ gg ∧ s8 = .int .i64 kk ∧ wr = w.drewN q ∧ Aside0 (∀ j, j < kk → p (zs.getD j 0) = false))
  case atStart => exact ⟨0, 0, Nat.zero_le _, by omega, rfl, rfl, ⟨fun j hj => absurd hj (Nat.not_lt_zero _)⟩⟩
  case round =>
    obtain ⟨kk, q, hkk, hg, rfl, rfl, HA⟩ := hrel
    by_cases hlt : kk < n
    · have hltz : (kk : Int) < (n : Int) := by omega
      obtain ⟨ad, rfl, hcell⟩ := Kd.at_int HR.out (kk : Int) (by omega) (by omega)
      have hy : rd zs (kk : Int) = zs.getD kk 0 := by simp [rd]
      rw [hy] at hcell
      simp only [Int.toNat_natCast] at hcell
      generalize hz : zs.getD kk 0 = y at hcell
      have HY := Aside0.mk hz
      clear hz hy
      have hcall := hp y
      clear hp
      cases hq : p y with
      | true =>
        rw [hq] at hcall
        go_wp2_with (go_at_fn g; refine (hcall _).mono ?_; rintro e w' ⟨rfl, rfl⟩)
        go_ret
        refine ⟨?_, ⟨_, rfl⟩⟩
        rw [idxF_hit p zs kk 0 (by have := HL.out; omega) (by rw [HY.out]; exact hq) HA.out]
        simp
      | false =>
        rw [hq] at hcall
        go_wp2_with (go_at_fn g; refine (hcall _).mono ?_; rintro e w' ⟨rfl, rfl⟩)
        go_roundg (n - (kk + 1))
        case measure => omega
        case rel =>
          refine ⟨kk + 1, _, by omega, by omega, by go_num, rfl, ⟨fun j hj => ?_⟩⟩
          by_cases e : j = kk
          · subst e
            rw [HY.out]; exact hq
          · exact HA.out j (by omega)
    · have hltz : ¬ (kk : Int) < (n : Int) := by omega
      obtain rfl : kk = n := by omega
      clear hp
      go_wp2
      go_ret
      refine ⟨?_, ⟨q, rfl⟩⟩
      rw [idxF_miss p zs 0 (by rw [HL.out]; exact HA.out)]
      rfl

theorem containsFunc_calls (p : Int → Bool) (g : Nat) (lb : Array Value) (eg : ∀ args w, (callFunc g args).run Tryd.prog w = .ok (.enter g args) w) (A : Option Addr) (c : Nat) (zs : List Int) (w : World)
    (hr : Kd.C (Kd.int .i64) w A zs.length zs) (hp : ∀ (x : Int) (q : Nat), Calls Tryd.prog g (#[.int .i64 x] ++ lb) (w.drewN q) fun e w' => e = .returned (.bool (p x)) ∧ w' = w.drewN q) :
    Calls Tryd.prog 58 #[.slice A zs.length c, .func (.func g) #[] lb] w fun e w' => e = .returned (.bool (zs.any p)) ∧ Drawn0 w w' := by
  rw [← idxF_any p zs 0]
  have hcon := indexFunc_calls p g lb eg A c zs w hr hp
  clear hr hp eg
  generalize idxF p zs 0 = r at *
  generalize zs.length = n at *
  have H := Aside0.mk hcon
  clear hcon
  go_enter Tryd.func58, Tryd.ntmps58
  go_wp2_with (go_at_call 63; refine H.out.mono ?_; rintro e w' ⟨rfl, ⟨q, rfl⟩⟩)
  go_ret
  exact ⟨rfl, ⟨q, rfl⟩⟩

/-- burn.in -/
def burn_in.f (a0 : Int) (a1 : Int) (l2 : List Int) : Option Bool := some (!l2.any fun x => decide (x < a0) || decide (a1 < x))
theorem burn_in.calls (a0 : Int) (a1 : Int) (A2 : Option Addr) (c2 : Nat) (l2 : List Int) (r : Bool) (w : World) (hr2 : Kd.C (Kd.int .i64) w A2 l2.length l2) (hc2 : l2.length ≤ c2) (h : burn_in.f a0 a1 l2 = some r) :
    Calls Tryd.prog 41 #[.int .i64 a0, .int .i64 a1, .slice A2 l2.length c2] w fun e w' => e = .returned (.bool r) ∧ Below w.heap.size w w' := by
  obtain rfl := Option.some.inj h
  clear h hc2
  have hb : Below w.heap.size w ((w.alloc (.cells #[.int .i64 a0] 3)).alloc (.cells #[.int .i64 a1] 3)) := below_alloc (below_alloc (Below.refl _ w) _) _
  have eg : ∀ args w, (callFunc 59 args).run Tryd.prog w = .ok (.enter 59 args) w := enters_of Tryd.func59 (by kernel_rfl) rfl
  have hcon := containsFunc_calls (fun x => decide (x < a0) || decide (a1 < x)) 59 #[.pointer (some ⟨w.heap.size, 0, none⟩), .pointer (some ⟨w.heap.size + 1, 0, none⟩)] eg A2 c2 l2 _ (Kd.C_below hr2 hb)
    (fun x q => in1_calls x a0 a1 _ _ _ (by simp) (by simp))
  have HB := Aside0.mk hb
  clear hb hr2
  generalize (l2.any fun x => decide (x < a0) || decide (a1 < x)) = r at *
  generalize l2.length = n at *
  have H := Aside0.mk hcon
  clear hcon
  go_enter Tryd.func41, Tryd.ntmps41
  go_wp2_with (go_at_call 58; refine H.out.mono ?_; rintro e w' ⟨rfl, ⟨q, rfl⟩⟩)
  go_ret
  exact ⟨rfl, pw_below_drewN HB.out _⟩
end Go.Proofs.YtfgclmbndgakgaaDoor
/- slices.Max over whole numbers, at a list that is not empty: it returns the greatest. -/
namespace Go.Proofs.YtfgclmbndgakgaaDoor
open Go.RowKit Go.Proofs.YtfgclmbndgakgaaDoorW.PrintWords Go.Proofs.YtfgclmbndgakgaaDoorW.PrintMore
attribute [local go_sem] max2_int min2_int max_two min_two max_three min_three max_four min_four
set_option linter.unusedVariables false
set_option linter.unusedSimpArgs false

def slices_Max_int_int.f (l0 : List Int) : Option Int := match l0 with | [] => none | x :: r => some (r.foldl mx x)

theorem drop_rd (zs : List Int) (k : Nat) (h : k < zs.length) : zs.drop k = rd zs (k : Int) :: zs.drop (k + 1) := by
  rw [List.drop_eq_getElem_cons h]
  simp [rd, h]

set_option maxHeartbeats 1000000 in
theorem slices_Max_int_int.calls (A0 : Option Addr) (c0 : Nat) (l0 : List Int) (r : Int) (w : World) (hr0 : Kd.C (Kd.int .i64) w A0 l0.length l0) (hc0 : l0.length ≤ c0) (h : slices_Max_int_int.f l0 = some r) :
    Calls Tryd.prog 56 #[.slice A0 l0.length c0] w fun e w' => e = .returned (.int .i64 r) ∧ Drawn0 w w' := by
  have hn := hr0.2.1
  have hpos : 0 < l0.length := by
    cases l0 with
    | nil => simp [slices_Max_int_int.f] at h
    | cons _ _ => simp
  have hstart : (l0.drop 1).foldl mx (rd l0 0) = r := by
    cases l0 with
    | nil => simp at hpos
    | cons x t =>
      simp only [slices_Max_int_int.f] at h
      simpa [rd] using Option.some.inj h
  have HS := Aside0.mk hstart
  have HR := Aside0.mk hr0
  obtain ⟨ad, rfl, hcell0⟩ := Kd.at_int HR.out 0 (by omega) (by omega)
  simp only [Int.toNat_zero, Addr.add_zero'] at hcell0
  clear hr0 h hstart hc0
  generalize hL : l0.length = n at *
  have HL := Aside0.mk hL
  clear hL
  have hd1 : decide ((n : Int) < 1) = false := decide_eq_false (by omega)
  have hd2 : decide (n < 1) = false := decide_eq_false (by omega)
  go_enter Tryd.func56, Tryd.ntmps56
  go_wp2
  clear hcell0
  go_loopg [3, 4] n (fun gg s3 s4 wr => ∃ (kk q : Nat) (m : Int), 1 ≤ kk ∧ kk ≤ n ∧ n - kk ≤ gg ∧ s3 = .int .i64 m ∧ s4 = .int .i64 kk ∧ wr = w.drewN q ∧ Aside0 ((l0.drop kk).foldl mx m = r))
  case atStart => exact ⟨1, 0, _, by omega, by omega, by omega, rfl, rfl, rfl, HS⟩
  case round =>
    obtain ⟨kk, q, m, h1, hkk, hg, rfl, rfl, rfl, HA⟩ := hrel
    by_cases hlt : kk < n
    · have hltz : (kk : Int) < (n : Int) := by omega
      obtain ⟨ad', e, hcell⟩ := Kd.at_int HR.out (kk : Int) (by omega) (by omega)
      cases e
      simp only [Int.toNat_natCast] at hcell
      have HN : Aside0 ((l0.drop (kk + 1)).foldl mx (mx m (rd l0 kk)) = r) := ⟨by
        have := HA.out
        rw [drop_rd l0 kk (by rw [HL.out]; exact hlt)] at this
        exact this⟩
      generalize rd l0 kk = y at hcell HN
      by_cases hy : m < y
      · rw [show mx m y = y from if_pos hy] at HN
        go_wp2
        go_roundg (n - (kk + 1))
        case measure => omega
        case rel =>
          exact ⟨kk + 1, _, _, by omega, by omega, by omega, rfl, by go_num, rfl, HN⟩
      · rw [show mx m y = m from if_neg hy] at HN
        go_wp2
        go_roundg (n - (kk + 1))
        case measure => omega
        case rel =>
          exact ⟨kk + 1, _, _, by omega, by omega, by omega, rfl, by go_num, rfl, HN⟩
    · have hltz : ¬ (kk : Int) < (n : Int) := by omega
      obtain rfl : kk = n := by omega
      have hm : m = r := by
        have := HA.out
        rw [List.drop_of_length_le (by rw [HL.out]; omega)] at this
        exact this
      have HM := Aside0.mk hm
      clear hm
      go_wp2
      go_ret
      exact ⟨by rw [← HM.out]; rfl, ⟨q, rfl⟩⟩
end Go.Proofs.YtfgclmbndgakgaaDoor
