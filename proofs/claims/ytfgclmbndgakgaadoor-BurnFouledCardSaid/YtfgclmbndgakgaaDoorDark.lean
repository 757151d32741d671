/- burn.Dark: how dark it was in a second: what the call returns where what it calls returns, and that it leaves the world alone below its own blocks. -/
import Derived.Test.YtfgclmbndgakgaaDoorPC1x
import Derived.Deep.RegionHeld3
namespace Go.Proofs.YtfgclmbndgakgaaDoor
open Go.RowKit Go.Proofs.YtfgclmbndgakgaaDoorW.PrintWords Go.Proofs.YtfgclmbndgakgaaDoorW.PrintMore Go.Proofs.YtfgclmbndgakgaaDoor.PC1
set_option linter.unusedVariables false
set_option linter.unusedSimpArgs false

def dkF (y x : Int) : Int := wrap64 (1000 - wrap64 (Int.tdiv (wrap64 (1000 * y)) x))
set_option maxHeartbeats 1000000 in
theorem Dark1_calls (x : Int) (B C : Nat) (ad : Addr) (n c : Nat) (i y : Int) (w : World) (hB : w.cell? ⟨B, 0, none⟩ = some (.slice (some ad) n c)) (hC : w.cell? ⟨C, 0, none⟩ = some (.int .i64 i))
    (h0 : 0 ≤ i) (h1 : i < n) (hy : w.cell? (ad.add i.toNat) = some (.int .i64 y)) (hx : ¬ x = 0) :
    Calls Tryd.prog 54 #[.int .i64 x, .pointer (some ⟨B, 0, none⟩), .pointer (some ⟨C, 0, none⟩)] w fun e w' => e = .returned (.int .i64 (dkF y x)) ∧ w' = w := by
  go_enter Tryd.func54, Tryd.ntmps54
  go_wp2
  go_ret
  exact ⟨by simp [dkF], rfl⟩

def burn_Dark.f (k : Nat) (a0_0 : Int) (a0_1 : Int) (l1 : List Int) (a2 : Int) : Option (Int × Int × Int) :=
  (burn_Clean.f k a0_0 a0_1 l1 a2).bind fun t => (if t.2.2 = 0 then (if 0 ≤ a2 then (if a2 < (l1.length : Int) then (if t.1 = 0 then none else (if t.2.1 = 0 then none else some (dkF (rd l1 a2) t.1, dkF (rd l1 a2) t.2.1, 0))) else none) else none) else some (0, 0, t.2.2))
theorem burn_Dark.mono : ∀ a0 a1 a2 a3 k, LeO (burn_Dark.f k a0 a1 a2 a3) (burn_Dark.f (k + 1) a0 a1 a2 a3) := by
  intro a0 a1 a2 a3 k
  unfold burn_Dark.f
  exact LeO.bind (burn_Clean.mono _ _ _ _ _) (fun _ => LeO.refl _)
set_option maxHeartbeats 1000000 in
theorem burn_Dark.calls (k : Nat) (a0_0 : Int) (a0_1 : Int) (A1 : Option Addr) (c1 : Nat) (l1 : List Int) (a2 : Int) (r1 : Int) (r2 : Int) (r3 : Int) (w : World) (hr1 : Kd.C (Kd.int .i64) w A1 l1.length l1) (hc1 : l1.length ≤ c1) (h : burn_Dark.f k a0_0 a0_1 l1 a2 = some (r1, r2, r3)) :
    Calls Tryd.prog 27 #[.agg #[.int .i64 a0_0, .int .i64 a0_1], .slice A1 l1.length c1, .int .i64 a2] w fun e w' => e = .returned (.tuple #[.agg #[.int .i64 r1, .int .i64 r2], .int .i64 r3]) ∧ Below w.heap.size w w' := by
  unfold burn_Dark.f at h
  obtain ⟨⟨x, y, e⟩, hcl, h⟩ := Option.bind_eq_some_iff.1 h
  simp only at h
  have hu_api_Lamp := Tryd.underlying48
  have hu_api_Span := Tryd.underlying23
  have H1 := fun W hr => burn_Clean.calls k a0_0 a0_1 A1 c1 l1 a2 x y e W hr hc1 hcl
  clear hcl
  have HC := Aside0.mk H1
  have HR := Aside0.mk hr1
  clear H1 hr1
  by_cases he : e = 0
  · rw [if_pos he] at h
    subst he
    by_cases g0 : 0 ≤ a2
    · rw [if_pos g0] at h
      by_cases g1 : a2 < (l1.length : Int)
      · rw [if_pos g1] at h
        by_cases g2 : x = 0
        · rw [if_pos g2] at h; simp at h
        · rw [if_neg g2] at h
          by_cases g3 : y = 0
          · rw [if_pos g3] at h; simp at h
          · rw [if_neg g3] at h
            simp only [Option.some.injEq, Prod.mk.injEq] at h
            obtain ⟨h1, h2, rfl⟩ := h
            have HX := Aside0.mk h1
            have HY := Aside0.mk h2
            clear h1 h2
            go_enter Tryd.func27, Tryd.ntmps27
            go_wp2_with fail
            obtain ⟨W, hW⟩ : ∃ W, (((w.alloc (.cells #[.int .i64 a0_0, .int .i64 a0_1] 48)).alloc (.cells #[.slice A1 l1.length c1] 26)).alloc (.cells #[.int .i64 a2] 3)).alloc (.cells #[.int .i64 0, .int .i64 0] 23) = W := ⟨_, rfl⟩
            rw [hW]
            have hbW : Below w.heap.size w W := hW ▸ below_alloc (below_alloc (below_alloc (below_alloc (Below.refl _ w) _) _) _) _
            have b1 : W.heap[w.heap.size + 1]? = some (.cells #[.slice A1 l1.length c1] 26) := by rw [← hW]; exact blk_alloc (blk_alloc (by have := blk_new (w.alloc (.cells #[.int .i64 a0_0, .int .i64 a0_1] 48)) (.cells #[.slice A1 l1.length c1] 26); simpa using this) _) _
            have b2 : W.heap[w.heap.size + 1 + 1]? = some (.cells #[.int .i64 a2] 3) := by rw [← hW]; exact blk_alloc (by have := blk_new ((w.alloc (.cells #[.int .i64 a0_0, .int .i64 a0_1] 48)).alloc (.cells #[.slice A1 l1.length c1] 26)) (.cells #[.int .i64 a2] 3); simpa using this) _
            have b3 : W.heap[w.heap.size + 1 + 1 + 1]? = some (.cells #[.int .i64 0, .int .i64 0] 23) := by rw [← hW]; have := blk_new (((w.alloc (.cells #[.int .i64 a0_0, .int .i64 a0_1] 48)).alloc (.cells #[.slice A1 l1.length c1] 26)).alloc (.cells #[.int .i64 a2] 3)) (.cells #[.int .i64 0, .int .i64 0] 23); simpa using this
            clear hW
            refine (HC.out W (Kd.C_below HR.out hbW)).mono ?_
            rintro e1 w1 ⟨rfl, hb1⟩
            have hB1 : Below w.heap.size w w1 := below_step hbW hb1
            replace b1 := blk_below b1 hb1
            replace b2 := blk_below b2 hb1
            replace b3 := blk_below b3 hb1
            clear hb1 hbW
            obtain ⟨ad, rfl, hel0⟩ := Kd.at_int HR.out a2 g0 g1
            have hel := pw_cell_below hB1 hel0
            have lad := World.block_lt_of_cell? w _ hel0
            have lb3 := blk_lt b3
            clear hel0
            have HB1 := Aside0.mk hB1
            go_wp2_with fail
            have hw2 : ∃ w2, w1.alloc (.cells #[.int .i64 x, .int .i64 y] 23) = w2 := ⟨_, rfl⟩
            obtain ⟨w2, hw2⟩ := hw2
            have hB2 : Below w.heap.size w w2 := hw2 ▸ below_alloc hB1 _
            have b8 : w2.heap[w1.heap.size]? = some (.cells #[.int .i64 x, .int .i64 y] 23) := hw2 ▸ blk_new w1 _
            replace b1 := hw2 ▸ blk_alloc b1 (.cells #[.int .i64 x, .int .i64 y] 23)
            replace b2 := hw2 ▸ blk_alloc b2 (.cells #[.int .i64 x, .int .i64 y] 23)
            replace b3 := hw2 ▸ blk_alloc b3 (.cells #[.int .i64 x, .int .i64 y] 23)
            have hel2 : w2.cell? (ad.add a2.toNat) = some (Value.int IntKind.i64 (rd l1 a2)) := hw2 ▸ pw_cell_below (below_alloc (Below.refl _ w1) _) hel
            rw [hw2]
            have hne : w.heap.size + 1 + 1 + 1 ≠ w1.heap.size := by omega
            have nad : w.heap.size + 1 + 1 + 1 ≠ (ad.add a2.toNat).block := by omega
            clear hw2 hB1 hel lad lb3
            have h64 : w.heap.size + 1 + 1 + 1 ≠ w.heap.size + 1 := by omega
            have h65 : w.heap.size + 1 + 1 + 1 ≠ w.heap.size + 1 + 1 := by omega
            have hle : w.heap.size ≤ w.heap.size + 1 + 1 + 1 := by omega
            generalize w1.heap.size = g8 at *
            generalize w.heap.size + 1 + 1 + 1 = g6 at *
            generalize w.heap.size + 1 + 1 = g5 at *
            generalize w.heap.size + 1 = g4 at *
            have HB2 := Aside0.mk hB2
            have c1_ := (blk_cell b1 0).trans rfl
            have c2_ := (blk_cell b2 0).trans rfl
            have c3_ := (blk_cell b8 0).trans rfl
            have c4_ := (blk_cell b8 1).trans rfl
            have f3_ := blk_frozen b3 0
            have f4_ := blk_frozen b3 1
            have d3_ := (blk_cell b3 0).trans rfl
            have d4_ := (blk_cell b3 1).trans rfl
            have BK := Aside0.mk b3
            clear b1 b2 b3 b8 hB2
            go_region_held3 (fun w' => w'.cell? ⟨g8, 0, none⟩ = some (.int .i64 x) ∧ w'.cell? ⟨g8, 1, none⟩ = some (.int .i64 y) ∧ w'.cell? ⟨g4, 0, none⟩ = some (.slice (some ad) l1.length c1) ∧ w'.cell? ⟨g5, 0, none⟩ = some (.int .i64 a2) ∧ w'.cell? (ad.add a2.toNat) = some (.int .i64 (rd l1 a2)))
              (go_keep)
              ((go_at_call 54; refine (Dark1_calls _ _ _ ad l1.length c1 a2 (rd l1 a2) _ ?_ ?_ g0 g1 ?_ ?_).mono ?_; (simp [*]); (simp [*]); (simp [*]); (first | exact g2 | exact g3); rintro e w' ⟨rfl, rfl⟩))
            go_wp2
            refine bodyPost_ret (results_ct rfl _ _ g6 23 #[.int .i64 r1, .int .i64 r2] (0, 0) _ rfl (by
              refine blk_drew ?_
              refine blk_put (cs := #[.int .i64 r1, .int .i64 0]) ?_ 1 _ (by rw [← HY.out]; rfl)
              refine blk_put (cs := #[.int .i64 0, .int .i64 0]) ?_ 0 _ (by rw [← HX.out]; rfl)
              exact BK.out) Tryd.underlying23 rfl (by kernel_rfl)) rfl ?_
            exact ⟨rfl, below_drew (below_set (below_set HB2.out hle) hle)⟩
      · rw [if_neg g1] at h; simp at h
    · rw [if_neg g0] at h; simp at h
  · rw [if_neg he] at h
    simp only [Option.some.injEq, Prod.mk.injEq] at h
    obtain ⟨rfl, rfl, rfl⟩ := h
    have he1 : (e != 0) = true := bne_iff_ne.2 he
    clear he
    go_enter Tryd.func27, Tryd.ntmps27
    go_wp2_with fail
    obtain ⟨W, hW⟩ : ∃ W, (((w.alloc (.cells #[.int .i64 a0_0, .int .i64 a0_1] 48)).alloc (.cells #[.slice A1 l1.length c1] 26)).alloc (.cells #[.int .i64 a2] 3)).alloc (.cells #[.int .i64 0, .int .i64 0] 23) = W := ⟨_, rfl⟩
    rw [hW]
    have hbW : Below w.heap.size w W := hW ▸ below_alloc (below_alloc (below_alloc (below_alloc (Below.refl _ w) _) _) _) _
    have b3 : W.heap[w.heap.size + 1 + 1 + 1]? = some (.cells #[.int .i64 0, .int .i64 0] 23) := by rw [← hW]; have := blk_new (((w.alloc (.cells #[.int .i64 a0_0, .int .i64 a0_1] 48)).alloc (.cells #[.slice A1 l1.length c1] 26)).alloc (.cells #[.int .i64 a2] 3)) (.cells #[.int .i64 0, .int .i64 0] 23); simpa using this
    clear hW
    refine (HC.out W (Kd.C_below HR.out hbW)).mono ?_
    rintro e1 w1 ⟨rfl, hb1⟩
    have hB1 : Below w.heap.size w w1 := below_step hbW hb1
    replace b3 := blk_below b3 hb1
    clear hb1 hbW
    have hle : w.heap.size ≤ w.heap.size + 1 + 1 + 1 := by omega
    generalize w.heap.size + 1 + 1 + 1 = g6 at *
    have HB1 := Aside0.mk hB1
    have BK := Aside0.mk b3
    have hlt := blk_lt b3
    have f3_ := blk_frozen b3 0
    have f4_ := blk_frozen b3 1
    have d3_ := (blk_cell b3 0).trans rfl
    have d4_ := (blk_cell b3 1).trans rfl
    clear b3 hB1
    go_wp2
    refine bodyPost_ret (results_ct rfl _ _ g6 23 #[.int .i64 0, .int .i64 0] (0, 0) _ rfl (by
      refine blk_alloc ?_ _
      refine blk_put (cs := #[.int .i64 0, .int .i64 0]) ?_ 1 _ rfl
      refine blk_put (cs := #[.int .i64 0, .int .i64 0]) ?_ 0 _ rfl
      exact BK.out) Tryd.underlying23 rfl (by kernel_rfl)) rfl ?_
    exact ⟨rfl, below_alloc (below_set (below_set HB1.out hle) hle) _⟩
end Go.Proofs.YtfgclmbndgakgaaDoor
