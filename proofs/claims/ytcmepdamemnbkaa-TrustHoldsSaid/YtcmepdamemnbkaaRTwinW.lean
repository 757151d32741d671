/- ref08.Twin: the walk. -/
import Derived.Test.YtcmepdamemnbkaaRTwin
namespace Go.Proofs.Ytcmepdamemnbkaa
open Go.RowKit Go.Proofs.YtcmepdamemnbkaaW.PrintWords
set_option linter.unusedVariables false
set_option linter.unusedSimpArgs false
def recC (x : RecT) (v : Value) : List Value := [.int .i64 x.f0, .int .u8 x.f1, v]
set_option maxHeartbeats 16000000 in
theorem twin_calls (A : Option Addr) (c : Nat) (r : List RecT) (w : World) (hr : Kd.C recK w A r.length r) (hsm : Small r) :
    Calls Try.prog 6 #[.slice A r.length c] w fun e w' => ∃ b cap, e = .returned (.slice (some ⟨b, 0, none⟩) r.length cap) ∧ Below w.heap.size w w' ∧ r.length ≤ cap ∧ Kd.C recK w' (some ⟨b, 0, none⟩) r.length r := by
  obtain ⟨hlen, hways⟩ := hsm
  obtain ⟨cells0, hc1, hc2, hc3, hc4⟩ := C_cells hr (d := recK) (by decide)
  have hA0 : A = none → r.length = 0 := fun e => by
    subst e
    by_cases h : r.length = 0
    · exact h
    · obtain ⟨ad, e, _⟩ := hr.2.2 (by omega)
      cases e
  have hcell0 : ∀ j, j < r.length → ∃ v, cells0[j]? = some (recC (r.getD j zRec) v) ∧ ∃ A c, v = .slice A (r.getD j zRec).f2.length c ∧ (r.getD j zRec).f2.length ≤ c ∧ Kd.C waysK w A (r.getD j zRec).f2.length (r.getD j zRec).f2 := fun j hj => by
    have h1 : cells0[j]? = some cells0[j] := List.getElem?_eq_getElem (by omega)
    have h2 : r[j]? = some (r.getD j zRec) := by simp [List.getD_eq_getElem?_getD, List.getElem?_eq_getElem hj]
    obtain ⟨A2, c2, h3, h4, h5⟩ := k43_open (hc3 j _ _ h2 h1)
    exact ⟨_, by rw [h1, h3]; rfl, A2, c2, rfl, h4, h5⟩
  refine x_calls (X := XNone) Try.func6 rfl rfl rfl ?_
  with_reducible repeat refine xc_seq ?_
  with_reducible refine xc_region ?_
  refine xo_asg rfl rfl rfl ?_
  with_reducible refine xo_nil ?_
  with_reducible repeat (first | refine xq_then ?_ | refine xq_blockN ?_ | refine xq_scopeN ?_)
  with_reducible repeat refine xc_seq ?_
  with_reducible refine xc_region ?_
  refine xo_bs0 T_ 3 rfl rfl rfl rfl (fun b0 => ?_)
  refine xo_mv rfl rfl rfl ?_
  refine xo_appE TR_ rfl rfl rfl rfl rfl rfl rfl rfl (by rw [flat_len 3 cells0 hc2, hc1]) hA0 (fun p e w1 hw1 j u hj => hw1.kx.cell (hc4 p e j u hj) (fun h => h)) (fun u hu => by obtain ⟨c, hc, hu⟩ := List.mem_flatten.1 hu; obtain ⟨j, hj, rfl⟩ := List.getElem_of_mem hc; exact recK.K_one (hc3 j _ _ (List.getElem?_eq_getElem (by omega)) (List.getElem?_eq_getElem hj)) u hu) (by omega) rfl rfl (fun b cap => ?_)
  refine xo_asg rfl rfl rfl ?_
  with_reducible refine xo_nil ?_
  with_reducible repeat (first | refine xq_then ?_ | refine xq_blockN ?_ | refine xq_scopeN ?_)
  with_reducible repeat refine xc_seq ?_
  with_reducible refine xc_region ?_
  refine xo_asg rfl rfl rfl ?_
  with_reducible refine xo_nil ?_
  with_reducible repeat (first | refine xq_then ?_ | refine xq_blockN ?_ | refine xq_scopeN ?_)
  with_reducible repeat refine xc_seq ?_
  with_reducible refine xc_block ?_
  refine xc_loop (γ := Nat × Hp × List (List Value)) (fun q => q.1 ≤ r.length ∧ q.2.2.length = r.length ∧ ∀ j, j < r.length → ∃ v, q.2.2[j]? = some (recC (r.getD j zRec) v) ∧ (j < q.1 → wayRow q.2.1 v (r.getD j zRec).f2) ∧ (q.1 ≤ j → ∃ A c, v = .slice A (r.getD j zRec).f2.length c ∧ (r.getD j zRec).f2.length ≤ c ∧ Kd.C waysK w A (r.getD j zRec).f2.length (r.getD j zRec).f2))
    (fun q => [(3, .slice (some ⟨b, 0, none⟩) r.length cap), (4, .int .i64 (q.1 : Int))]) (fun q => (b, true, orow 43 3 r.length cap q.2.2.flatten) :: q.2.1) (fun q => r.length - q.1) (0, [], cells0)
    ⟨Nat.zero_le _, hc1, fun j hj => by obtain ⟨v, h1, h2⟩ := hcell0 j hj; exact ⟨v, h1, fun h => absurd h (by simp), fun _ => h2⟩⟩ ⟨rfl, rfl, trivial⟩ (by repeat (first | exact List.Sublist.refl _ | apply List.Sublist.cons_cons | apply List.Sublist.cons | exact List.nil_sublist _)) ?_
  rintro ⟨i, F, cells⟩ ⟨hi1, hcl, hcs⟩
  simp only at hi1 hcl hcs ⊢
  have hcl3 : ∀ c ∈ cells, c.length = 3 := fun c hc => by
    obtain ⟨j, hj, rfl⟩ := List.getElem_of_mem hc
    obtain ⟨v, h1, _⟩ := hcs j (by omega)
    rw [List.getElem?_eq_getElem hj] at h1
    rw [Option.some.inj h1]
    rfl
  with_reducible repeat refine xc_seq ?_
  with_reducible refine xc_region ?_
  refine xo_mv rfl rfl rfl ?_
  refine xo_mv rfl rfl rfl ?_
  refine xo_len T_ rfl rfl rfl rfl ?_
  refine xo_lss rfl rfl rfl rfl ?_
  with_reducible refine xo_nil ?_
  with_reducible repeat (first | refine xq_then ?_ | refine xq_blockN ?_ | refine xq_scopeN ?_)
  with_reducible repeat refine xc_seq ?_
  refine xc_cond rfl (fun h => ?_) (fun h => ?_)
  · have hil : i < r.length := by have := of_decide_eq_true h; omega
    obtain ⟨v, hv1, _, hv2⟩ := hcs i hil
    obtain ⟨A2, c2, rfl, hv3, hv4⟩ := hv2 (Nat.le_refl _)
    obtain ⟨hx6, hx8⟩ := hways i hil
    generalize hx : r.getD i zRec = x at *
    obtain ⟨vcells, hw1, hw2, hw3, hw4⟩ := C_cells hv4 (d := waysK) (by decide)
    have hA2 : A2 = none → x.f2.length = 0 := fun e => by
      subst e
      by_cases h : x.f2.length = 0
      · exact h
      · obtain ⟨ad, e, _⟩ := hv4.2.2 (by omega)
        cases e
    have hvs0 : ∀ k, k < x.f2.length → ∃ A c, vcells.flatten[k]? = some (.slice A (x.f2.getD k []).length c) ∧ Kd.C (Kd.int .i64) w A (x.f2.getD k []).length (x.f2.getD k []) := fun k hk => by
      have h1 : vcells[k]? = some vcells[k] := List.getElem?_eq_getElem (by omega)
      have h2 : x.f2[k]? = some (x.f2.getD k []) := by simp [List.getD_eq_getElem?_getD, List.getElem?_eq_getElem hk]
      obtain ⟨A, c, h3, h4, h5⟩ := hw3 k _ _ h2 h1
      have h6 := flat_at 1 vcells k 0 hw2 (by omega)
      rw [Nat.mul_one, Nat.add_zero, h1, h3] at h6
      exact ⟨A, c, h6, h5⟩
    have hvl : vcells.flatten.length = x.f2.length := by rw [flat_len 1 vcells hw2, hw1, Nat.mul_one]
    have hvone : ∀ u ∈ vcells.flatten, u.oneCell' = true := fun u hu => by
      obtain ⟨c, hc, hu⟩ := List.mem_flatten.1 hu
      obtain ⟨j, hj, rfl⟩ := List.getElem_of_mem hc
      exact waysK.K_one (hw3 j _ _ (List.getElem?_eq_getElem (by omega)) (List.getElem?_eq_getElem hj)) u hu
    generalize vcells.flatten = vs0 at *
    with_reducible refine xc_skip ?_
    with_reducible repeat (first | refine xq_then ?_ | refine xq_blockN ?_ | refine xq_scopeN ?_)
    with_reducible repeat refine xc_seq ?_
    with_reducible refine xc_block ?_
    with_reducible repeat refine xc_seq ?_
    with_reducible refine xc_region ?_
    refine xo_mv rfl rfl rfl ?_
    refine xo_mv rfl rfl rfl ?_
    refine xo_bs0 T_ 1 rfl rfl rfl rfl (fun b1 => ?_)
    refine xo_mv rfl rfl rfl ?_
    refine xo_mv rfl rfl rfl ?_
    refine xo_ia T_ rfl rfl rfl rfl rfl ⟨by omega, by omega⟩ rfl ?_
    refine xo_faR T_ rfl rfl rfl rfl rfl ?_
    refine xo_loadZ T_ (k := i * 3 + 2) rfl rfl rfl (ad3 _ _ _) (by repeat (first | exact List.Mem.head _ | apply List.Mem.tail | apply List.mem_append_right)) (by rw [flat_at 3 cells i 2 hcl3 (by omega), hv1]; rfl) rfl ?_
    refine xo_appE TR_ rfl rfl rfl rfl rfl rfl rfl rfl (by rw [hvl, Nat.mul_one]) hA2 (fun p e w1 hw1 j u hj => hw1.kx.cell (hw4 p e j u hj) (fun h => h)) hvone (by omega) rfl rfl (fun b2 cap2 => ?_)
    refine xo_ia T_ rfl rfl rfl rfl rfl ⟨by omega, by omega⟩ rfl ?_
    refine xo_faR T_ rfl rfl rfl rfl rfl ?_
    refine xo_storeZ T_ (η' := (b2, true, orow 26 1 x.f2.length cap2 vs0) :: (b, true, orow 43 3 r.length cap (cells.set i (recC x (.slice (some ⟨b2, 0, none⟩) x.f2.length cap2))).flatten) :: F) rfl rfl rfl (ad3 _ _ _) rfl (by repeat (first | exact List.Mem.head _ | apply List.Mem.tail | apply List.mem_append_right)) rfl rfl (by omega) (by rw [flat_set 3 cells i 2 _ _ hcl3 hv1 (by omega)]; exact Upd.tail Upd.head) rfl ?_
    with_reducible refine xo_nil ?_
    with_reducible repeat (first | refine xq_then ?_ | refine xq_blockN ?_ | refine xq_scopeN ?_)
    with_reducible repeat refine xc_seq ?_
    with_reducible refine xc_region ?_
    refine xo_asg rfl rfl rfl ?_
    with_reducible refine xo_nil ?_
    with_reducible repeat (first | refine xq_then ?_ | refine xq_blockN ?_ | refine xq_scopeN ?_)
    with_reducible repeat refine xc_seq ?_
    with_reducible refine xc_block ?_
    refine xc_loop (γ := Nat × Hp × List Value) (fun q => q.1 ≤ x.f2.length ∧ q.2.2.length = x.f2.length ∧ (∀ e ∈ F, e ∈ q.2.1) ∧ ∀ k, k < x.f2.length → ∃ u, q.2.2[k]? = some u ∧ (k < q.1 → intRow q.2.1 u (x.f2.getD k [])) ∧ (q.1 ≤ k → ∃ A c, u = .slice A (x.f2.getD k []).length c ∧ Kd.C (Kd.int .i64) w A (x.f2.getD k []).length (x.f2.getD k [])))
      (fun q => [(3, .slice (some ⟨b, 0, none⟩) r.length cap), (4, .int .i64 (i : Int)), (5, .int .i64 (q.1 : Int))])
      (fun q => (b2, true, orow 26 1 x.f2.length cap2 q.2.2) :: (b, true, orow 43 3 r.length cap (cells.set i (recC x (.slice (some ⟨b2, 0, none⟩) x.f2.length cap2))).flatten) :: q.2.1) (fun q => x.f2.length - q.1) (0, F, vs0)
      ⟨Nat.zero_le _, hvl, fun e he => he, fun k hk => by obtain ⟨A, c, h1, h2⟩ := hvs0 k hk; exact ⟨_, h1, fun h => absurd h (by simp), fun _ => ⟨A, c, rfl, h2⟩⟩⟩ ⟨rfl, rfl, rfl, trivial⟩ (by repeat (first | exact List.Sublist.refl _ | apply List.Sublist.cons_cons | apply List.Sublist.cons | exact List.nil_sublist _)) ?_
    have hcl3' : ∀ c ∈ cells.set i (recC x (.slice (some ⟨b2, 0, none⟩) x.f2.length cap2)), c.length = 3 := fun c hc => by
      rcases List.mem_or_eq_of_mem_set hc with h | rfl
      · exact hcl3 c h
      · rfl
    have hcat : (cells.set i (recC x (.slice (some ⟨b2, 0, none⟩) x.f2.length cap2))).flatten[i * 3 + 2]? = some (.slice (some ⟨b2, 0, none⟩) x.f2.length cap2) := by
      rw [flat_at 3 _ i 2 hcl3' (by omega), List.getElem?_set_self (by omega)]
      rfl
    rintro ⟨j, F', vs⟩ ⟨hj1, hvl2, hFF, hvs⟩
    simp only at hj1 hvl2 hFF hvs ⊢
    with_reducible repeat refine xc_seq ?_
    with_reducible refine xc_region ?_
    refine xo_mv rfl rfl rfl ?_
    refine xo_mv rfl rfl rfl ?_
    refine xo_mv rfl rfl rfl ?_
    refine xo_ia T_ rfl rfl rfl rfl rfl ⟨by omega, by omega⟩ rfl ?_
    refine xo_faR T_ rfl rfl rfl rfl rfl ?_
    refine xo_loadZ T_ (k := i * 3 + 2) rfl rfl rfl (ad3 _ _ _) (by repeat (first | exact List.Mem.head _ | apply List.Mem.tail | apply List.mem_append_right)) hcat rfl ?_
    refine xo_len T_ rfl rfl rfl rfl ?_
    refine xo_lss rfl rfl rfl rfl ?_
    with_reducible refine xo_nil ?_
    with_reducible repeat (first | refine xq_then ?_ | refine xq_blockN ?_ | refine xq_scopeN ?_)
    with_reducible repeat refine xc_seq ?_
    refine xc_cond rfl (fun h => ?_) (fun h => ?_)
    · have hjl : j < x.f2.length := by have := of_decide_eq_true h; omega
      obtain ⟨u, hu1, _, hu2⟩ := hvs j hjl
      obtain ⟨A4, c4, rfl, hu3⟩ := hu2 (Nat.le_refl _)
      have h8 := hx8 j hjl
      generalize hway : x.f2.getD j [] = way at *
      obtain ⟨icells, hi2, hi3, hi4, hi5⟩ := C_cells hu3 (d := Kd.int .i64) (by decide)
      have hicells : icells.flatten = way.map (.int .i64) := ints_flat hi2 hi4
      rw [hicells] at hi5
      have hA4 : A4 = none → way.length = 0 := fun e => by
        subst e
        by_cases h : way.length = 0
        · exact h
        · obtain ⟨ad, e, _⟩ := hu3.2.2 (by omega)
          cases e
      with_reducible refine xc_skip ?_
      with_reducible repeat (first | refine xq_then ?_ | refine xq_blockN ?_ | refine xq_scopeN ?_)
      with_reducible repeat refine xc_seq ?_
      with_reducible refine xc_block ?_
      with_reducible repeat refine xc_seq ?_
      refine xc_drawG (vsG (.slice (some ⟨b, 0, none⟩) r.length cap) (.int .i64 (i : Int)) (.pointer (some (Addr.add ⟨b, 0, none⟩ ((i : Int).toNat * szN 3)))) (.pointer (some (Addr.add (Addr.add ⟨b, 0, none⟩ ((i : Int).toNat * szN 3)) 2))) (.slice (some ⟨b2, 0, none⟩) x.f2.length cap2) (.int .i64 (j : Int)) (.slice (some ⟨b, 0, none⟩) r.length cap) (.int .i64 (i : Int)) (.pointer (some (Addr.add ⟨b, 0, none⟩ ((i : Int).toNat * szN 3)))) (.pointer (some (Addr.add (Addr.add ⟨b, 0, none⟩ ((i : Int).toNat * szN 3)) 2))) (.slice (some ⟨b2, 0, none⟩) x.f2.length cap2) (.int .i64 (j : Int)) (.pointer (some (Addr.add ⟨b2, 0, none⟩ ((j : Int).toNat * szN 0)))) (.slice A4 way.length c4) (.pointer (some (Addr.add ⟨b2, 0, none⟩ ((j : Int).toNat * szN 0)))) way.length) (hG way.length (way.map (.int .i64)) ((b2, true, orow 26 1 x.f2.length cap2 vs) :: (b, true, orow 43 3 r.length cap (cells.set i (recC x (.slice (some ⟨b2, 0, none⟩) x.f2.length cap2))).flatten) :: F') (fun b7 c7 => (b2, true, orow 26 1 x.f2.length cap2 (vs.set j (.slice (some ⟨b7, 0, none⟩) way.length c7))) :: (b, true, orow 43 3 r.length cap (cells.set i (recC x (.slice (some ⟨b2, 0, none⟩) x.f2.length cap2))).flatten) :: F')) okG .s0 ?_ rfl (fun g => rfl) T_.mixed rfl rfl rfl rfl ?_ ?_
      · simp [okG]
      · apply DrawG.pure (fun L g h => by cases g <;> first | exact fun j hj => List.mem_cons_of_mem _ (h j hj) | simpa [okG] using h)
        · intro L g hg hi hd τ
          cases g
          all_goals first
            | exact absurd (hg 0 (by decide)) hi
            | (refine ⟨_, rfl, ?_⟩
               refine xo_mv rfl rfl rfl ?_
               exact xo_fin rfl)
        apply DrawG.pure (fun L g h => by cases g <;> first | exact fun j hj => List.mem_cons_of_mem _ (h j hj) | simpa [okG] using h)
        · intro L g hg hi hd τ
          cases g
          all_goals first
            | exact absurd (hg 1 (by decide)) hi
            | (refine ⟨_, rfl, ?_⟩
               refine xo_mv rfl rfl rfl ?_
               exact xo_fin rfl)
        apply DrawG.pure (fun L g h => by cases g <;> first | exact fun j hj => List.mem_cons_of_mem _ (h j hj) | simpa [okG] using h)
        · intro L g hg hi hd τ
          cases g
          all_goals first
            | exact absurd (hg 2 (by decide)) hi
            | (refine ⟨_, rfl, ?_⟩
               refine xo_ia T_ rfl rfl rfl rfl rfl ⟨by omega, by omega⟩ rfl ?_
               exact xo_fin rfl)
        apply DrawG.pure (fun L g h => by cases g <;> first | exact fun j hj => List.mem_cons_of_mem _ (h j hj) | simpa [okG] using h)
        · intro L g hg hi hd τ
          cases g
          all_goals first
            | exact absurd (hg 3 (by decide)) hi
            | (refine ⟨_, rfl, ?_⟩
               refine xo_faR T_ rfl rfl rfl rfl rfl ?_
               exact xo_fin rfl)
        apply DrawG.pure (fun L g h => by cases g <;> first | exact fun j hj => List.mem_cons_of_mem _ (h j hj) | simpa [okG] using h)
        · intro L g hg hi hd τ
          cases g
          all_goals first
            | exact absurd (hg 4 (by decide)) hi
            | (refine ⟨_, rfl, ?_⟩
               refine xo_loadZ T_ (k := i * 3 + 2) rfl rfl rfl (ad3 _ _ _) (by repeat (first | exact List.Mem.head _ | apply List.Mem.tail | apply List.mem_append_right)) hcat rfl ?_
               exact xo_fin rfl)
        apply DrawG.pure (fun L g h => by cases g <;> first | exact fun j hj => List.mem_cons_of_mem _ (h j hj) | simpa [okG] using h)
        · intro L g hg hi hd τ
          cases g
          all_goals first
            | exact absurd (hg 5 (by decide)) hi
            | (refine ⟨_, rfl, ?_⟩
               refine xo_mv rfl rfl rfl ?_
               exact xo_fin rfl)
        apply DrawG.cons
        · intro L g hg hi hd τ
          rcases g with _ | b6 | ⟨b6, b7, c7⟩ | ⟨b6, b7, c7⟩
          · refine xo_bs0 T_ 1 rfl rfl rfl rfl (fun b6 => ?_)
            exact xo_nil fun a w1 ha hw1 => ⟨.s1 b6, ⟨List.mem_cons_self .., (by simpa using hg.2.1), (by simpa using hg.2.2)⟩, (fun k hk => vsG_same (fun e => absurd (e ▸ hk) hg.1) (fun e => absurd (e ▸ hk) hg.2.1)), ⟨_, rfl, ha⟩, hw1⟩
          · exact absurd hg.1 hi
          · exact absurd hg.1 hi
          · exact absurd (hg 6 (by decide)) hi
        apply DrawG.pure (fun L g h => by cases g <;> first | exact fun j hj => List.mem_cons_of_mem _ (h j hj) | simpa [okG] using h)
        · intro L g hg hi hd τ
          cases g
          all_goals first
            | exact absurd (hg 7 (by decide)) hi
            | (refine ⟨_, rfl, ?_⟩
               refine xo_mv rfl rfl rfl ?_
               exact xo_fin rfl)
        apply DrawG.pure (fun L g h => by cases g <;> first | exact fun j hj => List.mem_cons_of_mem _ (h j hj) | simpa [okG] using h)
        · intro L g hg hi hd τ
          cases g
          all_goals first
            | exact absurd (hg 8 (by decide)) hi
            | (refine ⟨_, rfl, ?_⟩
               refine xo_mv rfl rfl rfl ?_
               exact xo_fin rfl)
        apply DrawG.pure (fun L g h => by cases g <;> first | exact fun j hj => List.mem_cons_of_mem _ (h j hj) | simpa [okG] using h)
        · intro L g hg hi hd τ
          cases g
          all_goals first
            | exact absurd (hg 9 (by decide)) hi
            | (refine ⟨_, rfl, ?_⟩
               refine xo_ia T_ rfl rfl rfl rfl rfl ⟨by omega, by omega⟩ rfl ?_
               exact xo_fin rfl)
        apply DrawG.pure (fun L g h => by cases g <;> first | exact fun j hj => List.mem_cons_of_mem _ (h j hj) | simpa [okG] using h)
        · intro L g hg hi hd τ
          cases g
          all_goals first
            | exact absurd (hg 10 (by decide)) hi
            | (refine ⟨_, rfl, ?_⟩
               refine xo_faR T_ rfl rfl rfl rfl rfl ?_
               exact xo_fin rfl)
        apply DrawG.pure (fun L g h => by cases g <;> first | exact fun j hj => List.mem_cons_of_mem _ (h j hj) | simpa [okG] using h)
        · intro L g hg hi hd τ
          cases g
          all_goals first
            | exact absurd (hg 11 (by decide)) hi
            | (refine ⟨_, rfl, ?_⟩
               refine xo_loadZ T_ (k := i * 3 + 2) rfl rfl rfl (ad3 _ _ _) (by repeat (first | exact List.Mem.head _ | apply List.Mem.tail | apply List.mem_append_right)) hcat rfl ?_
               exact xo_fin rfl)
        apply DrawG.pure (fun L g h => by cases g <;> first | exact fun j hj => List.mem_cons_of_mem _ (h j hj) | simpa [okG] using h)
        · intro L g hg hi hd τ
          cases g
          all_goals first
            | exact absurd (hg 12 (by decide)) hi
            | (refine ⟨_, rfl, ?_⟩
               refine xo_mv rfl rfl rfl ?_
               exact xo_fin rfl)
        apply DrawG.pure (fun L g h => by cases g <;> first | exact fun j hj => List.mem_cons_of_mem _ (h j hj) | simpa [okG] using h)
        · intro L g hg hi hd τ
          cases g
          all_goals first
            | exact absurd (hg 13 (by decide)) hi
            | (refine ⟨_, rfl, ?_⟩
               refine xo_ia T_ rfl rfl rfl rfl rfl ⟨by omega, by omega⟩ rfl ?_
               exact xo_fin rfl)
        apply DrawG.pure (fun L g h => by cases g <;> first | exact fun j hj => List.mem_cons_of_mem _ (h j hj) | simpa [okG] using h)
        · intro L g hg hi hd τ
          cases g
          all_goals first
            | exact absurd (hg 14 (by decide)) hi
            | (refine ⟨_, rfl, ?_⟩
               refine xo_loadZ T_ (k := j) rfl rfl rfl (ad1 _ _) (by repeat (first | exact List.Mem.head _ | apply List.Mem.tail | apply List.mem_append_right)) hu1 rfl ?_
               exact xo_fin rfl)
        apply DrawG.cons
        · intro L g hg hi hd τ
          rcases g with _ | b6 | ⟨b6, b7, c7⟩ | ⟨b6, b7, c7⟩
          · exact absurd (hd 6 (by decide)) hg.1
          · refine xo_appE TR_ rfl rfl rfl rfl rfl rfl rfl rfl (by simp) hA4 (fun p e w1 hw1 k u hk => hw1.kx.cell (hi5 p e k u hk) (fun h => h)) (fun u hu => by obtain ⟨n, _, rfl⟩ := List.mem_map.1 hu; rfl) (by omega) rfl rfl (fun b7 c7 => ?_)
            exact xo_nil fun a w1 ha hw1 => ⟨.s2 b6 b7 c7, ⟨List.mem_cons_of_mem _ hg.1, List.mem_cons_self .., (by simpa using hg.2.2)⟩, (fun k hk => vsG_same (fun _ => rfl) (fun e => absurd (e ▸ hk) hg.2.1)), ⟨_, rfl, ha⟩, hw1⟩
          · exact absurd hg.2.1 hi
          · exact absurd (hg 15 (by decide)) hi
        apply DrawG.pure (fun L g h => by cases g <;> first | exact fun j hj => List.mem_cons_of_mem _ (h j hj) | simpa [okG] using h)
        · intro L g hg hi hd τ
          cases g
          all_goals first
            | exact absurd (hg 16 (by decide)) hi
            | (refine ⟨_, rfl, ?_⟩
               refine xo_ia T_ rfl rfl rfl rfl rfl ⟨by omega, by omega⟩ rfl ?_
               exact xo_fin rfl)
        apply DrawG.cons
        · intro L g hg hi hd τ
          rcases g with _ | b6 | ⟨b6, b7, c7⟩ | ⟨b6, b7, c7⟩
          · exact absurd (hd 6 (by decide)) hg.1
          · exact absurd (hd 15 (by decide)) hg.2.1
          · have h17 : ∀ k, k < 17 → k ∈ L := fun k hk => hd k (by revert k; decide)
            refine xo_storeZ T_ (k := j) rfl rfl rfl (ad1 _ _) rfl (by repeat (first | exact List.Mem.head _ | apply List.Mem.tail | apply List.mem_append_right)) rfl rfl (by omega) (Upd.tail Upd.head) rfl ?_
            exact xo_nil fun a w1 ha hw1 => ⟨.s3 b6 b7 c7, (fun k hk => by by_cases e : k = 17; · subst e; exact List.mem_cons_self ..
                                                                           · exact List.mem_cons_of_mem _ (h17 k (by omega))), (fun k hk => vsG_same (fun _ => rfl) (fun _ => ⟨rfl, rfl⟩)), ⟨undef, rfl, ha⟩, hw1⟩
          · exact absurd (hg 17 (by decide)) hi
        exact DrawG.nil
      intro L g hg hall
      rcases g with _ | b6 | ⟨b6, b7, c7⟩ | ⟨b6, b7, c7⟩
      · exact absurd (hall 6 (by decide)) hg.1
      · exact absurd (hall 15 (by decide)) hg.2.1
      · exact absurd (hall 17 (by decide)) hg.2.2
      with_reducible repeat (first | refine xq_then ?_ | refine xq_blockN ?_ | refine xq_scopeN ?_)
      with_reducible repeat refine xc_seq ?_
      with_reducible refine xc_region ?_
      refine xo_mv rfl rfl rfl ?_
      refine xo_add rfl rfl rfl (by omega) rfl ?_
      refine xo_asg rfl rfl rfl ?_
      with_reducible refine xo_nil ?_
      with_reducible repeat (first | refine xq_then ?_ | refine xq_blockN ?_ | refine xq_scopeN ?_)
      refine xq_perm ((List.Perm.swap _ _ _).trans (List.Perm.cons _ (List.Perm.swap _ _ _))) (xq_again _ _ _ _ _ (j + 1, (b7, true, orow 3 1 way.length c7 (way.map (.int .i64))) :: F', vs.set j (.slice (some ⟨b7, 0, none⟩) way.length c7)) ⟨by omega, by simpa using hvl2, fun e he => List.mem_cons_of_mem _ (hFF e he), fun k hk => ?_⟩ (by first | omega | (simp only; omega)) ⟨rfl, rfl, rfl, trivial⟩ (List.Sublist.refl _))
      simp only
      by_cases e : k = j
      · subst e
        rw [hway]
        exact ⟨_, List.getElem?_set_self (by omega), fun _ => ⟨b7, c7, rfl, List.mem_cons_self ..⟩, fun h => absurd h (by omega)⟩
      · obtain ⟨u, h1, h2, h3⟩ := hvs k hk
        exact ⟨u, by rw [List.getElem?_set_ne (fun q => e q.symm)]; exact h1, fun h => (h2 (by omega)).mono (fun e he => List.mem_cons_of_mem _ he), fun h => h3 (by omega)⟩
    · have hge : ¬ j < x.f2.length := by have := of_decide_eq_false h; omega
      with_reducible refine xc_exit ?_
      with_reducible repeat (first | refine xq_blockX ?_ | refine xq_thenE ?_ | refine xq_blockE rfl ?_ | refine xq_scopeE ?_)
      with_reducible repeat (first | refine xq_then ?_ | refine xq_blockN ?_ | refine xq_scopeN ?_)
      with_reducible repeat refine xc_seq ?_
      with_reducible refine xc_region ?_
      refine xo_mv rfl rfl rfl ?_
      refine xo_add rfl rfl rfl (by omega) rfl ?_
      refine xo_asg rfl rfl rfl ?_
      with_reducible refine xo_nil ?_
      with_reducible repeat (first | refine xq_then ?_ | refine xq_blockN ?_ | refine xq_scopeN ?_)
      refine xq_perm (List.Perm.swap _ _ _) (xq_again _ _ _ _ _ (i + 1, (b2, true, orow 26 1 x.f2.length cap2 vs) :: F', cells.set i (recC x (.slice (some ⟨b2, 0, none⟩) x.f2.length cap2))) ⟨hil, by simpa using hcl, fun k hk => ?_⟩ (by first | omega | (simp only; omega)) ⟨rfl, rfl, trivial⟩ (List.Sublist.refl _))
      simp only
      by_cases e : k = i
      · subst e
        rw [hx]
        refine ⟨_, List.getElem?_set_self (by omega), fun _ => ⟨b2, cap2, vs, rfl, List.mem_cons_self .., hvl2, fun k u hk hu => ?_⟩, fun h => absurd h (by omega)⟩
        obtain ⟨u', h1, h2, _⟩ := hvs k hk
        rw [hu] at h1
        cases h1
        exact (h2 (by omega)).mono (fun e he => List.mem_cons_of_mem _ he)
      · obtain ⟨v, h1, h2, h3⟩ := hcs k hk
        exact ⟨v, by rw [List.getElem?_set_ne (fun q => e q.symm)]; exact h1, fun h => (h2 (by omega)).mono (fun e he => List.mem_cons_of_mem _ (hFF e he)), fun h => h3 (by omega)⟩
  · have hge : ¬ i < r.length := by have := of_decide_eq_false h; omega
    with_reducible refine xc_exit ?_
    with_reducible repeat (first | refine xq_blockX ?_ | refine xq_thenE ?_ | refine xq_blockE rfl ?_ | refine xq_scopeE ?_)
    with_reducible repeat (first | refine xq_then ?_ | refine xq_blockN ?_ | refine xq_scopeN ?_)
    with_reducible repeat refine xc_seq ?_
    with_reducible refine xc_region ?_
    refine xo_mv rfl rfl rfl ?_
    refine xo_asg rfl rfl rfl ?_
    with_reducible refine xo_nil ?_
    with_reducible repeat (first | refine xq_then ?_ | refine xq_blockN ?_ | refine xq_scopeN ?_)
    with_reducible repeat refine xc_seq ?_
    with_reducible refine xc_ret ?_
    with_reducible repeat (first | refine xq_thenR ?_ | refine xq_blockR ?_ | refine xq_scopeR ?_)
    refine xq_ret1 rfl rfl fun w' hw => ?_
    obtain ⟨o, h1, h2⟩ := hw.bl _ (List.Mem.head _)
    have hcap : r.length ≤ cap := by obtain ⟨_, _, h5, _⟩ := h2; exact h5
    refine ⟨b, cap, rfl, hw.kx.below, hcap, C_row (d := recK) (cells := cells) (cap := cap) h1 (e := 43) (by rw [hcl]; exact h2) hcl hcl3 (fun j x cs hx hc => ?_) (by omega)⟩
    have hj : j < r.length := (List.getElem?_eq_some_iff.1 hx).1
    have hxd : r.getD j zRec = x := by simp [List.getD_eq_getElem?_getD, hx]
    obtain ⟨v, h3, h4, _⟩ := hcs j hj
    obtain ⟨hx6, hx8⟩ := hways j hj
    rw [hc] at h3
    cases h3
    have h5 := h4 (by omega)
    rw [hxd] at h5 hx6 hx8 ⊢
    obtain ⟨A3, c3, rfl, h6, h7⟩ := h5.C (hw.sub (List.sublist_cons_self _ _)) (by omega) (fun k hk => by have := hx8 k hk; omega)
    exact k43_mk w' x h6 h7
theorem twin_enters : ∀ args w, (callFunc 6 args).run Try.prog w = .ok (.enter 6 args) w := enters_of Try.func6 (by kernel_rfl) rfl
end Go.Proofs.Ytcmepdamemnbkaa
