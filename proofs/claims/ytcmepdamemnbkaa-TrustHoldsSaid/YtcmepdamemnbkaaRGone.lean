/- ref08.Gone. -/
import Derived.Test.YtcmepdamemnbkaaRCheck
namespace Go.Proofs.Ytcmepdamemnbkaa
open Go.RowKit Go.Proofs.YtcmepdamemnbkaaW.PrintWords
set_option linter.unusedVariables false
set_option linter.unusedSimpArgs false
/-- a row of truths that is filled from the front -/
def fillB (f : Nat → Bool) (n k : Nat) : List Bool := (List.range n).map fun i => decide (i < k) && f i
theorem fillB_len (f : Nat → Bool) (n k : Nat) : (fillB f n k).length = n := by simp [fillB]
theorem fillB_zero (f : Nat → Bool) (n : Nat) : fillB f n 0 = List.replicate n false := by
  apply List.ext_getElem?
  intro i
  by_cases h : i < n <;> simp [fillB, h, List.getElem?_replicate]
theorem fillB_get (f : Nat → Bool) (n k i : Nat) (h : i < n) : (fillB f n k)[i]? = some (decide (i < k) && f i) := by
  simp [fillB, List.getElem?_map, List.getElem?_range h]
theorem fillB_set (f : Nat → Bool) (n k : Nat) : (fillB f n k).set k (f k) = fillB f n (k + 1) := by
  apply List.ext_getElem?
  intro i
  rw [List.getElem?_set]
  by_cases h : i < n
  · rw [fillB_get _ _ _ _ h, fillB_get _ _ _ _ h]
    by_cases e : k = i
    · subst e; simp [fillB_len, h]
    · simp only [e, if_false]
      congr 2
      rw [Bool.eq_iff_iff]
      simp only [decide_eq_true_eq]
      omega
  · have h1 : (fillB f n k)[i]? = none := by rw [List.getElem?_eq_none_iff, fillB_len]; omega
    have h2 : (fillB f n (k + 1))[i]? = none := by rw [List.getElem?_eq_none_iff, fillB_len]; omega
    rw [h1, h2]
    by_cases e : k = i
    · subst e; simp [fillB_len, h]
    · simp [e]
theorem fill_upd {b : Nat} {te : TypeId} {f : Nat → Bool} {n k : Nat} {v : Bool} {η : Hp} (hv : v = f k) : Upd b (cel (((fillB f n k).map Value.bool).set (0 + (k : Int).toNat * szN 0) (.bool v)) te) ((b, true, cel ((fillB f n k).map Value.bool) te) :: η) ((b, true, cel ((fillB f n (k + 1)).map Value.bool) te) :: η) := by
  subst hv
  rw [show 0 + (k : Int).toNat * szN 0 = k by simp [szN], ← List.map_set, fillB_set]
  exact Upd.head
theorem fill_lt {f : Nat → Bool} {n k : Nat} (h : k < n) : 0 + (k : Int).toNat * szN 0 < ((fillB f n k).map Value.bool).length := by
  rw [List.length_map, fillB_len]
  simpa [szN] using h
theorem fill_all (f : Int → Bool) (r : List RecT) : fillB (fun i => f (idAt r i)) r.length r.length = r.map fun x => f x.f0 := by
  apply List.ext_getElem?
  intro i
  by_cases h : i < r.length
  · rw [fillB_get _ _ _ _ h]
    simp [h, idAt, List.getD_eq_getElem?_getD, List.getElem?_eq_getElem h]
  · have h1 : (fillB (fun i => f (idAt r i)) r.length r.length)[i]? = none := by rw [List.getElem?_eq_none_iff, fillB_len]; omega
    rw [h1, List.getElem?_map, List.getElem?_eq_none_iff.2 (by omega)]
    rfl
/-- a row of truths of the call's own, as it is read -/
theorem C_celB {w0 : World} {X : Nat → Prop} {η : Hp} {w : World} (hw : WOK w0 X η w) {b : Nat} {wr : Bool} {xs : List Bool} {t : TypeId} (hm : (b, wr, cel (xs.map .bool) t) ∈ η) (hl : xs.length ≤ 9223372036854775807) : Kd.C Kd.bool w (some ⟨b, 0, none⟩) xs.length xs := by
  refine ⟨rfl, hl, fun _ => ⟨_, rfl, fun j p hj => ⟨[.bool p], rfl, rfl, fun i u hu => ?_⟩⟩⟩
  have hi : i = 0 := by
    have := (List.getElem?_eq_some_iff.1 hu).1
    simpa using this
  subst hi
  simp at hu
  subst hu
  rw [Addr.add_lit]
  refine hw.cell hm _ ?_
  simp [Kd.bool, Kd.scalar, hj]
theorem bool_at {w : World} {A : Option Addr} {n : Nat} {zs : List Bool} (h : Kd.C Kd.bool w A n zs) (k : Nat) (hk : k < n) : ∃ ad, A = some ad ∧ RO w XNone (ad.add ((k : Int).toNat * szN 0)) [.bool (zs.getD k false)] := by
  obtain ⟨ad, cs, e, _, hK, hR⟩ := at_of h false k hk
  have hcs : cs = [.bool (zs.getD k false)] := hK
  subst hcs
  exact ⟨ad, e, by simpa [szN, Kd.bool, Kd.scalar] using hR⟩
def goneBs (r : List RecT) (l : List LetT) (day : Int) : List Bool := r.map fun x => goneB l day x.f0
theorem split4 (c1 c2 c3 c4 : Bool) : (c1 = false ∧ (c1 && c2 && (c3 || c4)) = false) ∨ (c1 = true ∧ c2 = false ∧ (c1 && c2 && (c3 || c4)) = false) ∨ (c1 = true ∧ c2 = true ∧ c3 = true ∧ (c1 && c2 && (c3 || c4)) = true)
    ∨ (c1 = true ∧ c2 = true ∧ c3 = false ∧ c4 = true ∧ (c1 && c2 && (c3 || c4)) = true) ∨ (c1 = true ∧ c2 = true ∧ c3 = false ∧ c4 = false ∧ (c1 && c2 && (c3 || c4)) = false) := by
  cases c1 <;> cases c2 <;> cases c3 <;> cases c4 <;> simp
set_option maxHeartbeats 16000000 in
theorem gone_calls (A B : Option Addr) (c c' : Nat) (r : List RecT) (l : List LetT) (day : Int) (w : World) (hr : Kd.C recK w A r.length r) (hl : Kd.C letK w B l.length l) (hlen : r.length ≤ 1000000) (hkl : BytesL l) :
    Calls Try.prog 26 #[.slice A r.length c, .slice B l.length c', .int .i64 day] w fun e w' => ∃ b o, e = .returned (.slice (some ⟨b, 0, none⟩) r.length r.length) ∧ Below w.heap.size w w' ∧ w.heap.size ≤ b ∧ w'.heap[b]? = some o ∧ cel ((goneBs r l day).map .bool) 4 o := by
  have hn := hl.2.1
  refine x_calls (X := XNone) Try.func26 rfl rfl rfl ?_
  with_reducible repeat refine xc_seq ?_
  with_reducible refine xc_region ?_
  refine xo_asg rfl rfl rfl ?_
  with_reducible refine xo_nil ?_
  with_reducible repeat (first | refine xq_then ?_ | refine xq_blockN ?_ | refine xq_scopeN ?_)
  with_reducible repeat refine xc_seq ?_
  with_reducible refine xc_region ?_
  refine xo_mv rfl rfl rfl ?_
  refine xo_len T_ rfl rfl rfl rfl ?_
  refine xo_mks TR_ rfl rfl rfl rfl rfl rfl (by omega) (by omega) rfl (fun b7 => ?_)
  refine xo_asg rfl rfl rfl ?_
  with_reducible refine xo_nil ?_
  with_reducible repeat (first | refine xq_then ?_ | refine xq_blockN ?_ | refine xq_scopeN ?_)
  with_reducible repeat refine xc_seq ?_
  with_reducible refine xc_region ?_
  refine xo_asg rfl rfl rfl ?_
  with_reducible refine xo_nil ?_
  with_reducible repeat (first | refine xq_then ?_ | refine xq_blockN ?_ | refine xq_scopeN ?_)
  with_reducible repeat refine xc_seq ?_
  with_reducible refine xc_block ?_
  refine xc_loop (γ := Nat) (fun k => k ≤ r.length) (fun k => [(0, .slice A r.length c), (1, .slice B l.length c'), (2, .int .i64 day), (7, .slice (some ⟨b7, 0, none⟩) r.length r.length), (8, .int .i64 (k : Int))])
    (fun k => [(b7, true, cel ((fillB (fun i => goneB l day (idAt r i)) r.length k).map .bool) 4)]) (fun k => r.length - k) 0 (Nat.zero_le _) ⟨rfl, rfl, rfl, rfl, rfl, trivial⟩ (by rw [fillB_zero, List.map_replicate]; exact List.Sublist.refl _) ?_
  intro k hk1
  with_reducible repeat refine xc_seq ?_
  with_reducible refine xc_region ?_
  refine xo_mv rfl rfl rfl ?_
  refine xo_mv rfl rfl rfl ?_
  refine xo_len T_ rfl rfl rfl rfl ?_
  refine xo_lss rfl rfl rfl rfl ?_
  with_reducible refine xo_nil ?_
  with_reducible repeat (first | refine xq_then ?_ | refine xq_blockN ?_ | refine xq_scopeN ?_)
  with_reducible repeat refine xc_seq ?_
  refine xc_cond rfl (fun h => ?_) (fun h => ?_)
  · have hlt : k < r.length := by have := of_decide_eq_true h; omega
    obtain ⟨ad, A2, c2, rfl, r1, hc2, hw2⟩ := rec_at hr k hlt
    have hid : idAt r k = (r.getD k zRec).f0 := rfl
    generalize r.getD k zRec = x at *
    with_reducible refine xc_skip ?_
    with_reducible repeat (first | refine xq_then ?_ | refine xq_blockN ?_ | refine xq_scopeN ?_)
    with_reducible repeat refine xc_seq ?_
    with_reducible refine xc_block ?_
    with_reducible repeat refine xc_seq ?_
    with_reducible refine xc_region ?_
    refine xo_asg rfl rfl rfl ?_
    with_reducible refine xo_nil ?_
    with_reducible repeat (first | refine xq_then ?_ | refine xq_blockN ?_ | refine xq_scopeN ?_)
    with_reducible repeat refine xc_seq ?_
    with_reducible refine xc_region ?_
    refine xo_asg rfl rfl rfl ?_
    with_reducible refine xo_nil ?_
    with_reducible repeat (first | refine xq_then ?_ | refine xq_blockN ?_ | refine xq_scopeN ?_)
    with_reducible repeat refine xc_seq ?_
    with_reducible refine xc_block ?_
    refine xc_loop (γ := Nat × Int) (fun q => q.1 ≤ l.length ∧ ∃ s : LetT × Bool, lastF l day x.f0 = latF (fun y => decide (y.f2 = x.f0) && decide (y.f1 ≤ day)) (fun y => y.f1) s (l.drop q.1) ∧ ((q.2 = -1 ∧ s.2 = false) ∨ ∃ jj : Nat, jj < l.length ∧ q.2 = (jj : Int) ∧ s = (l.getD jj zLet, true)))
      (fun q => [(0, .slice (some ad) r.length c), (1, .slice B l.length c'), (2, .int .i64 day), (7, .slice (some ⟨b7, 0, none⟩) r.length r.length), (8, .int .i64 (k : Int)), (9, .int .i64 q.2), (10, .int .i64 (q.1 : Int))])
      (fun _ => [(b7, true, cel ((fillB (fun i => goneB l day (idAt r i)) r.length k).map .bool) 4)]) (fun q => l.length - q.1) (0, -1) ⟨Nat.zero_le _, (zLet, false), rfl, .inl ⟨rfl, rfl⟩⟩ ⟨rfl, rfl, rfl, rfl, rfl, rfl, rfl, trivial⟩ (by repeat (first | exact List.Sublist.refl _ | apply List.Sublist.cons_cons | apply List.Sublist.cons | exact List.nil_sublist _)) ?_
    rintro ⟨j, best⟩ ⟨hj1, s, hlat, hs⟩
    simp only at hj1 hlat hs ⊢
    with_reducible repeat refine xc_seq ?_
    with_reducible refine xc_region ?_
    refine xo_mv rfl rfl rfl ?_
    refine xo_mv rfl rfl rfl ?_
    refine xo_len T_ rfl rfl rfl rfl ?_
    refine xo_lss rfl rfl rfl rfl ?_
    with_reducible refine xo_nil ?_
    with_reducible repeat (first | refine xq_then ?_ | refine xq_blockN ?_ | refine xq_scopeN ?_)
    with_reducible repeat refine xc_seq ?_
    refine xc_cond rfl (fun h => ?_) (fun h => ?_)
    · have hjl : j < l.length := by have := of_decide_eq_true h; omega
      obtain ⟨bd, rfl, r2⟩ := let_at hl j hjl
      rw [drop_at l zLet j hjl] at hlat
      have hyj : l.getD j zLet = l.getD j zLet := rfl
      generalize hy : l.getD j zLet = y at *
      have hbest : decide (best < 0) = true ∨ (decide (best < 0) = false ∧ ∃ yb, 0 ≤ best ∧ best < (l.length : Int) ∧ s = (yb, true) ∧ RO w XNone (bd.add (best.toNat * szN 4)) (letV yb)) := by
        rcases hs with ⟨rfl, _⟩ | ⟨jj, hjj, rfl, rfl⟩
        · exact .inl rfl
        · obtain ⟨bd2, e, r3⟩ := let_at hl jj hjj
          cases e
          exact .inr ⟨decide_eq_false (by omega), _, by omega, by omega, rfl, r3⟩
      have hT : ∃ T, latStep (fun y => decide (y.f2 = x.f0) && decide (y.f1 ≤ day)) (fun y => y.f1) s y = (if T = true then (y, true) else s) ∧ T = (decide (y.f2 = x.f0) && decide (y.f1 ≤ day) && (decide (best < 0) || decide (s.1.f1 ≤ y.f1))) := by
        refine ⟨_, ?_, rfl⟩
        rcases hs with ⟨rfl, h2⟩ | ⟨jj, hjj, rfl, rfl⟩
        · simp [latStep, h2]
        · simp only [latStep, Bool.not_true, Bool.false_or]
          rw [decide_eq_false (by omega : ¬ ((jj : Int) < 0))]
          simp
      obtain ⟨T, hT1, hT2⟩ := hT
      with_reducible refine xc_skip ?_
      with_reducible repeat (first | refine xq_then ?_ | refine xq_blockN ?_ | refine xq_scopeN ?_)
      with_reducible repeat refine xc_seq ?_
      with_reducible refine xc_block ?_
      refine xc_cut (γ := Unit) (fun _ => True) (fun _ => [(0, .slice (some ad) r.length c), (1, .slice (some bd) l.length c'), (2, .int .i64 day), (7, .slice (some ⟨b7, 0, none⟩) r.length r.length), (8, .int .i64 (k : Int)), (9, .int .i64 best), (10, .int .i64 (j : Int)), (62, .bool T)])
        (fun _ => [(b7, true, cel ((fillB (fun i => goneB l day (idAt r i)) r.length k).map .bool) 4)]) ?_ (fun _ _ => ?_)
      · rcases split4 (decide (y.f2 = x.f0)) (decide (y.f1 ≤ day)) (decide (best < 0)) (decide (s.1.f1 ≤ y.f1)) with ⟨h1, hB⟩ | ⟨h1, h2, hB⟩ | ⟨h1, h2, h3, hB⟩ | ⟨h1, h2, h3, h4, hB⟩ | ⟨h1, h2, h3, h4, hB⟩
        all_goals
          rw [hB] at hT2
          subst hT2
        rotate_left 3
        iterate 2
          rcases hbest with h | ⟨_, yb, hb0, hb1, rfl, r3⟩
          · rw [h3] at h; cases h
          · with_reducible repeat refine xc_seq ?_
            apply xc_drawN
            · exact T_.mixed
            · rfl
            · rfl
            · rfl
            · rfl
            · apply DrawOps.cons
              · intro τ
                refine xo_mv rfl rfl rfl ?_
                exact xo_fin rfl
              apply DrawOps.cons
              · intro τ
                refine xo_mv rfl rfl rfl ?_
                exact xo_fin rfl
              apply DrawOps.cons
              · intro τ
                refine xo_ia T_ rfl rfl rfl rfl rfl ⟨by omega, by omega⟩ rfl ?_
                exact xo_fin rfl
              apply DrawOps.cons
              · intro τ
                refine xo_faR T_ rfl rfl rfl rfl rfl ?_
                exact xo_fin rfl
              apply DrawOps.cons
              · intro τ
                refine xo_loadR0 T_ rfl rfl rfl (by first | assumption | exact RO.fld (by assumption) rfl) rfl ?_
                exact xo_fin rfl
              apply DrawOps.cons
              · intro τ
                refine xo_mv rfl rfl rfl ?_
                exact xo_fin rfl
              apply DrawOps.cons
              · intro τ
                refine xo_mv rfl rfl rfl ?_
                exact xo_fin rfl
              apply DrawOps.cons
              · intro τ
                refine xo_ia T_ rfl rfl rfl rfl rfl ⟨by omega, by omega⟩ rfl ?_
                exact xo_fin rfl
              apply DrawOps.cons
              · intro τ
                refine xo_faR T_ rfl rfl rfl rfl rfl ?_
                exact xo_fin rfl
              apply DrawOps.cons
              · intro τ
                refine xo_loadR0 T_ rfl rfl rfl (by first | assumption | exact RO.fld (by assumption) rfl) rfl ?_
                exact xo_fin rfl
              apply DrawOps.cons
              · intro τ
                refine xo_eql rfl rfl rfl rfl ?_
                first
                  | exact xo_fin (congrArg Value.bool h1)
                  | exact xo_fin rfl
              apply DrawOps.cons
              · intro τ
                refine xo_mv rfl rfl rfl ?_
                exact xo_fin rfl
              apply DrawOps.cons
              · intro τ
                first
                  | refine xo_not rfl rfl ?_
                  | (refine xo_mv rfl rfl rfl ?_)
                exact xo_fin rfl
              apply DrawOps.cons
              · intro τ
                first
                  | refine xo_not rfl rfl ?_
                  | (refine xo_mv rfl rfl rfl ?_)
                exact xo_fin rfl
              apply DrawOps.cons
              · intro τ
                first
                  | refine xo_not rfl rfl ?_
                  | (refine xo_ia T_ rfl rfl rfl rfl rfl ⟨by omega, by omega⟩ rfl ?_)
                exact xo_fin rfl
              apply DrawOps.cons
              · intro τ
                first
                  | refine xo_not rfl rfl ?_
                  | (refine xo_faR T_ rfl rfl rfl rfl rfl ?_)
                exact xo_fin rfl
              apply DrawOps.cons
              · intro τ
                first
                  | refine xo_not rfl rfl ?_
                  | (refine xo_loadR0 T_ rfl rfl rfl (by first | assumption | exact RO.fld (by assumption) rfl) rfl ?_)
                exact xo_fin rfl
              apply DrawOps.cons
              · intro τ
                first
                  | refine xo_not rfl rfl ?_
                  | (refine xo_mv rfl rfl rfl ?_)
                exact xo_fin rfl
              apply DrawOps.cons
              · intro τ
                first
                  | refine xo_not rfl rfl ?_
                  | (refine xo_leq rfl rfl rfl rfl ?_)
                first
                  | exact xo_fin (congrArg Value.bool h2)
                  | exact xo_fin rfl
              apply DrawOps.cons
              · intro τ
                first | refine xo_pickT rfl rfl rfl rfl ?_ | refine xo_pickF rfl rfl rfl rfl ?_
                exact xo_fin rfl
              apply DrawOps.cons
              · intro τ
                refine xo_mv rfl rfl rfl ?_
                exact xo_fin rfl
              apply DrawOps.cons
              · intro τ
                first
                  | refine xo_not rfl rfl ?_
                  | (refine xo_mv rfl rfl rfl ?_)
                exact xo_fin rfl
              apply DrawOps.cons
              · intro τ
                first
                  | refine xo_not rfl rfl ?_
                  | (refine xo_lss rfl rfl rfl rfl ?_)
                first
                  | exact xo_fin (congrArg Value.bool h3)
                  | exact xo_fin rfl
              apply DrawOps.cons
              · intro τ
                first
                  | refine xo_not rfl rfl ?_
                  | (refine xo_mv rfl rfl rfl ?_)
                exact xo_fin rfl
              apply DrawOps.cons
              · intro τ
                first
                  | refine xo_not rfl rfl ?_
                  | (refine xo_mv rfl rfl rfl ?_)
                exact xo_fin rfl
              apply DrawOps.cons
              · intro τ
                first
                  | refine xo_not rfl rfl ?_
                  | (refine xo_mv rfl rfl rfl ?_)
                exact xo_fin rfl
              apply DrawOps.cons
              · intro τ
                first
                  | refine xo_not rfl rfl ?_
                  | (refine xo_ia T_ rfl rfl rfl rfl rfl ⟨by omega, by omega⟩ rfl ?_)
                exact xo_fin rfl
              apply DrawOps.cons
              · intro τ
                first
                  | refine xo_not rfl rfl ?_
                  | (refine xo_faR T_ rfl rfl rfl rfl rfl ?_)
                exact xo_fin rfl
              apply DrawOps.cons
              · intro τ
                first
                  | refine xo_not rfl rfl ?_
                  | (refine xo_loadR0 T_ rfl rfl rfl (by first | assumption | exact RO.fld (by assumption) rfl) rfl ?_)
                exact xo_fin rfl
              apply DrawOps.cons
              · intro τ
                first
                  | refine xo_not rfl rfl ?_
                  | (refine xo_mv rfl rfl rfl ?_)
                exact xo_fin rfl
              apply DrawOps.cons
              · intro τ
                first
                  | refine xo_not rfl rfl ?_
                  | (refine xo_mv rfl rfl rfl ?_)
                exact xo_fin rfl
              apply DrawOps.cons
              · intro τ
                first
                  | refine xo_not rfl rfl ?_
                  | (refine xo_ia T_ rfl rfl rfl rfl rfl ⟨by omega, by omega⟩ rfl ?_)
                exact xo_fin rfl
              apply DrawOps.cons
              · intro τ
                first
                  | refine xo_not rfl rfl ?_
                  | (refine xo_faR T_ rfl rfl rfl rfl rfl ?_)
                exact xo_fin rfl
              apply DrawOps.cons
              · intro τ
                first
                  | refine xo_not rfl rfl ?_
                  | (refine xo_loadR0 T_ rfl rfl rfl (by first | assumption | exact RO.fld (by assumption) rfl) rfl ?_)
                exact xo_fin rfl
              apply DrawOps.cons
              · intro τ
                first
                  | refine xo_not rfl rfl ?_
                  | (refine xo_geq rfl rfl rfl rfl ?_)
                first
                  | exact xo_fin (congrArg Value.bool h4)
                  | exact xo_fin rfl
              apply DrawOps.cons
              · intro τ
                first
                  | refine xo_not rfl rfl ?_
                  | (first | refine xo_pickT rfl rfl rfl rfl ?_ | refine xo_pickF rfl rfl rfl rfl ?_)
                exact xo_fin rfl
              apply DrawOps.cons
              · intro τ
                first | refine xo_pickT rfl rfl rfl rfl ?_ | refine xo_pickF rfl rfl rfl rfl ?_
                exact xo_fin rfl
              exact DrawOps.nil
            · rfl
            with_reducible repeat (first | refine xq_then ?_ | refine xq_blockN ?_ | refine xq_scopeN ?_)
            exact xq_meet _ _ _ () trivial ⟨rfl, rfl, rfl, rfl, rfl, rfl, rfl, rfl, trivial⟩ (by repeat (first | exact List.Sublist.refl _ | apply List.Sublist.cons_cons | apply List.Sublist.cons | exact List.nil_sublist _))
        all_goals
          with_reducible repeat refine xc_seq ?_
          apply xc_drawN
          · exact T_.mixed
          · rfl
          · rfl
          · rfl
          · rfl
          · apply DrawOps.cons
            · intro τ
              refine xo_mv rfl rfl rfl ?_
              exact xo_fin rfl
            apply DrawOps.cons
            · intro τ
              refine xo_mv rfl rfl rfl ?_
              exact xo_fin rfl
            apply DrawOps.cons
            · intro τ
              refine xo_ia T_ rfl rfl rfl rfl rfl ⟨by omega, by omega⟩ rfl ?_
              exact xo_fin rfl
            apply DrawOps.cons
            · intro τ
              refine xo_faR T_ rfl rfl rfl rfl rfl ?_
              exact xo_fin rfl
            apply DrawOps.cons
            · intro τ
              refine xo_loadR0 T_ rfl rfl rfl (by first | assumption | exact RO.fld (by assumption) rfl) rfl ?_
              exact xo_fin rfl
            apply DrawOps.cons
            · intro τ
              refine xo_mv rfl rfl rfl ?_
              exact xo_fin rfl
            apply DrawOps.cons
            · intro τ
              refine xo_mv rfl rfl rfl ?_
              exact xo_fin rfl
            apply DrawOps.cons
            · intro τ
              refine xo_ia T_ rfl rfl rfl rfl rfl ⟨by omega, by omega⟩ rfl ?_
              exact xo_fin rfl
            apply DrawOps.cons
            · intro τ
              refine xo_faR T_ rfl rfl rfl rfl rfl ?_
              exact xo_fin rfl
            apply DrawOps.cons
            · intro τ
              refine xo_loadR0 T_ rfl rfl rfl (by first | assumption | exact RO.fld (by assumption) rfl) rfl ?_
              exact xo_fin rfl
            apply DrawOps.cons
            · intro τ
              refine xo_eql rfl rfl rfl rfl ?_
              first
                | exact xo_fin (congrArg Value.bool h1)
                | exact xo_fin rfl
            apply DrawOps.cons
            · intro τ
              refine xo_mv rfl rfl rfl ?_
              exact xo_fin rfl
            apply DrawOps.cons
            · intro τ
              first
                | refine xo_not rfl rfl ?_
                | (refine xo_mv rfl rfl rfl ?_)
              exact xo_fin rfl
            apply DrawOps.cons
            · intro τ
              first
                | refine xo_not rfl rfl ?_
                | (refine xo_mv rfl rfl rfl ?_)
              exact xo_fin rfl
            apply DrawOps.cons
            · intro τ
              first
                | refine xo_not rfl rfl ?_
                | (refine xo_ia T_ rfl rfl rfl rfl rfl ⟨by omega, by omega⟩ rfl ?_)
              exact xo_fin rfl
            apply DrawOps.cons
            · intro τ
              first
                | refine xo_not rfl rfl ?_
                | (refine xo_faR T_ rfl rfl rfl rfl rfl ?_)
              exact xo_fin rfl
            apply DrawOps.cons
            · intro τ
              first
                | refine xo_not rfl rfl ?_
                | (refine xo_loadR0 T_ rfl rfl rfl (by first | assumption | exact RO.fld (by assumption) rfl) rfl ?_)
              exact xo_fin rfl
            apply DrawOps.cons
            · intro τ
              first
                | refine xo_not rfl rfl ?_
                | (refine xo_mv rfl rfl rfl ?_)
              exact xo_fin rfl
            apply DrawOps.cons
            · intro τ
              first
                | refine xo_not rfl rfl ?_
                | (refine xo_leq rfl rfl rfl rfl ?_)
              first
                | exact xo_fin (congrArg Value.bool h2)
                | exact xo_fin rfl
            apply DrawOps.cons
            · intro τ
              first | refine xo_pickT rfl rfl rfl rfl ?_ | refine xo_pickF rfl rfl rfl rfl ?_
              exact xo_fin rfl
            apply DrawOps.cons
            · intro τ
              refine xo_mv rfl rfl rfl ?_
              exact xo_fin rfl
            apply DrawOps.cons
            · intro τ
              first
                | refine xo_not rfl rfl ?_
                | (refine xo_mv rfl rfl rfl ?_)
              exact xo_fin rfl
            apply DrawOps.cons
            · intro τ
              first
                | refine xo_not rfl rfl ?_
                | (refine xo_lss rfl rfl rfl rfl ?_)
              first
                | exact xo_fin (congrArg Value.bool h3)
                | exact xo_fin rfl
            apply DrawOps.cons
            · intro τ
              first
                | refine xo_not rfl rfl ?_
                | (refine xo_mv rfl rfl rfl ?_)
              exact xo_fin rfl
            apply DrawOps.cons
            · intro τ
              first
                | refine xo_not rfl rfl ?_
                | (refine xo_mv rfl rfl rfl ?_)
              exact xo_fin rfl
            apply DrawOps.cons
            · intro τ
              first
                | refine xo_not rfl rfl ?_
                | (refine xo_mv rfl rfl rfl ?_)
              exact xo_fin rfl
            apply DrawOps.cons
            · intro τ
              first
                | refine xo_not rfl rfl ?_
                | (refine xo_ia T_ rfl rfl rfl rfl rfl ⟨by omega, by omega⟩ rfl ?_)
              exact xo_fin rfl
            apply DrawOps.cons
            · intro τ
              first
                | refine xo_not rfl rfl ?_
                | (refine xo_faR T_ rfl rfl rfl rfl rfl ?_)
              exact xo_fin rfl
            apply DrawOps.cons
            · intro τ
              first
                | refine xo_not rfl rfl ?_
                | (refine xo_loadR0 T_ rfl rfl rfl (by first | assumption | exact RO.fld (by assumption) rfl) rfl ?_)
              exact xo_fin rfl
            apply DrawOps.cons
            · intro τ
              first
                | refine xo_not rfl rfl ?_
                | (refine xo_mv rfl rfl rfl ?_)
              exact xo_fin rfl
            apply DrawOps.cons
            · intro τ
              first
                | refine xo_not rfl rfl ?_
                | (refine xo_mv rfl rfl rfl ?_)
              exact xo_fin rfl
            apply DrawOps.cons
            · intro τ
              first
                | refine xo_not rfl rfl ?_
                | (refine xo_ia T_ rfl rfl rfl rfl rfl ⟨by omega, by omega⟩ rfl ?_)
              exact xo_fin rfl
            apply DrawOps.cons
            · intro τ
              first
                | refine xo_not rfl rfl ?_
                | (refine xo_faR T_ rfl rfl rfl rfl rfl ?_)
              exact xo_fin rfl
            apply DrawOps.cons
            · intro τ
              first
                | refine xo_not rfl rfl ?_
                | (refine xo_loadR0 T_ rfl rfl rfl (by first | assumption | exact RO.fld (by assumption) rfl) rfl ?_)
              exact xo_fin rfl
            apply DrawOps.cons
            · intro τ
              first
                | refine xo_not rfl rfl ?_
                | (refine xo_geq rfl rfl rfl rfl ?_)
              exact xo_fin rfl
            apply DrawOps.cons
            · intro τ
              first
                | refine xo_not rfl rfl ?_
                | (first | refine xo_pickT rfl rfl rfl rfl ?_ | refine xo_pickF rfl rfl rfl rfl ?_)
              exact xo_fin rfl
            apply DrawOps.cons
            · intro τ
              first | refine xo_pickT rfl rfl rfl rfl ?_ | refine xo_pickF rfl rfl rfl rfl ?_
              exact xo_fin rfl
            exact DrawOps.nil
          · rfl
          with_reducible repeat (first | refine xq_then ?_ | refine xq_blockN ?_ | refine xq_scopeN ?_)
          exact xq_meet _ _ _ () trivial ⟨rfl, rfl, rfl, rfl, rfl, rfl, rfl, rfl, trivial⟩ (by repeat (first | exact List.Sublist.refl _ | apply List.Sublist.cons_cons | apply List.Sublist.cons | exact List.nil_sublist _))
      rw [latF, List.foldl_cons, hT1] at hlat
      with_reducible repeat refine xc_seq ?_
      refine xc_cond rfl (fun hb => ?_) (fun hb => ?_)
      · with_reducible repeat refine xc_seq ?_
        with_reducible refine xc_region ?_
        refine xo_mv rfl rfl rfl ?_
        refine xo_asg rfl rfl rfl ?_
        with_reducible refine xo_nil ?_
        with_reducible repeat (first | refine xq_then ?_ | refine xq_blockN ?_ | refine xq_scopeN ?_)
        with_reducible repeat refine xc_seq ?_
        with_reducible refine xc_region ?_
        refine xo_mv rfl rfl rfl ?_
        refine xo_add rfl rfl rfl (by omega) rfl ?_
        refine xo_asg rfl rfl rfl ?_
        with_reducible refine xo_nil ?_
        with_reducible repeat (first | refine xq_then ?_ | refine xq_blockN ?_ | refine xq_scopeN ?_)
        exact xq_again _ _ _ _ _ (j + 1, (j : Int)) ⟨by omega, (y, true), by rw [hlat, hb]; rfl, .inr ⟨j, hjl, rfl, by rw [hy]⟩⟩ (by first | omega | (simp only; omega)) ⟨rfl, rfl, rfl, rfl, rfl, rfl, rfl, trivial⟩ (by repeat (first | exact List.Sublist.refl _ | apply List.Sublist.cons_cons | apply List.Sublist.cons | exact List.nil_sublist _))
      · with_reducible refine xc_skip ?_
        with_reducible repeat (first | refine xq_then ?_ | refine xq_blockN ?_ | refine xq_scopeN ?_)
        with_reducible repeat refine xc_seq ?_
        with_reducible refine xc_region ?_
        refine xo_mv rfl rfl rfl ?_
        refine xo_add rfl rfl rfl (by omega) rfl ?_
        refine xo_asg rfl rfl rfl ?_
        with_reducible refine xo_nil ?_
        with_reducible repeat (first | refine xq_then ?_ | refine xq_blockN ?_ | refine xq_scopeN ?_)
        exact xq_again _ _ _ _ _ (j + 1, best) ⟨by omega, s, by rw [hlat, hb]; rfl, hs⟩ (by first | omega | (simp only; omega)) ⟨rfl, rfl, rfl, rfl, rfl, rfl, rfl, trivial⟩ (by repeat (first | exact List.Sublist.refl _ | apply List.Sublist.cons_cons | apply List.Sublist.cons | exact List.nil_sublist _))
    · have hge : ¬ j < l.length := by have := of_decide_eq_false h; omega
      rw [List.drop_of_length_le (by omega)] at hlat
      have hgb : goneB l day (idAt r k) = (s.2 && decide (s.1.f3 = 1)) := by rw [goneB, hid, hlat]; rfl
      with_reducible refine xc_exit ?_
      with_reducible repeat (first | refine xq_blockX ?_ | refine xq_thenE ?_ | refine xq_blockE rfl ?_ | refine xq_scopeE ?_)
      with_reducible repeat (first | refine xq_then ?_ | refine xq_blockN ?_ | refine xq_scopeN ?_)
      rcases hs with ⟨rfl, h2⟩ | ⟨jj, hjj, rfl, rfl⟩
      · with_reducible repeat refine xc_seq ?_
        with_reducible refine xc_region ?_
        refine xo_mv rfl rfl rfl ?_
        refine xo_mv rfl rfl rfl ?_
        refine xo_mv rfl rfl rfl ?_
        refine xo_geq rfl rfl rfl rfl ?_
        refine xo_mv rfl rfl rfl ?_
        first
          | refine xo_not rfl rfl ?_
          | (refine xo_mv rfl rfl rfl ?_)
        first
          | refine xo_not rfl rfl ?_
          | (refine xo_mv rfl rfl rfl ?_)
        first
          | refine xo_not rfl rfl ?_
          | (refine xo_ia T_ rfl rfl rfl rfl rfl ⟨by omega, by omega⟩ rfl ?_)
        first
          | refine xo_not rfl rfl ?_
          | (refine xo_faR T_ rfl rfl rfl rfl rfl ?_)
        first
          | refine xo_not rfl rfl ?_
          | (refine xo_loadR0 T_ rfl rfl rfl (by first | assumption | exact RO.fld (by assumption) rfl) rfl ?_)
        first
          | refine xo_not rfl rfl ?_
          | (refine xo_eql rfl rfl rfl rfl ?_)
        first | refine xo_pickT rfl rfl rfl rfl ?_ | refine xo_pickF rfl rfl rfl rfl ?_
        refine xo_ia T_ rfl rfl rfl rfl rfl ⟨by omega, by omega⟩ rfl ?_
        refine xo_storeI T_ rfl rfl rfl rfl (by repeat (first | exact List.Mem.head _ | apply List.Mem.tail | apply List.mem_append_right)) rfl rfl (fill_lt hlt) (fill_upd (by rw [hgb, h2]; rfl)) rfl ?_
        with_reducible refine xo_nil ?_
        with_reducible repeat (first | refine xq_then ?_ | refine xq_blockN ?_ | refine xq_scopeN ?_)
        with_reducible repeat refine xc_seq ?_
        with_reducible refine xc_region ?_
        refine xo_mv rfl rfl rfl ?_
        refine xo_add rfl rfl rfl (by omega) rfl ?_
        refine xo_asg rfl rfl rfl ?_
        with_reducible refine xo_nil ?_
        with_reducible repeat (first | refine xq_then ?_ | refine xq_blockN ?_ | refine xq_scopeN ?_)
        exact xq_again _ _ _ _ _ (k + 1) (by omega) (by omega) ⟨rfl, rfl, rfl, rfl, rfl, trivial⟩ (by repeat (first | exact List.Sublist.refl _ | apply List.Sublist.cons_cons | apply List.Sublist.cons | exact List.nil_sublist _))
      · obtain ⟨bd, rfl, r2⟩ := let_at hl jj hjj
        have h67 : decide ((0 : Int) ≤ (jj : Int)) = true := decide_eq_true (by omega)
        with_reducible repeat refine xc_seq ?_
        with_reducible refine xc_region ?_
        refine xo_mv rfl rfl rfl ?_
        refine xo_mv rfl rfl rfl ?_
        refine xo_mv rfl rfl rfl ?_
        refine xo_geq rfl rfl rfl rfl ?_
        refine xo_as (i := 67) rfl (congrArg Value.bool h67) ?_
        refine xo_mv rfl rfl rfl ?_
        first
          | refine xo_not rfl rfl ?_
          | (refine xo_mv rfl rfl rfl ?_)
        first
          | refine xo_not rfl rfl ?_
          | (refine xo_mv rfl rfl rfl ?_)
        first
          | refine xo_not rfl rfl ?_
          | (refine xo_ia T_ rfl rfl rfl rfl rfl ⟨by omega, by omega⟩ rfl ?_)
        first
          | refine xo_not rfl rfl ?_
          | (refine xo_faR T_ rfl rfl rfl rfl rfl ?_)
        first
          | refine xo_not rfl rfl ?_
          | (refine xo_loadR0 T_ rfl rfl rfl (by first | assumption | exact RO.fld (by assumption) rfl) rfl ?_)
        first
          | refine xo_not rfl rfl ?_
          | (refine xo_eql rfl rfl rfl rfl ?_)
        first | refine xo_pickT rfl rfl rfl rfl ?_ | refine xo_pickF rfl rfl rfl rfl ?_
        refine xo_ia T_ rfl rfl rfl rfl rfl ⟨by omega, by omega⟩ rfl ?_
        refine xo_storeI T_ rfl rfl rfl rfl (by repeat (first | exact List.Mem.head _ | apply List.Mem.tail | apply List.mem_append_right)) rfl rfl (fill_lt hlt) (fill_upd (by rw [hgb]; rfl)) rfl ?_
        with_reducible refine xo_nil ?_
        with_reducible repeat (first | refine xq_then ?_ | refine xq_blockN ?_ | refine xq_scopeN ?_)
        with_reducible repeat refine xc_seq ?_
        with_reducible refine xc_region ?_
        refine xo_mv rfl rfl rfl ?_
        refine xo_add rfl rfl rfl (by omega) rfl ?_
        refine xo_asg rfl rfl rfl ?_
        with_reducible refine xo_nil ?_
        with_reducible repeat (first | refine xq_then ?_ | refine xq_blockN ?_ | refine xq_scopeN ?_)
        exact xq_again _ _ _ _ _ (k + 1) (by omega) (by omega) ⟨rfl, rfl, rfl, rfl, rfl, trivial⟩ (by repeat (first | exact List.Sublist.refl _ | apply List.Sublist.cons_cons | apply List.Sublist.cons | exact List.nil_sublist _))
  · have hge : ¬ k < r.length := by have := of_decide_eq_false h; omega
    have hkk : k = r.length := by omega
    subst hkk
    with_reducible refine xc_exit ?_
    with_reducible repeat (first | refine xq_blockX ?_ | refine xq_thenE ?_ | refine xq_blockE rfl ?_ | refine xq_scopeE ?_)
    with_reducible repeat (first | refine xq_then ?_ | refine xq_blockN ?_ | refine xq_scopeN ?_)
    with_reducible repeat refine xc_seq ?_
    with_reducible refine xc_region ?_
    refine xo_mv rfl rfl rfl ?_
    refine xo_asg rfl rfl rfl ?_
    with_reducible refine xo_nil ?_
    with_reducible repeat (first | refine xq_then ?_ | refine xq_blockN ?_ | refine xq_scopeN ?_)
    with_reducible repeat refine xc_seq ?_
    with_reducible refine xc_ret ?_
    with_reducible repeat (first | refine xq_thenR ?_ | refine xq_blockR ?_ | refine xq_scopeR ?_)
    refine xq_ret1 rfl rfl fun w' hw => ?_
    obtain ⟨o, h1, h2⟩ := hw.bl _ (List.Mem.head _)
    refine ⟨b7, o, rfl, hw.kx.below, hw.own (List.Mem.head _), h1, ?_⟩
    rw [goneBs, ← fill_all (fun i => goneB l day i)]
    exact h2
theorem gone_enters : ∀ args w, (callFunc 26 args).run Try.prog w = .ok (.enter 26 args) w := enters_of Try.func26 (by kernel_rfl) rfl
end Go.Proofs.Ytcmepdamemnbkaa
