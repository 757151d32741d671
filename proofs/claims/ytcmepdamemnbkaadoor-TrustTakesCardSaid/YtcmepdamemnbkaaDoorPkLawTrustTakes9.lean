/- The table trust.adds, as the rows' condition lays it, and the door's own heap, which meets that condition. / law08.TrustTakes: the walk. -/
import Derived.Test.YtcmepdamemnbkaaDoorRows
import Derived.Test.YtcmepdamemnbkaaDoorPkLawTrustTakes4
import Derived.LaidLaws
import Derived.LaidHandle
import Derived.LaidMore
import Derived.ChangeVars
import Derived.ChangeShapes
import Derived.Test.YtcmepdamemnbkaaDoorPkLawTrustTakes7
import Derived.Test.YtcmepdamemnbkaaDoorPkLawTrustTakes8
namespace Go.Proofs.YtcmepdamemnbkaaDoor
open Go.ChangeShapes Go.WideShapes Go.RowKit
set_option linter.unusedVariables false
set_option linter.unusedSimpArgs false
def laidL : List (String × DataW Unit) := [("cottonpad/trust.adds", Rows.laid_cottonpad_trust_adds)]
theorem gAdds : Tryd.prog.globalNamed "cottonpad/trust.adds" = some 0 := by kernel_rfl
theorem tAdds : (Tryd.prog.globals[0]?).map (·.type) = some 107 := by kernel_rfl
theorem door_met (os : Os) (args : Array Value) : laidMetH Tryd.prog laidL ((World.doorLaid Tryd.prog 400 os).forCall (fun _ _ => 0) ⟨#[], args, []⟩).memory :=
  laidMetH_of_parts3 (fuel := 8) (laidMet_of_run' 8 (by kernel_rfl) (by kernel_rfl)) (by kernel_rfl) (by kernel_rfl)
theorem trod_six {P : Program} {H : Type} {enc : TypeId × Value → H} {w : World} {fuel : Nat} {t te : TypeId} {a0 a1 a2 a3 a4 a5 : Value} {d : DataW H} {ps : List MemPlace}
    (ht : P.underlying t = some (.array 6 te)) (hE : P.cellsOf te = 1)
    (h : DataW.trod enc P w 0 (fun _ => true) true (fuel + 1) t [a0, a1, a2, a3, a4, a5] = some (d, ps)) :
    ∃ x0 x1 x2 x3 x4 x5, DataW.trod enc P w 0 (fun _ => true) true fuel te [a1] = some x1 ∧ DataW.trod enc P w 0 (fun _ => true) true fuel te [a2] = some x2 ∧ DataW.trod enc P w 0 (fun _ => true) true fuel te [a3] = some x3 ∧ DataW.trod enc P w 0 (fun _ => true) true fuel te [a4] = some x4 ∧ DataW.trod enc P w 0 (fun _ => true) true fuel te [a5] = some x5 ∧
      d = .agg [x0, x1.1, x2.1, x3.1, x4.1, x5.1] := by
  unfold DataW.trod at h
  rw [ht] at h
  simp only [List.length_cons, List.length_nil] at h
  split at h
  · simp only [show List.range 6 = [0, 1, 2, 3, 4, 5] from rfl, List.mapM_cons, List.mapM_nil, hE, Nat.mul_one, List.drop_zero, List.take_succ_cons, List.take_zero, List.drop_succ_cons, Option.map_eq_some_iff] at h
    obtain ⟨xs, h, e'⟩ := h
    cases h0 : DataW.trod enc P w 0 (fun _ => true) true fuel te [a0] with
    | none => simp [h0] at h
    | some x0 =>
      cases h1 : DataW.trod enc P w 0 (fun _ => true) true fuel te [a1] with
      | none => simp [h0, h1] at h
      | some x1 =>
        cases h2 : DataW.trod enc P w 0 (fun _ => true) true fuel te [a2] with
        | none => simp [h0, h1, h2] at h
        | some x2 =>
          cases h3 : DataW.trod enc P w 0 (fun _ => true) true fuel te [a3] with
          | none => simp [h0, h1, h2, h3] at h
          | some x3 =>
            cases h4 : DataW.trod enc P w 0 (fun _ => true) true fuel te [a4] with
            | none => simp [h0, h1, h2, h3, h4] at h
            | some x4 =>
              cases h5 : DataW.trod enc P w 0 (fun _ => true) true fuel te [a5] with
              | none => simp [h0, h1, h2, h3, h4, h5] at h
              | some x5 =>
                simp [h0, h1, h2, h3, h4, h5] at h
                subst h
                simp at e'
                exact ⟨x0.1, x1, x2, x3, x4, x5, rfl, rfl, rfl, rfl, rfl, e'.1.symm⟩
  · simp at h
theorem trod_len {P : Program} {H : Type} {enc : TypeId × Value → H} {w : World} {fuel : Nat} {t te : TypeId} {n : Nat} {l : List Value} {x : DataW H × List MemPlace}
    (ht : P.underlying t = some (.array n te)) (h : DataW.trod enc P w 0 (fun _ => true) true fuel t l = some x) : l.length = P.cellsOf t := by
  cases fuel with
  | zero => simp [DataW.trod] at h
  | succ m =>
    by_cases hl : l.length = P.cellsOf t
    · exact hl
    · exfalso
      unfold DataW.trod at h
      rw [ht] at h
      simp [hl] at h
set_option maxRecDepth 100000 in
theorem glob_of_laid {W : World} (h : laidMetH Tryd.prog laidL W) : GlobOK W := by
  obtain ⟨g, t, cs, fuel, p, hg, ht, hv, hd⟩ := h.funcs (n := "cottonpad/trust.adds") (List.mem_cons_self ..)
  obtain rfl := Option.some.inj (gAdds.symm.trans hg)
  obtain rfl := Option.some.inj (tAdds.symm.trans ht)
  have hd' : DataW.trod (funcToken Tryd.prog) Tryd.prog W 0 (fun _ => true) true fuel 107 cs.toList = some (.agg [.nil, DataW.held [99, 111, 116, 116, 111, 110, 112, 97, 100, 47, 116, 114, 117, 115, 116, 46, 97, 100, 100, 115, 36, 49], DataW.held [99, 111, 116, 116, 111, 110, 112, 97, 100, 47, 116, 114, 117, 115, 116, 46, 97, 100, 100, 115, 36, 50], DataW.held [99, 111, 116, 116, 111, 110, 112, 97, 100, 47, 116, 114, 117, 115, 116, 46, 97, 100, 100, 115, 36, 51], DataW.held [99, 111, 116, 116, 111, 110, 112, 97, 100, 47, 116, 114, 117, 115, 116, 46, 97, 100, 100, 115, 36, 52], DataW.held [99, 111, 116, 116, 111, 110, 112, 97, 100, 47, 116, 114, 117, 115, 116, 46, 97, 100, 100, 115, 36, 53]], p) := hd
  have hlen : cs.toList.length = 6 := (trod_len Tryd.underlying107 hd').trans (by kernel_rfl)
  obtain ⟨l⟩ := cs
  match l, hlen with
  | [a0, a1, a2, a3, a4, a5], _ =>
    cases fuel with
    | zero => simp [DataW.trod] at hd'
    | succ n =>
      obtain ⟨x0, x1, x2, x3, x4, x5, h1, h2, h3, h4, h5, e⟩ := trod_six (te := 106) Tryd.underlying107 (by kernel_rfl) hd'
      simp only [DataW.agg.injEq, List.cons.injEq, and_true] at e
      obtain ⟨_, e1, e2, e3, e4, e5⟩ := e
      obtain ⟨x1d, x1p⟩ := x1
      obtain ⟨x2d, x2p⟩ := x2
      obtain ⟨x3d, x3p⟩ := x3
      obtain ⟨x4d, x4p⟩ := x4
      obtain ⟨x5d, x5p⟩ := x5
      simp only at e1 e2 e3 e4 e5
      subst e1 e2 e3 e4 e5
      obtain rfl := func_of_trod (f0 := 122) Tryd.underlying106 (by kernel_rfl) h1
      obtain rfl := func_of_trod (f0 := 123) Tryd.underlying106 (by kernel_rfl) h2
      obtain rfl := func_of_trod (f0 := 124) Tryd.underlying106 (by kernel_rfl) h3
      obtain rfl := func_of_trod (f0 := 125) Tryd.underlying106 (by kernel_rfl) h4
      obtain rfl := func_of_trod (f0 := 126) Tryd.underlying106 (by kernel_rfl) h5
      unfold World.var? at hv
      rw [gAdds] at hv
      simp only [Option.bind_some] at hv
      cases hh : W.heap[0]? with
      | none => simp [hh] at hv
      | some o =>
        cases o <;> simp [hh] at hv
        subst hv
        intro k hk1 hk2
        have hc : ∀ i (v : Value), [a0, .func (.func 122) #[] #[], .func (.func 123) #[] #[], .func (.func 124) #[] #[], .func (.func 125) #[] #[], .func (.func 126) #[] #[]][i]? = some v → W.cell? ⟨0, i, none⟩ = some v := fun i v h => by
          unfold World.cell?
          rw [hh]
          simpa using h
        rcases (show k = 1 ∨ k = 2 ∨ k = 3 ∨ k = 4 ∨ k = 5 by omega) with rfl | rfl | rfl | rfl | rfl
        all_goals exact hc _ _ rfl
end Go.Proofs.YtcmepdamemnbkaaDoor
namespace Go.Proofs.YtcmepdamemnbkaaDoor
open Go.RowKit Go.Proofs.YtcmepdamemnbkaaDoorW.PrintWords
set_option linter.unusedVariables false
set_option linter.unusedSimpArgs false
theorem setR_calls {w0 w : World} {X : Nat → Prop} {η : Hp} (hw : WOK w0 X η w) {rr : RowR} {xs : List Int} (hl : xs.length ≤ 1000000) (h1 : RowAt 3 0 w rr xs) (hs : xs.Pairwise fun a b => a < b) :
    Calls Tryd.prog 35 ([] ++ [valR rr xs.length] ++ []).toArray w fun e w' => ∃ M, e = .returned (.tuple #[.map (some M), .bool true]) ∧ WOK w XNone [(M, true, hmap (setV xs))] w' := by
  obtain ⟨A, c, e1, _, hA⟩ := h1.C (by omega)
  rw [e1]
  exact set_calls A c xs w hA hs
theorem u32_of {n : Int} (h : (Lit.int .u32 n).wf = true) : 0 ≤ n ∧ n ≤ 4294967295 := by
  simp only [Lit.wf, Bool.and_eq_true, decide_eq_true_eq] at h
  exact h
theorem all_take {α : Type} (p : α → Bool) (xs : List α) (z : α) (k : Nat) (hk : k < xs.length) : (xs.take (k + 1)).all p = ((xs.take k).all p && p (xs.getD k z)) := by
  rw [List.take_succ_eq_append_getElem hk, List.all_append]
  simp [List.getD_eq_getElem?_getD, List.getElem?_eq_getElem hk]
/-- what is asked once records and letters are ready: a day, a record -/
theorem open_ok {r : List RecT} {l : List LetT} {d : Int} (h : checkF r l = 0) (hd : 0 ≤ d ∧ d ≤ 100000) : openF r l d [] = 0 := by
  rw [openF_day h, if_pos (by simp [inF, hd.1, hd.2])]
theorem open_ok1 {r : List RecT} {l : List LetT} {d id : Int} (h : checkF r l = 0) (hd : 0 ≤ d ∧ d ≤ 100000) (hid : knownF r id = true) : openF r l d [id] = 0 := by
  rw [openF, if_pos h, if_pos (by simp [inF, hd.1, hd.2]), if_pos (by simp [hid])]
set_option maxRecDepth 8192 in
set_option maxHeartbeats 64000000 in
theorem trustTakes_law (A B : Option Addr) (c c' : Nat) (r : List RecT) (l : List LetT) (n wh : Int) (w : World) (hr : Kd.C recK w A r.length r) (hl : Kd.C letK w B l.length l) (hk : Bytes r) (hkl : BytesL l) (hn : 0 ≤ n ∧ n ≤ 4294967295) (hwh : 0 ≤ wh ∧ wh ≤ 255) (hglob : GlobOK w) :
    Calls Tryd.prog 5 #[.slice A r.length c, .slice B l.length c', .int .u32 n, .int .u8 wh] w fun e w' => e = .returned (.bool true) ∧ Below w.heap.size w w' := by
  have hrn := hr.2.1
  refine x_calls (X := XNone) Tryd.func5 rfl rfl rfl ?_
  with_reducible repeat refine xc_seq ?_
  with_reducible refine xc_region ?_
  refine xo_asg rfl rfl rfl ?_
  with_reducible refine xo_nil ?_
  with_reducible repeat (first | refine xq_then ?_ | refine xq_blockN ?_ | refine xq_scopeN ?_)
  with_reducible repeat refine xc_seq ?_
  with_reducible refine xc_region ?_
  refine xo_callB (fs := []) (cs := []) rfl rfl rfl alive_enters rfl (fun w1 hw1 => alive_calls w1 (hglob.below hw1.kx.below)) ?_
  refine xo_asg rfl rfl rfl ?_
  with_reducible refine xo_nil ?_
  with_reducible repeat (first | refine xq_then ?_ | refine xq_blockN ?_ | refine xq_scopeN ?_)
  with_reducible refine xc_seq ?_
  refine xc_cut (γ := Bool) (fun g => g = false → Small r ∧ l.length ≤ 30 ∧ checkF r l = 0 ∧ r.length ≠ 0) (fun g => [(0, .slice A r.length c), (1, .slice B l.length c'), (2, .int .u32 n), (3, .int .u8 wh), (9, .bool true), (49, .bool g)]) (fun _ => []) ?_ (fun g hg => ?_)
  · cases h0 : decide ((r.length : Int) = 0)
    all_goals
      with_reducible repeat refine xc_seq ?_
      with_reducible refine xc_region ?_
      refine xo_mv rfl rfl rfl ?_
      refine xo_mv rfl rfl rfl ?_
      refine xo_call (fs := []) (cs := []) rfl rfl rfl ready_enters rfl (fun w1 hw1 => (ready_calls A B c c' r l w1 (Kd.C_below hr hw1.kx.below) (Kd.C_below hl hw1.kx.below) hk hkl).mono ?_)
      rintro e w2 ⟨b, rfl, hb, hrd⟩
      refine ⟨_, _, rfl, hw1.below hb, ?_⟩
      clear hb hw1
      cases b
      · refine xo_notOp rfl rfl rfl ?_
        refine xo_mv rfl rfl rfl ?_
        refine xo_not rfl rfl ?_
        refine xo_not rfl rfl ?_
        refine xo_not rfl rfl ?_
        refine xo_pickT rfl rfl rfl rfl ?_
        refine xo_mv rfl rfl rfl ?_
        refine xo_not rfl rfl ?_
        refine xo_not rfl rfl ?_
        refine xo_pickT rfl rfl rfl rfl ?_
        with_reducible refine xo_nil ?_
        exact xq_meet _ _ _ true (fun h => by cases h) ⟨rfl, rfl, rfl, rfl, rfl, rfl, trivial⟩ (List.nil_sublist _)
    · refine xo_notOp rfl rfl rfl ?_
      refine xo_mv rfl rfl rfl ?_
      refine xo_mv rfl rfl rfl ?_
      refine xo_len T_ rfl rfl rfl rfl ?_
      refine xo_eql rfl rfl rfl rfl ?_
      refine xo_as (i := 44) rfl (congrArg Value.bool h0) ?_
      refine xo_pickF rfl rfl rfl rfl ?_
      refine xo_mv rfl rfl rfl ?_
      refine xo_mv rfl rfl rfl ?_
      refine xo_notOp rfl rfl rfl ?_
      refine xo_pickF rfl rfl rfl rfl ?_
      with_reducible refine xo_nil ?_
      exact xq_meet _ _ _ false (fun _ => ⟨(hrd rfl).1, (hrd rfl).2.1, (hrd rfl).2.2, by have := of_decide_eq_false h0; omega⟩) ⟨rfl, rfl, rfl, rfl, rfl, rfl, trivial⟩ (List.nil_sublist _)
    · refine xo_notOp rfl rfl rfl ?_
      refine xo_mv rfl rfl rfl ?_
      refine xo_mv rfl rfl rfl ?_
      refine xo_len T_ rfl rfl rfl rfl ?_
      refine xo_eql rfl rfl rfl rfl ?_
      refine xo_as (i := 44) rfl (congrArg Value.bool h0) ?_
      refine xo_pickF rfl rfl rfl rfl ?_
      refine xo_mv rfl rfl rfl ?_
      refine xo_not rfl rfl ?_
      refine xo_not rfl rfl ?_
      refine xo_pickT rfl rfl rfl rfl ?_
      with_reducible refine xo_nil ?_
      exact xq_meet _ _ _ true (fun h => by cases h) ⟨rfl, rfl, rfl, rfl, rfl, rfl, trivial⟩ (List.nil_sublist _)
  with_reducible repeat refine xc_seq ?_
  refine xc_cond rfl (fun hg1 => ?_) (fun hg1 => ?_)
  · with_reducible repeat refine xc_seq ?_
    with_reducible refine xc_region ?_
    refine xo_mv rfl rfl rfl ?_
    refine xo_asg rfl rfl rfl ?_
    with_reducible refine xo_nil ?_
    with_reducible repeat (first | refine xq_then ?_ | refine xq_blockN ?_ | refine xq_scopeN ?_)
    with_reducible repeat refine xc_seq ?_
    with_reducible refine xc_ret ?_
    with_reducible repeat (first | refine xq_thenR ?_ | refine xq_blockR ?_ | refine xq_scopeR ?_)
    exact xq_ret1 rfl rfl fun w' hw => ⟨rfl, hw.kx.below⟩
  obtain ⟨hsm, hl30, hck, hr0⟩ := hg hg1
  have hok := check_zero hck
  have hs := sorted_of hok
  have hlen := recorded_len hok
  have hlm := lettersF_mem l _ _ (by omega) (check_split hck).2
  have hm1 := Int.emod_nonneg wh (b := (r.length : Int)) (by omega)
  have hm2 := Int.emod_lt_of_pos wh (b := (r.length : Int)) (by omega)
  obtain ⟨ad, A2, c2, rfl, r1, _, _⟩ := rec_at hr (wh % (r.length : Int)).toNat (by omega)
  have hid : knownF r (r.getD (wh % (r.length : Int)).toNat zRec).f0 = true := knownF_iff.2 ⟨(wh % (r.length : Int)).toNat, by omega, rfl⟩
  rw [show (((wh % (r.length : Int)).toNat : Nat) : Int) = wh % (r.length : Int) by omega] at r1
  generalize hq : r.getD (wh % (r.length : Int)).toNat zRec = q at *
  clear hq
  obtain ⟨id, q1, q2⟩ := q
  simp only at hid r1
  with_reducible refine xc_skip ?_
  with_reducible repeat (first | refine xq_then ?_ | refine xq_blockN ?_ | refine xq_scopeN ?_)
  with_reducible repeat refine xc_seq ?_
  apply xc_drawE (fun g => [(2, .int .i64 ((g.getD 0 gv0).b : Int)), (12, .int .i64 ((g.getD 0 gv0).b : Int))]) (fun (η0 : Hp) g => match g with | [] => (η0) | a0 :: _ => (η0)) (fun g => match g with | a0 :: _ => a0.b ≤ 100000 | _ => True) [0, 0, 1, 0, 0, 0, 0, 0, 0, 0, 0, 0, 1, 1] [2] [[0, 1]] (by trivial)
  apply SameLen.cons
  apply SameLen.cons
  apply SameLen.cons (c := undef)
  apply SameLen.cons
  apply SameLen.cons
  apply SameLen.cons
  apply SameLen.cons
  apply SameLen.cons
  apply SameLen.cons
  apply SameLen.cons
  apply SameLen.cons
  apply SameLen.cons
  apply SameLen.cons (c := undef)
  apply SameLen.cons
  exact SameLen.nil
  rotate_left 12
  case hH0 => rfl
  case hmix => exact T_.mixed
  case hbind => rfl
  case hdeps => rfl
  case hdist => rfl
  case hfresh => rfl
  case hE => rfl
  case hEn => decide
  · refine DrawE.pure 0 0 rfl (.inr (by decide)) (fun L g hg hd => Nat.zero_le _) (fun g hlo hhi hF τ => ?_) ?_
    · rcases g with _ | ⟨a0, _ | ⟨a1, g⟩⟩
      all_goals first
        | (exfalso; simp only [List.length_cons, List.length_nil] at hlo hhi; omega)
        | (refine ⟨_, rfl, ?_⟩
           refine xo_mv rfl rfl rfl ?_
           exact xo_fin rfl)
    refine DrawE.pure 0 0 rfl (.inr (by decide)) (fun L g hg hd => Nat.zero_le _) (fun g hlo hhi hF τ => ?_) ?_
    · rcases g with _ | ⟨a0, _ | ⟨a1, g⟩⟩
      all_goals first
        | (exfalso; simp only [List.length_cons, List.length_nil] at hlo hhi; omega)
        | (refine ⟨_, rfl, ?_⟩
           refine xo_mv rfl rfl rfl ?_
           exact xo_fin rfl)
    refine DrawE.eff 0 rfl (by decide) rfl (fun j hj => hj) (fun j g a hj => ?_) (fun L g hg hd => Nat.zero_le _) (fun g hgl hF τ => ?_) ?_
    · rcases j with _ | _ | _ | _ | _ | _ | _ | _ | _ | _ | _ | _ | _ | _ | j
      all_goals first | rfl | (rcases g with _ | ⟨a0, _ | ⟨a1, g⟩⟩ <;> first | rfl | exact absurd hj (by decide) | exact absurd hj (by simp [List.getD]))
    · obtain rfl : g = [] := by
        rcases g with _ | ⟨a0, g⟩ <;> first | rfl | (exfalso; simp only [List.length_cons, List.length_nil] at hgl; omega)
      refine xo_call (fs := []) (cs := []) rfl rfl rfl day_enters rfl (fun w1 hw1 => (day_calls B c' l n w1 (Kd.C_below hl hw1.kx.below) hn (fun x hx => (hlm x hx).2.1)).mono ?_)
      rintro e w2 ⟨d, rfl, hb, hd0, hd1⟩
      obtain ⟨dn, rfl⟩ : ∃ dn : Nat, d = (dn : Int) := ⟨d.toNat, by omega⟩
      refine ⟨_, _, rfl, hw1.below hb, ?_⟩
      exact xo_finE ⟨dn, 0, none⟩ rfl (show dn ≤ 100000 by omega)
    refine DrawE.pure 0 1 rfl (.inl rfl) (fun L g hg hd => Nat.zero_le _) (fun g hlo hhi hF τ => ?_) ?_
    · rcases g with _ | ⟨a0, _ | ⟨a1, g⟩⟩
      all_goals first
        | (exfalso; simp only [List.length_cons, List.length_nil] at hlo hhi; omega)
        | (refine ⟨_, rfl, ?_⟩
           refine xo_mv rfl rfl rfl ?_
           exact xo_fin rfl)
    refine DrawE.pure 0 1 rfl (.inl rfl) (fun L g hg hd => Nat.zero_le _) (fun g hlo hhi hF τ => ?_) ?_
    · rcases g with _ | ⟨a0, _ | ⟨a1, g⟩⟩
      all_goals first
        | (exfalso; simp only [List.length_cons, List.length_nil] at hlo hhi; omega)
        | (refine ⟨_, rfl, ?_⟩
           refine xo_mv rfl rfl rfl ?_
           exact xo_fin rfl)
    refine DrawE.pure 0 1 rfl (.inl rfl) (fun L g hg hd => Nat.zero_le _) (fun g hlo hhi hF τ => ?_) ?_
    · rcases g with _ | ⟨a0, _ | ⟨a1, g⟩⟩
      all_goals first
        | (exfalso; simp only [List.length_cons, List.length_nil] at hlo hhi; omega)
        | (refine ⟨_, rfl, ?_⟩
           refine xo_conv T_ rfl rfl rfl rfl (IntWalk.i64_in _ ⟨by omega, by omega⟩) rfl ?_
           exact xo_fin rfl)
    refine DrawE.pure 0 1 rfl (.inl rfl) (fun L g hg hd => Nat.zero_le _) (fun g hlo hhi hF τ => ?_) ?_
    · rcases g with _ | ⟨a0, _ | ⟨a1, g⟩⟩
      all_goals first
        | (exfalso; simp only [List.length_cons, List.length_nil] at hlo hhi; omega)
        | (refine ⟨_, rfl, ?_⟩
           refine xo_mv rfl rfl rfl ?_
           exact xo_fin rfl)
    refine DrawE.pure 0 1 rfl (.inl rfl) (fun L g hg hd => Nat.zero_le _) (fun g hlo hhi hF τ => ?_) ?_
    · rcases g with _ | ⟨a0, _ | ⟨a1, g⟩⟩
      all_goals first
        | (exfalso; simp only [List.length_cons, List.length_nil] at hlo hhi; omega)
        | (refine ⟨_, rfl, ?_⟩
           refine xo_len T_ rfl rfl rfl rfl ?_
           exact xo_fin rfl)
    refine DrawE.pure 0 1 rfl (.inl rfl) (fun L g hg hd => Nat.zero_le _) (fun g hlo hhi hF τ => ?_) ?_
    · rcases g with _ | ⟨a0, _ | ⟨a1, g⟩⟩
      all_goals first
        | (exfalso; simp only [List.length_cons, List.length_nil] at hlo hhi; omega)
        | (refine ⟨_, rfl, ?_⟩
           refine xo_rem rfl rfl rfl (by omega) (by omega) rfl ?_
           exact xo_fin rfl)
    refine DrawE.pure 0 1 rfl (.inl rfl) (fun L g hg hd => Nat.zero_le _) (fun g hlo hhi hF τ => ?_) ?_
    · rcases g with _ | ⟨a0, _ | ⟨a1, g⟩⟩
      all_goals first
        | (exfalso; simp only [List.length_cons, List.length_nil] at hlo hhi; omega)
        | (refine ⟨_, rfl, ?_⟩
           refine xo_ia T_ rfl rfl rfl rfl rfl ⟨by omega, by omega⟩ rfl ?_
           exact xo_fin rfl)
    refine DrawE.pure 0 1 rfl (.inl rfl) (fun L g hg hd => Nat.zero_le _) (fun g hlo hhi hF τ => ?_) ?_
    · rcases g with _ | ⟨a0, _ | ⟨a1, g⟩⟩
      all_goals first
        | (exfalso; simp only [List.length_cons, List.length_nil] at hlo hhi; omega)
        | (refine ⟨_, rfl, ?_⟩
           refine xo_faR T_ rfl rfl rfl rfl rfl ?_
           exact xo_fin rfl)
    refine DrawE.pure 0 1 rfl (.inl rfl) (fun L g hg hd => Nat.zero_le _) (fun g hlo hhi hF τ => ?_) ?_
    · rcases g with _ | ⟨a0, _ | ⟨a1, g⟩⟩
      all_goals first
        | (exfalso; simp only [List.length_cons, List.length_nil] at hlo hhi; omega)
        | (refine ⟨_, rfl, ?_⟩
           refine xo_loadR0 T_ rfl rfl rfl (by first | assumption | exact RO.fld (by assumption) rfl) rfl ?_
           exact xo_fin rfl)
    refine DrawE.pure 1 1 rfl (.inl rfl) (fun L g hg hd => hg.2.1 2 (hd 2 (by decide))) (fun g hlo hhi hF τ => ?_) ?_
    · rcases g with _ | ⟨a0, _ | ⟨a1, g⟩⟩
      all_goals first
        | (exfalso; simp only [List.length_cons, List.length_nil] at hlo hhi; omega)
        | (refine ⟨_, rfl, ?_⟩
           refine xo_asg rfl rfl rfl ?_
           exact xo_fin rfl)
    refine DrawE.pure 1 1 rfl (.inl rfl) (fun L g hg hd => hg.2.1 12 (hd 12 (by decide))) (fun g hlo hhi hF τ => ?_) ?_
    · rcases g with _ | ⟨a0, _ | ⟨a1, g⟩⟩
      all_goals first
        | (exfalso; simp only [List.length_cons, List.length_nil] at hlo hhi; omega)
        | (refine ⟨_, rfl, ?_⟩
           refine xo_asg rfl rfl rfl ?_
           exact xo_fin rfl)
    exact DrawE.nil
  intro g hgl hF
  obtain ⟨a0, rfl⟩ : ∃ a0, g = [a0] := by
    rcases g with _ | ⟨a0, _ | ⟨a1, g⟩⟩ <;> first | exact ⟨_, rfl⟩ | (exfalso; simp only [List.length_cons, List.length_nil] at hgl; omega)
  with_reducible repeat (first | refine xq_then ?_ | refine xq_blockN ?_ | refine xq_scopeN ?_)
  with_reducible repeat refine xc_seq ?_
  refine xc_slots [(0, .slice (some ad) r.length c), (1, .slice B l.length c'), (9, .bool true), (10, .int .i64 (a0.b : Int)), (11, .int .i64 id)] ⟨rfl, rfl, rfl, rfl, rfl, trivial⟩ ?_
  have hd : 0 ≤ (a0.b : Int) ∧ (a0.b : Int) ≤ 100000 := ⟨by omega, by have : a0.b ≤ 100000 := hF; omega⟩
  generalize (a0.b : Int) = d at *
  have ho := open_ok (r := r) (l := l) hck hd
  have ho2 := open_ok1 (r := r) (l := l) hck hd hid
  have hH : holdsR r l d = holdsF r (goneF r l d) := by rw [holdsR, if_pos ho]
  have hT : takesR r l d id = takesF r (goneF r l d) id := by rw [takesR, if_pos ho2]
  have hHl := holdsF_len r (goneF r l d)
  have hTl : (takesF r (goneF r l d) id).length ≤ r.length := Nat.le_trans (List.length_filter_le _ _) hHl
  have hHs := (idsL_lt hs).sublist (holdsF_sub hs (goneF r l d))
  have hTs : (takesF r (goneF r l d) id).Pairwise fun a b => a < b := hHs.sublist List.filter_sublist
  have hti := takes_id hs (goneF r l d) id
  have htn := fun h => takes_nil hok (G := goneF r l d) (id := id) h
  have hhung := fun k (hk : k < r.length) hT hne way hway => takes_hung hok (G := goneF r l d) (id := id) (k := k) hk hT hne (way := way) hway
  have hTH : ∀ m, m ∈ takesF r (goneF r l d) id → m ∈ holdsF r (goneF r l d) := fun m hm => (takes_mem.1 hm).1
  have hfin : ∀ m, (decide (m ∈ holdsF r (goneF r (l ++ [⟨nextN l, d, id, 1⟩]) d)) != (decide (m ∈ holdsF r (goneF r l d)) && !decide (m ∈ takesF r (goneF r l d) id))) = false := fun m => by
    have h1 := holds_more hok l ⟨nextN l, d, id, 1⟩ d rfl rfl
    have h2 : decide (m ∈ holdsF r (goneF r (l ++ [⟨nextN l, d, id, 1⟩]) d)) = (decide (m ∈ holdsF r (goneF r l d)) && !decide (m ∈ takesF r (goneF r l d) id)) := by
      rw [h1, Bool.eq_iff_iff]
      simp only [Bool.and_eq_true, Bool.not_eq_true', decide_eq_true_eq, decide_eq_false_iff_not, takes_mem, not_and, Classical.not_not]
      constructor
      · intro h
        have h3 := holdsF_mono hok (fun q hq => mem_insN.2 (.inr hq)) m h
        exact ⟨h3, fun _ => h⟩
      · rintro ⟨h3, h4⟩
        exact h4 h3
    rw [h2]
    simp
  have hNl := holdsF_len r (goneF r (l ++ [⟨nextN l, d, id, 1⟩]) d)
  have hNs := (idsL_lt hs).sublist (holdsF_sub hs (goneF r (l ++ [⟨nextN l, d, id, 1⟩]) d))
  generalize holdsF r (goneF r l d) = H at *
  generalize takesF r (goneF r l d) id = T at *
  have hne : (decide (id ∈ H) != decide (id ∈ T)) = false := by rw [hti]; simp
  have h00 : (!decide ((0 : Int) = 0)) = false := rfl
  with_reducible repeat refine xc_seq ?_
  with_reducible refine xc_region ?_
  refine xo_mv rfl rfl rfl ?_
  refine xo_mv rfl rfl rfl ?_
  refine xo_mv rfl rfl rfl ?_
  refine xo_call (fs := []) (cs := []) rfl rfl rfl trustHolds_enters rfl (fun w1 hw1 => (trustHolds_calls (some ad) B c c' r l d w1 (Kd.C_below hr hw1.kx.below) (Kd.C_below hl hw1.kx.below) hk hkl).mono ?_)
  rw [hH, ho]
  rintro e w2 ⟨r5, rfl, hrow, hb⟩
  have h05 := hrow.1
  refine ⟨_, _, rfl, hw1.row hb hrow, ?_⟩
  clear hrow hb hw1
  refine xo_mv rfl rfl rfl ?_
  refine xo_ext rfl rfl rfl rfl ?_
  refine xo_ext rfl rfl rfl rfl ?_
  refine xo_asg rfl rfl rfl ?_
  refine xo_asg rfl rfl rfl ?_
  with_reducible refine xo_nil ?_
  with_reducible repeat (first | refine xq_then ?_ | refine xq_blockN ?_ | refine xq_scopeN ?_)
  with_reducible repeat refine xc_seq ?_
  with_reducible refine xc_region ?_
  refine xo_mv rfl rfl rfl ?_
  refine xo_mv rfl rfl rfl ?_
  refine xo_mv rfl rfl rfl ?_
  refine xo_mv rfl rfl rfl ?_
  refine xo_call (fs := []) (cs := []) rfl rfl rfl trustTakes_enters rfl (fun w1 hw1 => (trustTakes_calls (some ad) B c c' r l d id w1 (Kd.C_below hr hw1.kx.below) (Kd.C_below hl hw1.kx.below) hk hkl).mono ?_)
  rw [hT, ho2]
  rintro e w2 ⟨r6, rfl, hrow, hb⟩
  have h06 := hrow.1
  refine ⟨_, _, rfl, hw1.row hb hrow, ?_⟩
  clear hrow hb hw1
  refine xo_mv rfl rfl rfl ?_
  refine xo_ext rfl rfl rfl rfl ?_
  refine xo_ext rfl rfl rfl rfl ?_
  refine xo_asg rfl rfl rfl ?_
  refine xo_asg rfl rfl rfl ?_
  with_reducible refine xo_nil ?_
  with_reducible repeat (first | refine xq_then ?_ | refine xq_blockN ?_ | refine xq_scopeN ?_)
  with_reducible repeat refine xc_seq ?_
  with_reducible refine xc_region ?_
  refine xo_mv rfl rfl rfl ?_
  refine xo_call (fs := []) (cs := []) rfl rfl rfl set_enters rfl (fun w1 hw1 => (setR_calls hw1 (by omega) (hw1.rowAt h05 (fun p hp => by subst hp; exact (by repeat (first | exact List.Mem.head _ | exact List.mem_append_left _ (List.Mem.head _) | apply List.mem_append_right | apply List.Mem.tail)))) hHs).mono ?_)
  rintro e w2 ⟨MH, rfl, hz⟩
  refine ⟨_, _, rfl, hw1.join hz (by simp), ?_⟩
  clear hz hw1
  refine xo_mv rfl rfl rfl ?_
  refine xo_ext rfl rfl rfl rfl ?_
  refine xo_ext rfl rfl rfl rfl ?_
  refine xo_asg rfl rfl rfl ?_
  refine xo_asg rfl rfl rfl ?_
  with_reducible refine xo_nil ?_
  with_reducible repeat (first | refine xq_then ?_ | refine xq_blockN ?_ | refine xq_scopeN ?_)
  with_reducible repeat refine xc_seq ?_
  with_reducible refine xc_region ?_
  refine xo_mv rfl rfl rfl ?_
  refine xo_call (fs := []) (cs := []) rfl rfl rfl set_enters rfl (fun w1 hw1 => (setR_calls hw1 (by omega) (hw1.rowAt h06 (fun p hp => by subst hp; exact (by repeat (first | exact List.Mem.head _ | exact List.mem_append_left _ (List.Mem.head _) | apply List.mem_append_right | apply List.Mem.tail)))) hTs).mono ?_)
  rintro e w2 ⟨MT, rfl, hz⟩
  refine ⟨_, _, rfl, hw1.join hz (by simp), ?_⟩
  clear hz hw1
  refine xo_mv rfl rfl rfl ?_
  refine xo_ext rfl rfl rfl rfl ?_
  refine xo_ext rfl rfl rfl rfl ?_
  refine xo_asg rfl rfl rfl ?_
  refine xo_asg rfl rfl rfl ?_
  with_reducible refine xo_nil ?_
  with_reducible repeat (first | refine xq_then ?_ | refine xq_blockN ?_ | refine xq_scopeN ?_)
  with_reducible refine xc_seq ?_
  refine xc_cut (γ := Unit) (fun _ => True) (fun _ => [(0, .slice (some ad) r.length c), (1, .slice B l.length c'), (9, .bool true), (10, .int .i64 d), (11, .int .i64 id), (16, .map (some MH)), (18, .map (some MT)), (121, .bool false)]) (fun _ => [(MT, true, hmap (setV T)), (MH, true, hmap (setV H))]) ?_ (fun _ _ => ?_)
  · cases hih : !decide (id ∈ H)
    · with_reducible repeat refine xc_seq ?_
      with_reducible refine xc_region ?_
      refine xo_mv rfl rfl rfl ?_
      refine xo_neq rfl rfl rfl rfl ?_
      refine xo_as (i := 89) rfl (congrArg Value.bool h00) ?_
      refine xo_mv rfl rfl rfl ?_
      first
        | refine xo_not rfl rfl ?_
        | (refine xo_mv rfl rfl rfl ?_)
      first
        | refine xo_not rfl rfl ?_
        | (refine xo_neq rfl rfl rfl rfl ?_)
      refine xo_as (i := 92) rfl (congrArg Value.bool h00) ?_
      first | refine xo_pickT rfl rfl rfl rfl ?_ | refine xo_pickF rfl rfl rfl rfl ?_
      refine xo_mv rfl rfl rfl ?_
      first
        | refine xo_not rfl rfl ?_
        | (refine xo_mv rfl rfl rfl ?_)
      first
        | refine xo_not rfl rfl ?_
        | (refine xo_notOp rfl rfl rfl ?_)
      first | refine xo_pickT rfl rfl rfl rfl ?_ | refine xo_pickF rfl rfl rfl rfl ?_
      refine xo_mv rfl rfl rfl ?_
      first
        | refine xo_not rfl rfl ?_
        | (refine xo_mv rfl rfl rfl ?_)
      first
        | refine xo_not rfl rfl ?_
        | (refine xo_notOp rfl rfl rfl ?_)
      first | refine xo_pickT rfl rfl rfl rfl ?_ | refine xo_pickF rfl rfl rfl rfl ?_
      refine xo_mv rfl rfl rfl ?_
      first
        | refine xo_not rfl rfl ?_
        | (refine xo_mv rfl rfl rfl ?_)
      first
        | refine xo_not rfl rfl ?_
        | (refine xo_mv rfl rfl rfl ?_)
      first
        | refine xo_not rfl rfl ?_
        | (refine xo_sget T_ rfl rfl rfl rfl rfl rfl (by repeat (first | exact List.Mem.head _ | exact List.mem_append_left _ (List.Mem.head _) | apply List.mem_append_right | apply List.Mem.tail)) rfl ?_)
      first
        | refine xo_not rfl rfl ?_
        | (refine xo_mv rfl rfl rfl ?_)
      first
        | refine xo_not rfl rfl ?_
        | (refine xo_mv rfl rfl rfl ?_)
      first
        | refine xo_not rfl rfl ?_
        | (refine xo_sget T_ rfl rfl rfl rfl rfl rfl (by repeat (first | exact List.Mem.head _ | exact List.mem_append_left _ (List.Mem.head _) | apply List.mem_append_right | apply List.Mem.tail)) rfl ?_)
      first
        | refine xo_not rfl rfl ?_
        | (refine xo_neqB Tryd.underlying4 rfl rfl rfl rfl ?_)
      refine xo_as (i := 109) rfl (congrArg Value.bool hne) ?_
      first | refine xo_pickT rfl rfl rfl rfl ?_ | refine xo_pickF rfl rfl rfl rfl ?_
      refine xo_mv rfl rfl rfl ?_
      first
        | refine xo_not rfl rfl ?_
        | (refine xo_mv rfl rfl rfl ?_)
      first
        | refine xo_not rfl rfl ?_
        | (refine xo_mv rfl rfl rfl ?_)
      first
        | refine xo_not rfl rfl ?_
        | (refine xo_sget T_ rfl rfl rfl rfl rfl rfl (by repeat (first | exact List.Mem.head _ | exact List.mem_append_left _ (List.Mem.head _) | apply List.mem_append_right | apply List.Mem.tail)) rfl ?_)
      first
        | refine xo_not rfl rfl ?_
        | (refine xo_notOp rfl rfl rfl ?_)
      refine xo_as (i := 115) rfl (congrArg Value.bool hih) ?_
      first
        | refine xo_not rfl rfl ?_
        | (refine xo_mv rfl rfl rfl ?_)
      first
        | refine xo_not rfl rfl ?_
        | (refine xo_mv rfl rfl rfl ?_)
      first
        | refine xo_not rfl rfl ?_
        | (refine xo_len T_ rfl rfl rfl rfl ?_)
      first
        | refine xo_not rfl rfl ?_
        | (refine xo_gtr rfl rfl rfl rfl ?_)
      first
        | refine xo_not rfl rfl ?_
        | (first | refine xo_pickT rfl rfl rfl rfl ?_ | refine xo_pickF rfl rfl rfl rfl ?_)
      first | refine xo_pickT rfl rfl rfl rfl ?_ | refine xo_pickF rfl rfl rfl rfl ?_
      with_reducible refine xo_nil ?_
      with_reducible repeat (first | refine xq_then ?_ | refine xq_blockN ?_ | refine xq_scopeN ?_)
      exact xq_meet _ _ _ () trivial ⟨rfl, rfl, rfl, rfl, rfl, rfl, rfl, rfl, trivial⟩ (by first | exact (by repeat (first | exact List.Sublist.refl _ | apply List.Sublist.cons_cons | apply List.Sublist.cons | exact List.nil_sublist _)) | skip)
    · have hT0 : T = [] := htn (by simpa using hih)
      have hT1 : decide ((0 : Int) < (T.length : Int)) = false := by rw [hT0]; rfl
      with_reducible repeat refine xc_seq ?_
      with_reducible refine xc_region ?_
      refine xo_mv rfl rfl rfl ?_
      refine xo_neq rfl rfl rfl rfl ?_
      refine xo_as (i := 89) rfl (congrArg Value.bool h00) ?_
      refine xo_mv rfl rfl rfl ?_
      first
        | refine xo_not rfl rfl ?_
        | (refine xo_mv rfl rfl rfl ?_)
      first
        | refine xo_not rfl rfl ?_
        | (refine xo_neq rfl rfl rfl rfl ?_)
      refine xo_as (i := 92) rfl (congrArg Value.bool h00) ?_
      first | refine xo_pickT rfl rfl rfl rfl ?_ | refine xo_pickF rfl rfl rfl rfl ?_
      refine xo_mv rfl rfl rfl ?_
      first
        | refine xo_not rfl rfl ?_
        | (refine xo_mv rfl rfl rfl ?_)
      first
        | refine xo_not rfl rfl ?_
        | (refine xo_notOp rfl rfl rfl ?_)
      first | refine xo_pickT rfl rfl rfl rfl ?_ | refine xo_pickF rfl rfl rfl rfl ?_
      refine xo_mv rfl rfl rfl ?_
      first
        | refine xo_not rfl rfl ?_
        | (refine xo_mv rfl rfl rfl ?_)
      first
        | refine xo_not rfl rfl ?_
        | (refine xo_notOp rfl rfl rfl ?_)
      first | refine xo_pickT rfl rfl rfl rfl ?_ | refine xo_pickF rfl rfl rfl rfl ?_
      refine xo_mv rfl rfl rfl ?_
      first
        | refine xo_not rfl rfl ?_
        | (refine xo_mv rfl rfl rfl ?_)
      first
        | refine xo_not rfl rfl ?_
        | (refine xo_mv rfl rfl rfl ?_)
      first
        | refine xo_not rfl rfl ?_
        | (refine xo_sget T_ rfl rfl rfl rfl rfl rfl (by repeat (first | exact List.Mem.head _ | exact List.mem_append_left _ (List.Mem.head _) | apply List.mem_append_right | apply List.Mem.tail)) rfl ?_)
      first
        | refine xo_not rfl rfl ?_
        | (refine xo_mv rfl rfl rfl ?_)
      first
        | refine xo_not rfl rfl ?_
        | (refine xo_mv rfl rfl rfl ?_)
      first
        | refine xo_not rfl rfl ?_
        | (refine xo_sget T_ rfl rfl rfl rfl rfl rfl (by repeat (first | exact List.Mem.head _ | exact List.mem_append_left _ (List.Mem.head _) | apply List.mem_append_right | apply List.Mem.tail)) rfl ?_)
      first
        | refine xo_not rfl rfl ?_
        | (refine xo_neqB Tryd.underlying4 rfl rfl rfl rfl ?_)
      refine xo_as (i := 109) rfl (congrArg Value.bool hne) ?_
      first | refine xo_pickT rfl rfl rfl rfl ?_ | refine xo_pickF rfl rfl rfl rfl ?_
      refine xo_mv rfl rfl rfl ?_
      first
        | refine xo_not rfl rfl ?_
        | (refine xo_mv rfl rfl rfl ?_)
      first
        | refine xo_not rfl rfl ?_
        | (refine xo_mv rfl rfl rfl ?_)
      first
        | refine xo_not rfl rfl ?_
        | (refine xo_sget T_ rfl rfl rfl rfl rfl rfl (by repeat (first | exact List.Mem.head _ | exact List.mem_append_left _ (List.Mem.head _) | apply List.mem_append_right | apply List.Mem.tail)) rfl ?_)
      first
        | refine xo_not rfl rfl ?_
        | (refine xo_notOp rfl rfl rfl ?_)
      refine xo_as (i := 115) rfl (congrArg Value.bool hih) ?_
      first
        | refine xo_not rfl rfl ?_
        | (refine xo_mv rfl rfl rfl ?_)
      first
        | refine xo_not rfl rfl ?_
        | (refine xo_mv rfl rfl rfl ?_)
      first
        | refine xo_not rfl rfl ?_
        | (refine xo_lenR T_ rfl rfl (fun h => by rw [h06 h]; rfl) rfl rfl ?_)
      first
        | refine xo_not rfl rfl ?_
        | (refine xo_gtr rfl rfl rfl rfl ?_)
      refine xo_as (i := 119) rfl (congrArg Value.bool hT1) ?_
      first
        | refine xo_not rfl rfl ?_
        | (first | refine xo_pickT rfl rfl rfl rfl ?_ | refine xo_pickF rfl rfl rfl rfl ?_)
      first | refine xo_pickT rfl rfl rfl rfl ?_ | refine xo_pickF rfl rfl rfl rfl ?_
      with_reducible refine xo_nil ?_
      with_reducible repeat (first | refine xq_then ?_ | refine xq_blockN ?_ | refine xq_scopeN ?_)
      exact xq_meet _ _ _ () trivial ⟨rfl, rfl, rfl, rfl, rfl, rfl, rfl, rfl, trivial⟩ (by first | exact (by repeat (first | exact List.Sublist.refl _ | apply List.Sublist.cons_cons | apply List.Sublist.cons | exact List.nil_sublist _)) | skip)
  with_reducible repeat refine xc_seq ?_
  refine xc_condF rfl ?_
  with_reducible refine xc_skip ?_
  with_reducible repeat (first | refine xq_then ?_ | refine xq_blockN ?_ | refine xq_scopeN ?_)
  with_reducible repeat refine xc_seq ?_
  with_reducible refine xc_region ?_
  refine xo_mv rfl rfl rfl ?_
  refine xo_len T_ rfl rfl rfl rfl ?_
  refine xo_mv rfl rfl rfl ?_
  with_reducible refine xo_nil ?_
  with_reducible repeat (first | refine xq_then ?_ | refine xq_blockN ?_ | refine xq_scopeN ?_)
  with_reducible repeat refine xc_seq ?_
  with_reducible refine xc_block ?_
  refine xc_loop (γ := Nat) (fun k => k ≤ r.length) (fun k => [(0, .slice (some ad) r.length c), (1, .slice B l.length c'), (9, .bool true), (10, .int .i64 d), (11, .int .i64 id), (16, .map (some MH)), (18, .map (some MT)), (122, .slice (some ad) r.length c), (123, .int .i64 (r.length : Int)), (124, .int .i64 (k : Int))]) (fun _ => [(MT, true, hmap (setV T)), (MH, true, hmap (setV H))]) (fun k => r.length - k) 0 (Nat.zero_le _) ⟨rfl, rfl, rfl, rfl, rfl, rfl, rfl, rfl, rfl, rfl, trivial⟩ (List.Sublist.refl _) ?_
  intro k hk1
  with_reducible repeat refine xc_seq ?_
  with_reducible refine xc_region ?_
  refine xo_lss rfl rfl rfl rfl ?_
  with_reducible refine xo_nil ?_
  with_reducible repeat (first | refine xq_then ?_ | refine xq_blockN ?_ | refine xq_scopeN ?_)
  with_reducible repeat refine xc_seq ?_
  refine xc_cond rfl (fun h => ?_) (fun h => ?_)
  · have hlt : k < r.length := by have := of_decide_eq_true h; omega
    obtain ⟨ad0, A2, c2, e0, r1', hc2, hw2⟩ := rec_at hr k hlt
    cases e0
    have hh := hhung k hlt
    rw [show idAt r k = (r.getD k zRec).f0 from rfl] at hh
    have hn2 := hw2.2.1
    clear r1
    generalize r.getD k zRec = x at *
    with_reducible refine xc_skip ?_
    with_reducible repeat (first | refine xq_then ?_ | refine xq_blockN ?_ | refine xq_scopeN ?_)
    with_reducible repeat refine xc_seq ?_
    with_reducible refine xc_block ?_
    with_reducible repeat refine xc_seq ?_
    with_reducible refine xc_region ?_
    refine xo_ia T_ rfl rfl rfl rfl rfl ⟨by omega, by omega⟩ rfl ?_
    refine xo_loadRN T_ rfl rfl rfl (by assumption) rfl rfl ?_
    refine xo_alloc T_ rfl rfl rfl rfl (fun b21 => ?_)
    refine xo_store T_ rfl rfl rfl rfl (by repeat (first | exact List.Mem.head _ | apply List.Mem.tail | apply List.mem_append_right)) rfl rfl rfl rfl (by repeat (first | exact Upd.head | apply Upd.tail | apply Upd.app)) rfl ?_
    with_reducible refine xo_nil ?_
    with_reducible repeat (first | refine xq_then ?_ | refine xq_blockN ?_ | refine xq_scopeN ?_)
    cases hxT : decide (x.f0 ∈ T)
    · with_reducible repeat refine xc_seq ?_
      with_reducible refine xc_region ?_
      refine xo_mv rfl rfl rfl ?_
      refine xo_fa T_ rfl rfl rfl rfl rfl ?_
      refine xo_load0 T_ rfl rfl rfl (by repeat (first | exact List.Mem.head _ | apply List.Mem.tail | apply List.mem_append_right)) rfl rfl ?_
      refine xo_sget T_ rfl rfl rfl rfl rfl rfl (by repeat (first | exact List.Mem.head _ | apply List.Mem.tail | apply List.mem_append_right)) rfl ?_
      refine xo_mv rfl rfl rfl ?_
      refine xo_as (i := 132) rfl (congrArg Value.bool hxT) ?_
      first
        | refine xo_not rfl rfl ?_
        | (refine xo_mv rfl rfl rfl ?_)
      first
        | refine xo_not rfl rfl ?_
        | (refine xo_fa T_ rfl rfl rfl rfl rfl ?_)
      first
        | refine xo_not rfl rfl ?_
        | (refine xo_load0 T_ rfl rfl rfl (by repeat (first | exact List.Mem.head _ | apply List.Mem.tail | apply List.mem_append_right)) rfl rfl ?_)
      first
        | refine xo_not rfl rfl ?_
        | (refine xo_sget T_ rfl rfl rfl rfl rfl rfl (by repeat (first | exact List.Mem.head _ | apply List.Mem.tail | apply List.mem_append_right)) rfl ?_)
      first
        | refine xo_not rfl rfl ?_
        | (refine xo_notOp rfl rfl rfl ?_)
      first | refine xo_pickT rfl rfl rfl rfl ?_ | refine xo_pickF rfl rfl rfl rfl ?_
      with_reducible refine xo_nil ?_
      with_reducible repeat (first | refine xq_then ?_ | refine xq_blockN ?_ | refine xq_scopeN ?_)
      with_reducible repeat refine xc_seq ?_
      refine xc_condF rfl ?_
      with_reducible refine xc_skip ?_
      with_reducible repeat (first | refine xq_then ?_ | refine xq_blockN ?_ | refine xq_scopeN ?_)
      with_reducible repeat refine xc_seq ?_
      with_reducible refine xc_region ?_
      refine xo_mv rfl rfl rfl ?_
      refine xo_fa T_ rfl rfl rfl rfl rfl ?_
      refine xo_load0 T_ rfl rfl rfl (by repeat (first | exact List.Mem.head _ | apply List.Mem.tail | apply List.mem_append_right)) rfl rfl ?_
      refine xo_sget T_ rfl rfl rfl rfl rfl rfl (by repeat (first | exact List.Mem.head _ | apply List.Mem.tail | apply List.mem_append_right)) rfl ?_
      refine xo_as (i := 142) rfl (congrArg Value.bool hxT) ?_
      refine xo_notOp rfl rfl rfl ?_
      refine xo_mv rfl rfl rfl ?_
      first
        | refine xo_not rfl rfl ?_
        | (refine xo_fa T_ rfl rfl rfl rfl rfl ?_)
      first
        | refine xo_not rfl rfl ?_
        | (refine xo_load0 T_ rfl rfl rfl (by repeat (first | exact List.Mem.head _ | apply List.Mem.tail | apply List.mem_append_right)) rfl rfl ?_)
      first
        | refine xo_not rfl rfl ?_
        | (refine xo_mv rfl rfl rfl ?_)
      first
        | refine xo_not rfl rfl ?_
        | (refine xo_eql rfl rfl rfl rfl ?_)
      first | refine xo_pickT rfl rfl rfl rfl ?_ | refine xo_pickF rfl rfl rfl rfl ?_
      with_reducible refine xo_nil ?_
      with_reducible repeat (first | refine xq_then ?_ | refine xq_blockN ?_ | refine xq_scopeN ?_)
      with_reducible repeat refine xc_seq ?_
      refine xc_condT rfl ?_
      with_reducible refine xc_exit ?_
      with_reducible repeat (first | refine xq_blockX ?_ | refine xq_thenE ?_ | refine xq_blockE rfl ?_ | refine xq_scopeE ?_)
      with_reducible repeat (first | refine xq_then ?_ | refine xq_blockN ?_ | refine xq_scopeN ?_)
      with_reducible repeat refine xc_seq ?_
      with_reducible refine xc_region ?_
      refine xo_add rfl rfl rfl (by omega) rfl ?_
      refine xo_mv rfl rfl rfl ?_
      with_reducible refine xo_nil ?_
      with_reducible repeat (first | refine xq_then ?_ | refine xq_blockN ?_ | refine xq_scopeN ?_)
      exact xq_again _ _ _ _ _ (k + 1) hlt (by omega) ⟨rfl, rfl, rfl, rfl, rfl, rfl, rfl, rfl, rfl, rfl, trivial⟩ (by repeat (first | exact List.Sublist.refl _ | apply List.Sublist.cons_cons | apply List.Sublist.cons | exact List.nil_sublist _))
    have hxT' := of_decide_eq_true hxT
    have hxH : decide (x.f0 ∈ H) = true := decide_eq_true (hTH _ hxT')
    with_reducible repeat refine xc_seq ?_
    with_reducible refine xc_region ?_
    refine xo_mv rfl rfl rfl ?_
    refine xo_fa T_ rfl rfl rfl rfl rfl ?_
    refine xo_load0 T_ rfl rfl rfl (by repeat (first | exact List.Mem.head _ | apply List.Mem.tail | apply List.mem_append_right)) rfl rfl ?_
    refine xo_sget T_ rfl rfl rfl rfl rfl rfl (by repeat (first | exact List.Mem.head _ | apply List.Mem.tail | apply List.mem_append_right)) rfl ?_
    refine xo_mv rfl rfl rfl ?_
    refine xo_as (i := 132) rfl (congrArg Value.bool hxT) ?_
    first
      | refine xo_not rfl rfl ?_
      | (refine xo_mv rfl rfl rfl ?_)
    first
      | refine xo_not rfl rfl ?_
      | (refine xo_fa T_ rfl rfl rfl rfl rfl ?_)
    first
      | refine xo_not rfl rfl ?_
      | (refine xo_load0 T_ rfl rfl rfl (by repeat (first | exact List.Mem.head _ | apply List.Mem.tail | apply List.mem_append_right)) rfl rfl ?_)
    first
      | refine xo_not rfl rfl ?_
      | (refine xo_sget T_ rfl rfl rfl rfl rfl rfl (by repeat (first | exact List.Mem.head _ | apply List.Mem.tail | apply List.mem_append_right)) rfl ?_)
    refine xo_as (i := 136) rfl (congrArg Value.bool hxH) ?_
    first
      | refine xo_not rfl rfl ?_
      | (refine xo_notOp rfl rfl rfl ?_)
    first | refine xo_pickT rfl rfl rfl rfl ?_ | refine xo_pickF rfl rfl rfl rfl ?_
    with_reducible refine xo_nil ?_
    with_reducible repeat (first | refine xq_then ?_ | refine xq_blockN ?_ | refine xq_scopeN ?_)
    with_reducible repeat refine xc_seq ?_
    refine xc_condF rfl ?_
    with_reducible refine xc_skip ?_
    with_reducible repeat (first | refine xq_then ?_ | refine xq_blockN ?_ | refine xq_scopeN ?_)
    cases hxi : decide (x.f0 = id)
    rotate_left
    · with_reducible repeat refine xc_seq ?_
      with_reducible refine xc_region ?_
      refine xo_mv rfl rfl rfl ?_
      refine xo_fa T_ rfl rfl rfl rfl rfl ?_
      refine xo_load0 T_ rfl rfl rfl (by repeat (first | exact List.Mem.head _ | apply List.Mem.tail | apply List.mem_append_right)) rfl rfl ?_
      refine xo_sget T_ rfl rfl rfl rfl rfl rfl (by repeat (first | exact List.Mem.head _ | apply List.Mem.tail | apply List.mem_append_right)) rfl ?_
      refine xo_as (i := 142) rfl (congrArg Value.bool hxT) ?_
      refine xo_notOp rfl rfl rfl ?_
      refine xo_mv rfl rfl rfl ?_
      first
        | refine xo_not rfl rfl ?_
        | (refine xo_fa T_ rfl rfl rfl rfl rfl ?_)
      first
        | refine xo_not rfl rfl ?_
        | (refine xo_load0 T_ rfl rfl rfl (by repeat (first | exact List.Mem.head _ | apply List.Mem.tail | apply List.mem_append_right)) rfl rfl ?_)
      first
        | refine xo_not rfl rfl ?_
        | (refine xo_mv rfl rfl rfl ?_)
      first
        | refine xo_not rfl rfl ?_
        | (refine xo_eql rfl rfl rfl rfl ?_)
      refine xo_as (i := 148) rfl (congrArg Value.bool hxi) ?_
      first | refine xo_pickT rfl rfl rfl rfl ?_ | refine xo_pickF rfl rfl rfl rfl ?_
      with_reducible refine xo_nil ?_
      with_reducible repeat (first | refine xq_then ?_ | refine xq_blockN ?_ | refine xq_scopeN ?_)
      with_reducible repeat refine xc_seq ?_
      refine xc_condT rfl ?_
      with_reducible refine xc_exit ?_
      with_reducible repeat (first | refine xq_blockX ?_ | refine xq_thenE ?_ | refine xq_blockE rfl ?_ | refine xq_scopeE ?_)
      with_reducible repeat (first | refine xq_then ?_ | refine xq_blockN ?_ | refine xq_scopeN ?_)
      with_reducible repeat refine xc_seq ?_
      with_reducible refine xc_region ?_
      refine xo_add rfl rfl rfl (by omega) rfl ?_
      refine xo_mv rfl rfl rfl ?_
      with_reducible refine xo_nil ?_
      with_reducible repeat (first | refine xq_then ?_ | refine xq_blockN ?_ | refine xq_scopeN ?_)
      exact xq_again _ _ _ _ _ (k + 1) hlt (by omega) ⟨rfl, rfl, rfl, rfl, rfl, rfl, rfl, rfl, rfl, rfl, trivial⟩ (by repeat (first | exact List.Sublist.refl _ | apply List.Sublist.cons_cons | apply List.Sublist.cons | exact List.nil_sublist _))
    with_reducible repeat refine xc_seq ?_
    with_reducible refine xc_region ?_
    refine xo_mv rfl rfl rfl ?_
    refine xo_fa T_ rfl rfl rfl rfl rfl ?_
    refine xo_load0 T_ rfl rfl rfl (by repeat (first | exact List.Mem.head _ | apply List.Mem.tail | apply List.mem_append_right)) rfl rfl ?_
    refine xo_sget T_ rfl rfl rfl rfl rfl rfl (by repeat (first | exact List.Mem.head _ | apply List.Mem.tail | apply List.mem_append_right)) rfl ?_
    refine xo_as (i := 142) rfl (congrArg Value.bool hxT) ?_
    refine xo_notOp rfl rfl rfl ?_
    refine xo_mv rfl rfl rfl ?_
    first
      | refine xo_not rfl rfl ?_
      | (refine xo_fa T_ rfl rfl rfl rfl rfl ?_)
    first
      | refine xo_not rfl rfl ?_
      | (refine xo_load0 T_ rfl rfl rfl (by repeat (first | exact List.Mem.head _ | apply List.Mem.tail | apply List.mem_append_right)) rfl rfl ?_)
    first
      | refine xo_not rfl rfl ?_
      | (refine xo_mv rfl rfl rfl ?_)
    first
      | refine xo_not rfl rfl ?_
      | (refine xo_eql rfl rfl rfl rfl ?_)
    refine xo_as (i := 148) rfl (congrArg Value.bool hxi) ?_
    first | refine xo_pickT rfl rfl rfl rfl ?_ | refine xo_pickF rfl rfl rfl rfl ?_
    with_reducible refine xo_nil ?_
    with_reducible repeat (first | refine xq_then ?_ | refine xq_blockN ?_ | refine xq_scopeN ?_)
    with_reducible repeat refine xc_seq ?_
    refine xc_condF rfl ?_
    with_reducible refine xc_skip ?_
    with_reducible repeat (first | refine xq_then ?_ | refine xq_blockN ?_ | refine xq_scopeN ?_)
    with_reducible repeat refine xc_seq ?_
    with_reducible refine xc_region ?_
    refine xo_fa T_ rfl rfl rfl rfl rfl ?_
    refine xo_load0 T_ rfl rfl rfl (by repeat (first | exact List.Mem.head _ | apply List.Mem.tail | apply List.mem_append_right)) rfl rfl ?_
    refine xo_len T_ rfl rfl rfl rfl ?_
    refine xo_mv rfl rfl rfl ?_
    with_reducible refine xo_nil ?_
    with_reducible repeat (first | refine xq_then ?_ | refine xq_blockN ?_ | refine xq_scopeN ?_)
    with_reducible repeat refine xc_seq ?_
    with_reducible refine xc_block ?_
    refine xc_loop (γ := Nat) (fun j => j ≤ x.f2.length) (fun j => [(0, .slice (some ad) r.length c), (1, .slice B l.length c'), (9, .bool true), (10, .int .i64 d), (11, .int .i64 id), (16, .map (some MH)), (18, .map (some MT)), (122, .slice (some ad) r.length c), (123, .int .i64 (r.length : Int)), (124, .int .i64 (k : Int)), (151, .slice A2 x.f2.length c2), (152, .int .i64 (x.f2.length : Int)), (153, .int .i64 (j : Int))]) (fun _ => [(MT, true, hmap (setV T)), (MH, true, hmap (setV H))]) (fun j => x.f2.length - j) 0 (Nat.zero_le _) ⟨rfl, rfl, rfl, rfl, rfl, rfl, rfl, rfl, rfl, rfl, rfl, rfl, rfl, trivial⟩ (by repeat (first | exact List.Sublist.refl _ | apply List.Sublist.cons_cons | apply List.Sublist.cons | exact List.nil_sublist _)) ?_
    intro j hj1
    with_reducible repeat refine xc_seq ?_
    with_reducible refine xc_region ?_
    refine xo_lss rfl rfl rfl rfl ?_
    with_reducible refine xo_nil ?_
    with_reducible repeat (first | refine xq_then ?_ | refine xq_blockN ?_ | refine xq_scopeN ?_)
    with_reducible repeat refine xc_seq ?_
    refine xc_cond rfl (fun h => ?_) (fun h => ?_)
    · have hjl : j < x.f2.length := by have := of_decide_eq_true h; omega
      obtain ⟨ad3, A3, c3, rfl, r3, hc3, hw3⟩ := way_at hw2 j hjl
      have hh2 := hh hxT' (of_decide_eq_false hxi) _ (getD_mem x.f2 [] j hjl)
      generalize x.f2.getD j [] = way at *
      have hn3 := hw3.2.1
      with_reducible refine xc_skip ?_
      with_reducible repeat (first | refine xq_then ?_ | refine xq_blockN ?_ | refine xq_scopeN ?_)
      with_reducible repeat refine xc_seq ?_
      with_reducible refine xc_block ?_
      with_reducible repeat refine xc_seq ?_
      with_reducible refine xc_region ?_
      refine xo_ia T_ rfl rfl rfl rfl rfl ⟨by omega, by omega⟩ rfl ?_
      refine xo_loadR0 T_ rfl rfl rfl (by first | assumption | exact RO.fld (by assumption) rfl) rfl ?_
      refine xo_asg rfl rfl rfl ?_
      with_reducible refine xo_nil ?_
      with_reducible repeat (first | refine xq_then ?_ | refine xq_blockN ?_ | refine xq_scopeN ?_)
      with_reducible repeat refine xc_seq ?_
      with_reducible refine xc_region ?_
      refine xo_asg rfl rfl rfl ?_
      refine xo_asg rfl rfl rfl ?_
      with_reducible refine xo_nil ?_
      with_reducible repeat (first | refine xq_then ?_ | refine xq_blockN ?_ | refine xq_scopeN ?_)
      with_reducible repeat refine xc_seq ?_
      with_reducible refine xc_region ?_
      refine xo_mv rfl rfl rfl ?_
      refine xo_len T_ rfl rfl rfl rfl ?_
      refine xo_mv rfl rfl rfl ?_
      with_reducible refine xo_nil ?_
      with_reducible repeat (first | refine xq_then ?_ | refine xq_blockN ?_ | refine xq_scopeN ?_)
      with_reducible repeat refine xc_seq ?_
      with_reducible refine xc_block ?_
      refine xc_loop (γ := Nat × Bool × Bool) (fun q => q.1 ≤ way.length ∧ q.2.1 = heldP H (way.take q.1) ∧ q.2.2 = hungP T (way.take q.1)) (fun q => [(0, .slice (some ad) r.length c), (1, .slice B l.length c'), (9, .bool true), (10, .int .i64 d), (11, .int .i64 id), (16, .map (some MH)), (18, .map (some MT)), (122, .slice (some ad) r.length c), (123, .int .i64 (r.length : Int)), (124, .int .i64 (k : Int)), (151, .slice (some ad3) x.f2.length c2), (152, .int .i64 (x.f2.length : Int)), (153, .int .i64 (j : Int)), (157, .slice A3 way.length c3), (158, .int .i64 (way.length : Int)), (159, .int .i64 (q.1 : Int)), (24, .bool q.2.1), (25, .bool q.2.2)]) (fun _ => [(MT, true, hmap (setV T)), (MH, true, hmap (setV H))]) (fun q => way.length - q.1) (0, true, false) ⟨Nat.zero_le _, rfl, rfl⟩ ⟨rfl, rfl, rfl, rfl, rfl, rfl, rfl, rfl, rfl, rfl, rfl, rfl, rfl, rfl, rfl, rfl, rfl, rfl, trivial⟩ (by repeat (first | exact List.Sublist.refl _ | apply List.Sublist.cons_cons | apply List.Sublist.cons | exact List.nil_sublist _)) ?_
      rintro ⟨i, a, b⟩ ⟨hi1, ha, hb⟩
      simp only at hi1 ha hb ⊢
      with_reducible repeat refine xc_seq ?_
      with_reducible refine xc_region ?_
      refine xo_lss rfl rfl rfl rfl ?_
      with_reducible refine xo_nil ?_
      with_reducible repeat (first | refine xq_then ?_ | refine xq_blockN ?_ | refine xq_scopeN ?_)
      with_reducible repeat refine xc_seq ?_
      refine xc_cond rfl (fun h => ?_) (fun h => ?_)
      · have hil : i < way.length := by have := of_decide_eq_true h; omega
        obtain ⟨ad4, e4, r4⟩ := int_at hw3 i hil
        cases e4
        have ha2 := all_take (fun n => decide (n ∈ H)) way 0 i hil
        have hb2 := take_any (fun n => decide (n ∈ T)) way 0 i hil
        generalize way.getD i 0 = nn at *
        with_reducible refine xc_skip ?_
        with_reducible repeat (first | refine xq_then ?_ | refine xq_blockN ?_ | refine xq_scopeN ?_)
        with_reducible repeat refine xc_seq ?_
        with_reducible refine xc_block ?_
        with_reducible repeat refine xc_seq ?_
        with_reducible refine xc_region ?_
        refine xo_ia T_ rfl rfl rfl rfl rfl ⟨by omega, by omega⟩ rfl ?_
        refine xo_loadR0 T_ rfl rfl rfl (by first | assumption | exact RO.fld (by assumption) rfl) rfl ?_
        refine xo_asg rfl rfl rfl ?_
        with_reducible refine xo_nil ?_
        with_reducible repeat (first | refine xq_then ?_ | refine xq_blockN ?_ | refine xq_scopeN ?_)
        have ha' : (a && decide (nn ∈ H)) = heldP H (way.take (i + 1)) := by unfold heldP; rw [ha2, ha]; rfl
        have hb' : (b || decide (nn ∈ T)) = hungP T (way.take (i + 1)) := by unfold hungP; rw [hb2, hb]; rfl
        clear ha2 hb2
        rcases a with _ | _ <;> rcases b with _ | _
        · with_reducible repeat refine xc_seq ?_
          refine xc_slots (([(0, .slice (some ad) r.length c), (1, .slice B l.length c'), (9, .bool true), (10, .int .i64 d), (11, .int .i64 id), (16, .map (some MH)), (18, .map (some MT)), (122, .slice (some ad) r.length c), (123, .int .i64 (r.length : Int)), (124, .int .i64 (k : Int)), (151, .slice (some ad3) x.f2.length c2), (152, .int .i64 (x.f2.length : Int)), (153, .int .i64 (j : Int)), (157, .slice (some ad4) way.length c3), (158, .int .i64 (way.length : Int)), (159, .int .i64 (i : Int)), (27, .int .i64 nn)] : Slots) ++ [(24, .bool false), (25, .bool false)]) (by repeat (first | exact trivial | refine ⟨rfl, ?_⟩)) ?_
          apply xc_drawV [(24, .bool false), (25, .bool false)]
          apply SameLen.cons
          apply SameLen.cons
          apply SameLen.cons
          apply SameLen.cons
          apply SameLen.cons
          apply SameLen.cons
          apply SameLen.cons
          apply SameLen.cons
          apply SameLen.cons
          apply SameLen.cons
          apply SameLen.cons
          apply SameLen.cons
          apply SameLen.cons
          apply SameLen.cons
          exact SameLen.nil
          rotate_left 14
          case hmix => exact T_.mixed
          case hdeps => rfl
          case hdist => rfl
          case hfresh => rfl
          · apply DrawV.cons
            · intro τ
              refine xo_mv rfl rfl rfl ?_
              exact xo_fin rfl
            apply DrawV.cons
            · intro τ
              refine xo_mv rfl rfl rfl ?_
              exact xo_fin rfl
            apply DrawV.cons
            · intro τ
              first
                | refine xo_not rfl rfl ?_
                | (refine xo_mv rfl rfl rfl ?_)
              exact xo_fin rfl
            apply DrawV.cons
            · intro τ
              first
                | refine xo_not rfl rfl ?_
                | (refine xo_mv rfl rfl rfl ?_)
              exact xo_fin rfl
            apply DrawV.cons
            · intro τ
              first
                | refine xo_not rfl rfl ?_
                | (refine xo_sget T_ rfl rfl rfl rfl rfl rfl (by repeat (first | exact List.Mem.head _ | apply List.Mem.tail | apply List.mem_append_right)) rfl ?_)
              exact xo_fin rfl
            apply DrawV.cons
            · intro τ
              first | refine xo_pickT rfl rfl rfl rfl ?_ | refine xo_pickF rfl rfl rfl rfl ?_
              exact xo_fin rfl
            apply DrawV.cons
            · intro τ
              refine xo_mv rfl rfl rfl ?_
              exact xo_fin rfl
            apply DrawV.cons
            · intro τ
              refine xo_mv rfl rfl rfl ?_
              exact xo_fin rfl
            apply DrawV.cons
            · intro τ
              first
                | refine xo_not rfl rfl ?_
                | (refine xo_mv rfl rfl rfl ?_)
              exact xo_fin rfl
            apply DrawV.cons
            · intro τ
              first
                | refine xo_not rfl rfl ?_
                | (refine xo_mv rfl rfl rfl ?_)
              exact xo_fin rfl
            apply DrawV.cons
            · intro τ
              first
                | refine xo_not rfl rfl ?_
                | (refine xo_sget T_ rfl rfl rfl rfl rfl rfl (by repeat (first | exact List.Mem.head _ | apply List.Mem.tail | apply List.mem_append_right)) rfl ?_)
              exact xo_fin rfl
            apply DrawV.cons
            · intro τ
              first | refine xo_pickT rfl rfl rfl rfl ?_ | refine xo_pickF rfl rfl rfl rfl ?_
              exact xo_fin rfl
            apply DrawV.cons
            · intro τ
              refine xo_asg rfl rfl rfl ?_
              exact xo_fin rfl
            apply DrawV.cons
            · intro τ
              refine xo_asg rfl rfl rfl ?_
              exact xo_fin rfl
            exact DrawV.nil
          with_reducible repeat (first | refine xq_then ?_ | refine xq_blockN ?_ | refine xq_scopeN ?_)
          with_reducible repeat refine xc_seq ?_
          with_reducible refine xc_region ?_
          refine xo_add rfl rfl rfl (by omega) rfl ?_
          refine xo_mv rfl rfl rfl ?_
          with_reducible refine xo_nil ?_
          with_reducible repeat (first | refine xq_then ?_ | refine xq_blockN ?_ | refine xq_scopeN ?_)
          exact xq_again _ _ _ _ _ (i + 1, false && decide (nn ∈ H), false || decide (nn ∈ T)) ⟨by simp only; omega, ha', hb'⟩ (by simp only; omega) ⟨rfl, rfl, rfl, rfl, rfl, rfl, rfl, rfl, rfl, rfl, rfl, rfl, rfl, rfl, rfl, rfl, rfl, rfl, trivial⟩ (by repeat (first | exact List.Sublist.refl _ | apply List.Sublist.cons_cons | apply List.Sublist.cons | exact List.nil_sublist _))
        · with_reducible repeat refine xc_seq ?_
          refine xc_slots (([(0, .slice (some ad) r.length c), (1, .slice B l.length c'), (9, .bool true), (10, .int .i64 d), (11, .int .i64 id), (16, .map (some MH)), (18, .map (some MT)), (122, .slice (some ad) r.length c), (123, .int .i64 (r.length : Int)), (124, .int .i64 (k : Int)), (151, .slice (some ad3) x.f2.length c2), (152, .int .i64 (x.f2.length : Int)), (153, .int .i64 (j : Int)), (157, .slice (some ad4) way.length c3), (158, .int .i64 (way.length : Int)), (159, .int .i64 (i : Int)), (27, .int .i64 nn)] : Slots) ++ [(24, .bool false), (25, .bool true)]) (by repeat (first | exact trivial | refine ⟨rfl, ?_⟩)) ?_
          apply xc_drawV [(24, .bool false), (25, .bool true)]
          apply SameLen.cons
          apply SameLen.cons
          apply SameLen.cons
          apply SameLen.cons
          apply SameLen.cons
          apply SameLen.cons
          apply SameLen.cons
          apply SameLen.cons
          apply SameLen.cons
          apply SameLen.cons
          apply SameLen.cons
          apply SameLen.cons
          apply SameLen.cons
          apply SameLen.cons
          exact SameLen.nil
          rotate_left 14
          case hmix => exact T_.mixed
          case hdeps => rfl
          case hdist => rfl
          case hfresh => rfl
          · apply DrawV.cons
            · intro τ
              refine xo_mv rfl rfl rfl ?_
              exact xo_fin rfl
            apply DrawV.cons
            · intro τ
              refine xo_mv rfl rfl rfl ?_
              exact xo_fin rfl
            apply DrawV.cons
            · intro τ
              first
                | refine xo_not rfl rfl ?_
                | (refine xo_mv rfl rfl rfl ?_)
              exact xo_fin rfl
            apply DrawV.cons
            · intro τ
              first
                | refine xo_not rfl rfl ?_
                | (refine xo_mv rfl rfl rfl ?_)
              exact xo_fin rfl
            apply DrawV.cons
            · intro τ
              first
                | refine xo_not rfl rfl ?_
                | (refine xo_sget T_ rfl rfl rfl rfl rfl rfl (by repeat (first | exact List.Mem.head _ | apply List.Mem.tail | apply List.mem_append_right)) rfl ?_)
              exact xo_fin rfl
            apply DrawV.cons
            · intro τ
              first | refine xo_pickT rfl rfl rfl rfl ?_ | refine xo_pickF rfl rfl rfl rfl ?_
              exact xo_fin rfl
            apply DrawV.cons
            · intro τ
              refine xo_mv rfl rfl rfl ?_
              exact xo_fin rfl
            apply DrawV.cons
            · intro τ
              refine xo_mv rfl rfl rfl ?_
              exact xo_fin rfl
            apply DrawV.cons
            · intro τ
              first
                | refine xo_not rfl rfl ?_
                | (refine xo_mv rfl rfl rfl ?_)
              exact xo_fin rfl
            apply DrawV.cons
            · intro τ
              first
                | refine xo_not rfl rfl ?_
                | (refine xo_mv rfl rfl rfl ?_)
              exact xo_fin rfl
            apply DrawV.cons
            · intro τ
              first
                | refine xo_not rfl rfl ?_
                | (refine xo_sget T_ rfl rfl rfl rfl rfl rfl (by repeat (first | exact List.Mem.head _ | apply List.Mem.tail | apply List.mem_append_right)) rfl ?_)
              exact xo_fin rfl
            apply DrawV.cons
            · intro τ
              first | refine xo_pickT rfl rfl rfl rfl ?_ | refine xo_pickF rfl rfl rfl rfl ?_
              exact xo_fin rfl
            apply DrawV.cons
            · intro τ
              refine xo_asg rfl rfl rfl ?_
              exact xo_fin rfl
            apply DrawV.cons
            · intro τ
              refine xo_asg rfl rfl rfl ?_
              exact xo_fin rfl
            exact DrawV.nil
          with_reducible repeat (first | refine xq_then ?_ | refine xq_blockN ?_ | refine xq_scopeN ?_)
          with_reducible repeat refine xc_seq ?_
          with_reducible refine xc_region ?_
          refine xo_add rfl rfl rfl (by omega) rfl ?_
          refine xo_mv rfl rfl rfl ?_
          with_reducible refine xo_nil ?_
          with_reducible repeat (first | refine xq_then ?_ | refine xq_blockN ?_ | refine xq_scopeN ?_)
          exact xq_again _ _ _ _ _ (i + 1, false && decide (nn ∈ H), true || decide (nn ∈ T)) ⟨by simp only; omega, ha', hb'⟩ (by simp only; omega) ⟨rfl, rfl, rfl, rfl, rfl, rfl, rfl, rfl, rfl, rfl, rfl, rfl, rfl, rfl, rfl, rfl, rfl, rfl, trivial⟩ (by repeat (first | exact List.Sublist.refl _ | apply List.Sublist.cons_cons | apply List.Sublist.cons | exact List.nil_sublist _))
        · with_reducible repeat refine xc_seq ?_
          refine xc_slots (([(0, .slice (some ad) r.length c), (1, .slice B l.length c'), (9, .bool true), (10, .int .i64 d), (11, .int .i64 id), (16, .map (some MH)), (18, .map (some MT)), (122, .slice (some ad) r.length c), (123, .int .i64 (r.length : Int)), (124, .int .i64 (k : Int)), (151, .slice (some ad3) x.f2.length c2), (152, .int .i64 (x.f2.length : Int)), (153, .int .i64 (j : Int)), (157, .slice (some ad4) way.length c3), (158, .int .i64 (way.length : Int)), (159, .int .i64 (i : Int)), (27, .int .i64 nn)] : Slots) ++ [(24, .bool true), (25, .bool false)]) (by repeat (first | exact trivial | refine ⟨rfl, ?_⟩)) ?_
          apply xc_drawV [(24, .bool true), (25, .bool false)]
          apply SameLen.cons
          apply SameLen.cons
          apply SameLen.cons
          apply SameLen.cons
          apply SameLen.cons
          apply SameLen.cons
          apply SameLen.cons
          apply SameLen.cons
          apply SameLen.cons
          apply SameLen.cons
          apply SameLen.cons
          apply SameLen.cons
          apply SameLen.cons
          apply SameLen.cons
          exact SameLen.nil
          rotate_left 14
          case hmix => exact T_.mixed
          case hdeps => rfl
          case hdist => rfl
          case hfresh => rfl
          · apply DrawV.cons
            · intro τ
              refine xo_mv rfl rfl rfl ?_
              exact xo_fin rfl
            apply DrawV.cons
            · intro τ
              refine xo_mv rfl rfl rfl ?_
              exact xo_fin rfl
            apply DrawV.cons
            · intro τ
              first
                | refine xo_not rfl rfl ?_
                | (refine xo_mv rfl rfl rfl ?_)
              exact xo_fin rfl
            apply DrawV.cons
            · intro τ
              first
                | refine xo_not rfl rfl ?_
                | (refine xo_mv rfl rfl rfl ?_)
              exact xo_fin rfl
            apply DrawV.cons
            · intro τ
              first
                | refine xo_not rfl rfl ?_
                | (refine xo_sget T_ rfl rfl rfl rfl rfl rfl (by repeat (first | exact List.Mem.head _ | apply List.Mem.tail | apply List.mem_append_right)) rfl ?_)
              exact xo_fin rfl
            apply DrawV.cons
            · intro τ
              first | refine xo_pickT rfl rfl rfl rfl ?_ | refine xo_pickF rfl rfl rfl rfl ?_
              exact xo_fin rfl
            apply DrawV.cons
            · intro τ
              refine xo_mv rfl rfl rfl ?_
              exact xo_fin rfl
            apply DrawV.cons
            · intro τ
              refine xo_mv rfl rfl rfl ?_
              exact xo_fin rfl
            apply DrawV.cons
            · intro τ
              first
                | refine xo_not rfl rfl ?_
                | (refine xo_mv rfl rfl rfl ?_)
              exact xo_fin rfl
            apply DrawV.cons
            · intro τ
              first
                | refine xo_not rfl rfl ?_
                | (refine xo_mv rfl rfl rfl ?_)
              exact xo_fin rfl
            apply DrawV.cons
            · intro τ
              first
                | refine xo_not rfl rfl ?_
                | (refine xo_sget T_ rfl rfl rfl rfl rfl rfl (by repeat (first | exact List.Mem.head _ | apply List.Mem.tail | apply List.mem_append_right)) rfl ?_)
              exact xo_fin rfl
            apply DrawV.cons
            · intro τ
              first | refine xo_pickT rfl rfl rfl rfl ?_ | refine xo_pickF rfl rfl rfl rfl ?_
              exact xo_fin rfl
            apply DrawV.cons
            · intro τ
              refine xo_asg rfl rfl rfl ?_
              exact xo_fin rfl
            apply DrawV.cons
            · intro τ
              refine xo_asg rfl rfl rfl ?_
              exact xo_fin rfl
            exact DrawV.nil
          with_reducible repeat (first | refine xq_then ?_ | refine xq_blockN ?_ | refine xq_scopeN ?_)
          with_reducible repeat refine xc_seq ?_
          with_reducible refine xc_region ?_
          refine xo_add rfl rfl rfl (by omega) rfl ?_
          refine xo_mv rfl rfl rfl ?_
          with_reducible refine xo_nil ?_
          with_reducible repeat (first | refine xq_then ?_ | refine xq_blockN ?_ | refine xq_scopeN ?_)
          exact xq_again _ _ _ _ _ (i + 1, true && decide (nn ∈ H), false || decide (nn ∈ T)) ⟨by simp only; omega, ha', hb'⟩ (by simp only; omega) ⟨rfl, rfl, rfl, rfl, rfl, rfl, rfl, rfl, rfl, rfl, rfl, rfl, rfl, rfl, rfl, rfl, rfl, rfl, trivial⟩ (by repeat (first | exact List.Sublist.refl _ | apply List.Sublist.cons_cons | apply List.Sublist.cons | exact List.nil_sublist _))
        · with_reducible repeat refine xc_seq ?_
          refine xc_slots (([(0, .slice (some ad) r.length c), (1, .slice B l.length c'), (9, .bool true), (10, .int .i64 d), (11, .int .i64 id), (16, .map (some MH)), (18, .map (some MT)), (122, .slice (some ad) r.length c), (123, .int .i64 (r.length : Int)), (124, .int .i64 (k : Int)), (151, .slice (some ad3) x.f2.length c2), (152, .int .i64 (x.f2.length : Int)), (153, .int .i64 (j : Int)), (157, .slice (some ad4) way.length c3), (158, .int .i64 (way.length : Int)), (159, .int .i64 (i : Int)), (27, .int .i64 nn)] : Slots) ++ [(24, .bool true), (25, .bool true)]) (by repeat (first | exact trivial | refine ⟨rfl, ?_⟩)) ?_
          apply xc_drawV [(24, .bool true), (25, .bool true)]
          apply SameLen.cons
          apply SameLen.cons
          apply SameLen.cons
          apply SameLen.cons
          apply SameLen.cons
          apply SameLen.cons
          apply SameLen.cons
          apply SameLen.cons
          apply SameLen.cons
          apply SameLen.cons
          apply SameLen.cons
          apply SameLen.cons
          apply SameLen.cons
          apply SameLen.cons
          exact SameLen.nil
          rotate_left 14
          case hmix => exact T_.mixed
          case hdeps => rfl
          case hdist => rfl
          case hfresh => rfl
          · apply DrawV.cons
            · intro τ
              refine xo_mv rfl rfl rfl ?_
              exact xo_fin rfl
            apply DrawV.cons
            · intro τ
              refine xo_mv rfl rfl rfl ?_
              exact xo_fin rfl
            apply DrawV.cons
            · intro τ
              first
                | refine xo_not rfl rfl ?_
                | (refine xo_mv rfl rfl rfl ?_)
              exact xo_fin rfl
            apply DrawV.cons
            · intro τ
              first
                | refine xo_not rfl rfl ?_
                | (refine xo_mv rfl rfl rfl ?_)
              exact xo_fin rfl
            apply DrawV.cons
            · intro τ
              first
                | refine xo_not rfl rfl ?_
                | (refine xo_sget T_ rfl rfl rfl rfl rfl rfl (by repeat (first | exact List.Mem.head _ | apply List.Mem.tail | apply List.mem_append_right)) rfl ?_)
              exact xo_fin rfl
            apply DrawV.cons
            · intro τ
              first | refine xo_pickT rfl rfl rfl rfl ?_ | refine xo_pickF rfl rfl rfl rfl ?_
              exact xo_fin rfl
            apply DrawV.cons
            · intro τ
              refine xo_mv rfl rfl rfl ?_
              exact xo_fin rfl
            apply DrawV.cons
            · intro τ
              refine xo_mv rfl rfl rfl ?_
              exact xo_fin rfl
            apply DrawV.cons
            · intro τ
              first
                | refine xo_not rfl rfl ?_
                | (refine xo_mv rfl rfl rfl ?_)
              exact xo_fin rfl
            apply DrawV.cons
            · intro τ
              first
                | refine xo_not rfl rfl ?_
                | (refine xo_mv rfl rfl rfl ?_)
              exact xo_fin rfl
            apply DrawV.cons
            · intro τ
              first
                | refine xo_not rfl rfl ?_
                | (refine xo_sget T_ rfl rfl rfl rfl rfl rfl (by repeat (first | exact List.Mem.head _ | apply List.Mem.tail | apply List.mem_append_right)) rfl ?_)
              exact xo_fin rfl
            apply DrawV.cons
            · intro τ
              first | refine xo_pickT rfl rfl rfl rfl ?_ | refine xo_pickF rfl rfl rfl rfl ?_
              exact xo_fin rfl
            apply DrawV.cons
            · intro τ
              refine xo_asg rfl rfl rfl ?_
              exact xo_fin rfl
            apply DrawV.cons
            · intro τ
              refine xo_asg rfl rfl rfl ?_
              exact xo_fin rfl
            exact DrawV.nil
          with_reducible repeat (first | refine xq_then ?_ | refine xq_blockN ?_ | refine xq_scopeN ?_)
          with_reducible repeat refine xc_seq ?_
          with_reducible refine xc_region ?_
          refine xo_add rfl rfl rfl (by omega) rfl ?_
          refine xo_mv rfl rfl rfl ?_
          with_reducible refine xo_nil ?_
          with_reducible repeat (first | refine xq_then ?_ | refine xq_blockN ?_ | refine xq_scopeN ?_)
          exact xq_again _ _ _ _ _ (i + 1, true && decide (nn ∈ H), true || decide (nn ∈ T)) ⟨by simp only; omega, ha', hb'⟩ (by simp only; omega) ⟨rfl, rfl, rfl, rfl, rfl, rfl, rfl, rfl, rfl, rfl, rfl, rfl, rfl, rfl, rfl, rfl, rfl, rfl, trivial⟩ (by repeat (first | exact List.Sublist.refl _ | apply List.Sublist.cons_cons | apply List.Sublist.cons | exact List.nil_sublist _))
      · have hgei : ¬ i < way.length := by have := of_decide_eq_false h; omega
        rw [List.take_of_length_le (by omega)] at ha hb
        rw [← ha, ← hb] at hh2
        clear ha hb
        with_reducible refine xc_exit ?_
        with_reducible repeat (first | refine xq_blockX ?_ | refine xq_thenE ?_ | refine xq_blockE rfl ?_ | refine xq_scopeE ?_)
        with_reducible repeat (first | refine xq_then ?_ | refine xq_blockN ?_ | refine xq_scopeN ?_)
        rcases a with _ | _ <;> rcases b with _ | _
        · with_reducible repeat refine xc_seq ?_
          with_reducible refine xc_region ?_
          refine xo_mv rfl rfl rfl ?_
          refine xo_mv rfl rfl rfl ?_
          first
            | refine xo_not rfl rfl ?_
            | (refine xo_mv rfl rfl rfl ?_)
          first
            | refine xo_not rfl rfl ?_
            | (refine xo_notOp rfl rfl rfl ?_)
          first | refine xo_pickT rfl rfl rfl rfl ?_ | refine xo_pickF rfl rfl rfl rfl ?_
          with_reducible refine xo_nil ?_
          with_reducible repeat (first | refine xq_then ?_ | refine xq_blockN ?_ | refine xq_scopeN ?_)
          with_reducible repeat refine xc_seq ?_
          refine xc_condF rfl ?_
          with_reducible refine xc_skip ?_
          with_reducible repeat (first | refine xq_then ?_ | refine xq_blockN ?_ | refine xq_scopeN ?_)
          with_reducible repeat refine xc_seq ?_
          with_reducible refine xc_region ?_
          refine xo_add rfl rfl rfl (by omega) rfl ?_
          refine xo_mv rfl rfl rfl ?_
          with_reducible refine xo_nil ?_
          with_reducible repeat (first | refine xq_then ?_ | refine xq_blockN ?_ | refine xq_scopeN ?_)
          exact xq_again _ _ _ _ _ (j + 1) hjl (by omega) ⟨rfl, rfl, rfl, rfl, rfl, rfl, rfl, rfl, rfl, rfl, rfl, rfl, rfl, trivial⟩ (by repeat (first | exact List.Sublist.refl _ | apply List.Sublist.cons_cons | apply List.Sublist.cons | exact List.nil_sublist _))
        · with_reducible repeat refine xc_seq ?_
          with_reducible refine xc_region ?_
          refine xo_mv rfl rfl rfl ?_
          refine xo_mv rfl rfl rfl ?_
          first
            | refine xo_not rfl rfl ?_
            | (refine xo_mv rfl rfl rfl ?_)
          first
            | refine xo_not rfl rfl ?_
            | (refine xo_notOp rfl rfl rfl ?_)
          first | refine xo_pickT rfl rfl rfl rfl ?_ | refine xo_pickF rfl rfl rfl rfl ?_
          with_reducible refine xo_nil ?_
          with_reducible repeat (first | refine xq_then ?_ | refine xq_blockN ?_ | refine xq_scopeN ?_)
          with_reducible repeat refine xc_seq ?_
          refine xc_condF rfl ?_
          with_reducible refine xc_skip ?_
          with_reducible repeat (first | refine xq_then ?_ | refine xq_blockN ?_ | refine xq_scopeN ?_)
          with_reducible repeat refine xc_seq ?_
          with_reducible refine xc_region ?_
          refine xo_add rfl rfl rfl (by omega) rfl ?_
          refine xo_mv rfl rfl rfl ?_
          with_reducible refine xo_nil ?_
          with_reducible repeat (first | refine xq_then ?_ | refine xq_blockN ?_ | refine xq_scopeN ?_)
          exact xq_again _ _ _ _ _ (j + 1) hjl (by omega) ⟨rfl, rfl, rfl, rfl, rfl, rfl, rfl, rfl, rfl, rfl, rfl, rfl, rfl, trivial⟩ (by repeat (first | exact List.Sublist.refl _ | apply List.Sublist.cons_cons | apply List.Sublist.cons | exact List.nil_sublist _))
        · cases hh2
        · with_reducible repeat refine xc_seq ?_
          with_reducible refine xc_region ?_
          refine xo_mv rfl rfl rfl ?_
          refine xo_mv rfl rfl rfl ?_
          first
            | refine xo_not rfl rfl ?_
            | (refine xo_mv rfl rfl rfl ?_)
          first
            | refine xo_not rfl rfl ?_
            | (refine xo_notOp rfl rfl rfl ?_)
          first | refine xo_pickT rfl rfl rfl rfl ?_ | refine xo_pickF rfl rfl rfl rfl ?_
          with_reducible refine xo_nil ?_
          with_reducible repeat (first | refine xq_then ?_ | refine xq_blockN ?_ | refine xq_scopeN ?_)
          with_reducible repeat refine xc_seq ?_
          refine xc_condF rfl ?_
          with_reducible refine xc_skip ?_
          with_reducible repeat (first | refine xq_then ?_ | refine xq_blockN ?_ | refine xq_scopeN ?_)
          with_reducible repeat refine xc_seq ?_
          with_reducible refine xc_region ?_
          refine xo_add rfl rfl rfl (by omega) rfl ?_
          refine xo_mv rfl rfl rfl ?_
          with_reducible refine xo_nil ?_
          with_reducible repeat (first | refine xq_then ?_ | refine xq_blockN ?_ | refine xq_scopeN ?_)
          exact xq_again _ _ _ _ _ (j + 1) hjl (by omega) ⟨rfl, rfl, rfl, rfl, rfl, rfl, rfl, rfl, rfl, rfl, rfl, rfl, rfl, trivial⟩ (by repeat (first | exact List.Sublist.refl _ | apply List.Sublist.cons_cons | apply List.Sublist.cons | exact List.nil_sublist _))
    · with_reducible refine xc_exit ?_
      with_reducible repeat (first | refine xq_blockX ?_ | refine xq_thenE ?_ | refine xq_blockE rfl ?_ | refine xq_scopeE ?_)
      with_reducible repeat (first | refine xq_then ?_ | refine xq_blockN ?_ | refine xq_scopeN ?_)
      with_reducible repeat refine xc_seq ?_
      with_reducible refine xc_region ?_
      refine xo_add rfl rfl rfl (by omega) rfl ?_
      refine xo_mv rfl rfl rfl ?_
      with_reducible refine xo_nil ?_
      with_reducible repeat (first | refine xq_then ?_ | refine xq_blockN ?_ | refine xq_scopeN ?_)
      exact xq_again _ _ _ _ _ (k + 1) hlt (by omega) ⟨rfl, rfl, rfl, rfl, rfl, rfl, rfl, rfl, rfl, rfl, trivial⟩ (by repeat (first | exact List.Sublist.refl _ | apply List.Sublist.cons_cons | apply List.Sublist.cons | exact List.nil_sublist _))
  · have hge : ¬ k < r.length := by have := of_decide_eq_false h; omega
    with_reducible refine xc_exit ?_
    with_reducible repeat (first | refine xq_blockX ?_ | refine xq_thenE ?_ | refine xq_blockE rfl ?_ | refine xq_scopeE ?_)
    with_reducible repeat (first | refine xq_then ?_ | refine xq_blockN ?_ | refine xq_scopeN ?_)
    with_reducible repeat refine xc_seq ?_
    with_reducible refine xc_region ?_
    refine xo_mv rfl rfl rfl ?_
    refine xo_call (fs := []) (cs := []) rfl rfl rfl next_enters rfl (fun w1 hw1 => (next_calls B c' l w1 (Kd.C_below hl hw1.kx.below) (fun x hx => (hlm x hx).1)).mono ?_)
    rintro e w2 ⟨rfl, hb⟩
    refine ⟨_, _, rfl, hw1.below hb, ?_⟩
    clear hb hw1
    refine xo_mv rfl rfl rfl ?_
    refine xo_ext rfl rfl rfl rfl ?_
    refine xo_ext rfl rfl rfl rfl ?_
    refine xo_asg rfl rfl rfl ?_
    refine xo_asg rfl rfl rfl ?_
    with_reducible refine xo_nil ?_
    with_reducible repeat (first | refine xq_then ?_ | refine xq_blockN ?_ | refine xq_scopeN ?_)
    with_reducible repeat refine xc_seq ?_
    with_reducible refine xc_region ?_
    refine xo_mv rfl rfl rfl ?_
    refine xo_notOp rfl rfl rfl ?_
    with_reducible refine xo_nil ?_
    with_reducible repeat (first | refine xq_then ?_ | refine xq_blockN ?_ | refine xq_scopeN ?_)
    with_reducible repeat refine xc_seq ?_
    refine xc_cond rfl (fun hnx => ?_) (fun hnx => ?_)
    · with_reducible repeat refine xc_seq ?_
      with_reducible refine xc_region ?_
      refine xo_mv rfl rfl rfl ?_
      refine xo_asg rfl rfl rfl ?_
      with_reducible refine xo_nil ?_
      with_reducible repeat (first | refine xq_then ?_ | refine xq_blockN ?_ | refine xq_scopeN ?_)
      with_reducible repeat refine xc_seq ?_
      with_reducible refine xc_ret ?_
      with_reducible repeat (first | refine xq_thenR ?_ | refine xq_blockR ?_ | refine xq_scopeR ?_)
      exact xq_ret1 rfl rfl fun w' hw => ⟨rfl, hw.kx.below⟩
    have hnB : nextB l = true := by cases hnb : nextB l <;> simp_all
    with_reducible refine xc_skip ?_
    with_reducible repeat (first | refine xq_then ?_ | refine xq_blockN ?_ | refine xq_scopeN ?_)
    have hck' := check_more hck hnB hd hid (k := 1) ⟨by decide, by decide⟩
    have ho' := open_ok hck' hd
    have hH' : holdsR r (l ++ [⟨nextN l, d, id, 1⟩]) d = holdsF r (goneF r (l ++ [⟨nextN l, d, id, 1⟩]) d) := by rw [holdsR, if_pos ho']
    have hkl' : BytesL (l ++ [⟨nextN l, d, id, 1⟩]) := fun x hx => by
      rcases List.mem_append.1 hx with h | h
      · exact hkl x h
      · rw [List.mem_singleton.1 h]; exact ⟨by show (0 : Int) ≤ 1; decide, by show (1 : Int) ≤ 255; decide⟩
    generalize holdsF r (goneF r (l ++ [⟨nextN l, d, id, 1⟩]) d) = NW at *
    obtain ⟨cells, hcl1, hcl2, hcl3, hcl4⟩ := C_cells hl (d := letK) (by decide)
    have hB0 : B = none → l.length = 0 := fun e => by
      subst e
      by_cases h : l.length = 0
      · exact h
      · obtain ⟨ad, e, _⟩ := hl.2.2 (by omega)
        cases e
    have e1 : l.length + 1 = (l ++ [(⟨nextN l, d, id, 1⟩ : LetT)]).length := by simp
    have e2 : cells.flatten ++ letV ⟨nextN l, d, id, 1⟩ = (cells ++ [letV ⟨nextN l, d, id, 1⟩]).flatten := by simp
    with_reducible repeat refine xc_seq ?_
    with_reducible refine xc_region ?_
    refine xo_mv rfl rfl rfl ?_
    refine xo_bs0 T_ 4 rfl rfl rfl rfl (fun b0 => ?_)
    refine xo_mv rfl rfl rfl ?_
    refine xo_appE TR_ rfl rfl rfl rfl rfl rfl rfl rfl (by rw [flat_len 4 cells hcl2, hcl1]) hB0 (fun p e w1 hw1 j u hj => hw1.kx.cell (hcl4 p e j u hj) (fun h => h)) (fun u hu => by obtain ⟨c, hc, hu⟩ := List.mem_flatten.1 hu; obtain ⟨j, hj, rfl⟩ := List.getElem_of_mem hc; exact letK.K_one (hcl3 j _ _ (List.getElem?_eq_getElem (by omega)) (List.getElem?_eq_getElem hj)) u hu) (by omega) rfl rfl (fun b3 cap3 => ?_)
    refine xo_mv rfl rfl rfl ?_
    refine xo_mv rfl rfl rfl ?_
    refine xo_mv rfl rfl rfl ?_
    refine xo_build TB_ rfl rfl rfl rfl rfl ?_
    refine xo_bsG T_ 4 rfl rfl rfl rfl rfl rfl rfl rfl rfl rfl (fun b200 => ?_)
    refine xo_app (r := some (b3, cap3)) (xs := cells.flatten) TR_ rfl rfl rfl rfl rfl rfl rfl rfl (by rw [flat_len 4 cells hcl2, hcl1]) rfl rfl (fun h => by cases h) (by omega) rfl rfl (fun r' hr' => ?_)
    rcases r' with _ | ⟨b5, cap5⟩
    · exact absurd rfl hr'
    change XO _ _ _ _ _ _ _ _ _ (putS _ (.slice (some ⟨b5, 0, none⟩) (l.length + 1) cap5) _) ((b5, true, orow 52 4 (l.length + 1) cap5 (cells.flatten ++ letV ⟨nextN l, d, id, 1⟩)) :: _) _
    rw [e1, e2]
    have hlo : ∀ {η : Hp} {w1 : World}, WOK w XNone η w1 → (b5, true, orow 52 4 (l ++ [(⟨nextN l, d, id, 1⟩ : LetT)]).length cap5 (cells ++ [letV ⟨nextN l, d, id, 1⟩]).flatten) ∈ η → Kd.C letK w1 (some ⟨b5, 0, none⟩) (l ++ [(⟨nextN l, d, id, 1⟩ : LetT)]).length (l ++ [⟨nextN l, d, id, 1⟩]) := fun hw1 hm => letters_own hw1 hm (by simp [hcl1]) (fun c hc => by
        rcases List.mem_append.1 hc with h | h
        · exact hcl2 c h
        · rw [List.mem_singleton.1 h]; rfl) (fun j x c hx hc => by
        by_cases hj : j < l.length
        · rw [List.getElem?_append_left hj] at hx
          rw [List.getElem?_append_left (by omega)] at hc
          exact k52_open (hcl3 j x c hx hc)
        · rw [List.getElem?_append_right (by omega)] at hx hc
          rw [hcl1] at hc
          cases hjj : j - l.length with
          | zero => rw [hjj] at hx hc; cases hx; cases hc; rfl
          | succ n => rw [hjj] at hx; cases hx) (by simp; omega)
    refine xo_mv rfl rfl rfl ?_
    refine xo_call (fs := []) (cs := []) rfl rfl rfl trustHolds_enters rfl (fun w1 hw1 => ?_)
    have h1 := hlo hw1 (List.Mem.head _)
    have h2 := trustHolds_calls (some ad) (some ⟨b5, 0, none⟩) c cap5 r (l ++ [⟨nextN l, d, id, 1⟩]) d w1 (Kd.C_below hr hw1.kx.below) h1 hk hkl'
    rw [hH', ho'] at h2
    refine h2.mono ?_
    clear h2 h1
    rintro e w2 ⟨r7, rfl, hrow, hb⟩
    have h07 := hrow.1
    refine ⟨_, _, rfl, hw1.row hb hrow, ?_⟩
    clear hrow hb hw1
    refine xo_mv rfl rfl rfl ?_
    refine xo_ext rfl rfl rfl rfl ?_
    refine xo_ext rfl rfl rfl rfl ?_
    refine xo_asg rfl rfl rfl ?_
    refine xo_asg rfl rfl rfl ?_
    with_reducible refine xo_nil ?_
    with_reducible repeat (first | refine xq_then ?_ | refine xq_blockN ?_ | refine xq_scopeN ?_)
    with_reducible repeat refine xc_seq ?_
    with_reducible refine xc_region ?_
    refine xo_mv rfl rfl rfl ?_
    refine xo_call (fs := []) (cs := []) rfl rfl rfl set_enters rfl (fun w1 hw1 => (setR_calls hw1 (by omega) (hw1.rowAt h07 (fun p hp => by subst hp; exact (by repeat (first | exact List.Mem.head _ | exact List.mem_append_left _ (List.Mem.head _) | apply List.mem_append_right | apply List.Mem.tail)))) hNs).mono ?_)
    rintro e w2 ⟨MN, rfl, hz⟩
    refine ⟨_, _, rfl, hw1.join hz (by simp), ?_⟩
    clear hz hw1
    refine xo_mv rfl rfl rfl ?_
    refine xo_ext rfl rfl rfl rfl ?_
    refine xo_ext rfl rfl rfl rfl ?_
    refine xo_asg rfl rfl rfl ?_
    refine xo_asg rfl rfl rfl ?_
    with_reducible refine xo_nil ?_
    with_reducible repeat (first | refine xq_then ?_ | refine xq_blockN ?_ | refine xq_scopeN ?_)
    with_reducible repeat refine xc_seq ?_
    with_reducible refine xc_region ?_
    refine xo_mv rfl rfl rfl ?_
    refine xo_neq rfl rfl rfl rfl ?_
    refine xo_as (i := 212) rfl (congrArg Value.bool h00) ?_
    refine xo_mv rfl rfl rfl ?_
    first
      | refine xo_not rfl rfl ?_
      | (refine xo_mv rfl rfl rfl ?_)
    first
      | refine xo_not rfl rfl ?_
      | (refine xo_notOp rfl rfl rfl ?_)
    first | refine xo_pickT rfl rfl rfl rfl ?_ | refine xo_pickF rfl rfl rfl rfl ?_
    with_reducible refine xo_nil ?_
    with_reducible repeat (first | refine xq_then ?_ | refine xq_blockN ?_ | refine xq_scopeN ?_)
    with_reducible repeat refine xc_seq ?_
    refine xc_condF rfl ?_
    with_reducible refine xc_skip ?_
    with_reducible repeat (first | refine xq_then ?_ | refine xq_blockN ?_ | refine xq_scopeN ?_)
    with_reducible repeat refine xc_seq ?_
    with_reducible refine xc_region ?_
    refine xo_mv rfl rfl rfl ?_
    refine xo_len T_ rfl rfl rfl rfl ?_
    refine xo_mv rfl rfl rfl ?_
    with_reducible refine xo_nil ?_
    with_reducible repeat (first | refine xq_then ?_ | refine xq_blockN ?_ | refine xq_scopeN ?_)
    with_reducible repeat refine xc_seq ?_
    with_reducible refine xc_block ?_
    refine xc_loop (γ := Nat) (fun k => k ≤ r.length) (fun k => [(0, .slice (some ad) r.length c), (9, .bool true), (16, .map (some MH)), (18, .map (some MT)), (32, .map (some MN)), (217, .slice (some ad) r.length c), (218, .int .i64 (r.length : Int)), (219, .int .i64 (k : Int))]) (fun _ => [(MN, true, hmap (setV NW)), (MT, true, hmap (setV T)), (MH, true, hmap (setV H))]) (fun k => r.length - k) 0 (Nat.zero_le _) ⟨rfl, rfl, rfl, rfl, rfl, rfl, rfl, rfl, trivial⟩ (List.Sublist.cons_cons _ ((List.sublist_cons_self _ _).trans (List.sublist_append_right _ _))) ?_
    intro k3 hk3
    with_reducible repeat refine xc_seq ?_
    with_reducible refine xc_region ?_
    refine xo_lss rfl rfl rfl rfl ?_
    with_reducible refine xo_nil ?_
    with_reducible repeat (first | refine xq_then ?_ | refine xq_blockN ?_ | refine xq_scopeN ?_)
    with_reducible repeat refine xc_seq ?_
    refine xc_cond rfl (fun h => ?_) (fun h => ?_)
    · have hlt : k3 < r.length := by have := of_decide_eq_true h; omega
      obtain ⟨ad0, A2, c2, e0, r1', hc2, hw2⟩ := rec_at hr k3 hlt
      cases e0
      have hf := hfin (r.getD k3 zRec).f0
      generalize r.getD k3 zRec = x at *
      with_reducible refine xc_skip ?_
      with_reducible repeat (first | refine xq_then ?_ | refine xq_blockN ?_ | refine xq_scopeN ?_)
      with_reducible repeat refine xc_seq ?_
      with_reducible refine xc_block ?_
      with_reducible repeat refine xc_seq ?_
      with_reducible refine xc_region ?_
      refine xo_ia T_ rfl rfl rfl rfl rfl ⟨by omega, by omega⟩ rfl ?_
      refine xo_loadRN T_ rfl rfl rfl (by assumption) rfl rfl ?_
      refine xo_alloc T_ rfl rfl rfl rfl (fun b35 => ?_)
      refine xo_store T_ rfl rfl rfl rfl (by repeat (first | exact List.Mem.head _ | apply List.Mem.tail | apply List.mem_append_right)) rfl rfl rfl rfl (by repeat (first | exact Upd.head | apply Upd.tail | apply Upd.app)) rfl ?_
      with_reducible refine xo_nil ?_
      with_reducible repeat (first | refine xq_then ?_ | refine xq_blockN ?_ | refine xq_scopeN ?_)
      cases hxh : decide (x.f0 ∈ H)
      all_goals
        rw [hxh] at hf
        with_reducible repeat refine xc_seq ?_
        with_reducible refine xc_region ?_
        refine xo_mv rfl rfl rfl ?_
        refine xo_fa T_ rfl rfl rfl rfl rfl ?_
        refine xo_load0 T_ rfl rfl rfl (by repeat (first | exact List.Mem.head _ | apply List.Mem.tail | apply List.mem_append_right)) rfl rfl ?_
        refine xo_sget T_ rfl rfl rfl rfl rfl rfl (by repeat (first | exact List.Mem.head _ | apply List.Mem.tail | apply List.mem_append_right)) rfl ?_
        refine xo_mv rfl rfl rfl ?_
        refine xo_fa T_ rfl rfl rfl rfl rfl ?_
        refine xo_load0 T_ rfl rfl rfl (by repeat (first | exact List.Mem.head _ | apply List.Mem.tail | apply List.mem_append_right)) rfl rfl ?_
        refine xo_sget T_ rfl rfl rfl rfl rfl rfl (by repeat (first | exact List.Mem.head _ | apply List.Mem.tail | apply List.mem_append_right)) rfl ?_
        refine xo_mv rfl rfl rfl ?_
        refine xo_as (i := 231) rfl (congrArg Value.bool hxh) ?_
        first
          | refine xo_not rfl rfl ?_
          | (refine xo_mv rfl rfl rfl ?_)
        first
          | refine xo_not rfl rfl ?_
          | (refine xo_fa T_ rfl rfl rfl rfl rfl ?_)
        first
          | refine xo_not rfl rfl ?_
          | (refine xo_load0 T_ rfl rfl rfl (by repeat (first | exact List.Mem.head _ | apply List.Mem.tail | apply List.mem_append_right)) rfl rfl ?_)
        first
          | refine xo_not rfl rfl ?_
          | (refine xo_sget T_ rfl rfl rfl rfl rfl rfl (by repeat (first | exact List.Mem.head _ | apply List.Mem.tail | apply List.mem_append_right)) rfl ?_)
        first
          | refine xo_not rfl rfl ?_
          | (refine xo_notOp rfl rfl rfl ?_)
        first | refine xo_pickT rfl rfl rfl rfl ?_ | refine xo_pickF rfl rfl rfl rfl ?_
        refine xo_neqB Tryd.underlying4 rfl rfl rfl rfl ?_
        refine xo_as (i := 238) rfl (congrArg Value.bool hf) ?_
        with_reducible refine xo_nil ?_
        with_reducible repeat (first | refine xq_then ?_ | refine xq_blockN ?_ | refine xq_scopeN ?_)
        with_reducible repeat refine xc_seq ?_
        refine xc_condF rfl ?_
        with_reducible refine xc_skip ?_
        with_reducible repeat (first | refine xq_then ?_ | refine xq_blockN ?_ | refine xq_scopeN ?_)
        with_reducible repeat refine xc_seq ?_
        with_reducible refine xc_region ?_
        refine xo_add rfl rfl rfl (by omega) rfl ?_
        refine xo_mv rfl rfl rfl ?_
        with_reducible refine xo_nil ?_
        with_reducible repeat (first | refine xq_then ?_ | refine xq_blockN ?_ | refine xq_scopeN ?_)
        exact xq_again _ _ _ _ _ (k3 + 1) hlt (by omega) ⟨rfl, rfl, rfl, rfl, rfl, rfl, rfl, rfl, trivial⟩ (by repeat (first | exact List.Sublist.refl _ | apply List.Sublist.cons_cons | apply List.Sublist.cons | exact List.nil_sublist _))
    · with_reducible refine xc_exit ?_
      with_reducible repeat (first | refine xq_blockX ?_ | refine xq_thenE ?_ | refine xq_blockE rfl ?_ | refine xq_scopeE ?_)
      with_reducible repeat (first | refine xq_then ?_ | refine xq_blockN ?_ | refine xq_scopeN ?_)
      with_reducible repeat refine xc_seq ?_
      with_reducible refine xc_region ?_
      refine xo_mv rfl rfl rfl ?_
      refine xo_asg rfl rfl rfl ?_
      with_reducible refine xo_nil ?_
      with_reducible repeat (first | refine xq_then ?_ | refine xq_blockN ?_ | refine xq_scopeN ?_)
      with_reducible repeat refine xc_seq ?_
      with_reducible refine xc_ret ?_
      with_reducible repeat (first | refine xq_thenR ?_ | refine xq_blockR ?_ | refine xq_scopeR ?_)
      exact xq_ret1 rfl rfl fun w' hw => ⟨rfl, hw.kx.below⟩
end Go.Proofs.YtcmepdamemnbkaaDoor
