/- law08.TrustExamples: the walk. -/
import Derived.Test.YtcmepdamemnbkaaDoorPkLawTrustExamples7
namespace Go.Proofs.YtcmepdamemnbkaaDoor
open Go.RowKit Go.Proofs.YtcmepdamemnbkaaDoorW.PrintWords
set_option linter.unusedVariables false
set_option linter.unusedSimpArgs false
set_option maxRecDepth 100000 in
set_option maxHeartbeats 64000000 in
theorem trustExamples_law (w : World) (hglob : GlobOK w) : Calls Tryd.prog 4 #[] w fun e w' => e = .returned (.bool true) ∧ Below w.heap.size w w' := by
  have h00 : (!decide ((0 : Int) = 0)) = false := rfl
  have h30 : (!decide ((30 : Int) = 30)) = false := rfl
  have hss : (!stEq ⟨50, 5, 3, 20, 0, 32⟩ ⟨50, 5, 3, 20, 0, 32⟩) = false := by rw [eq_st]; rfl
  refine x_calls (X := XNone) Tryd.func4 rfl rfl rfl ?_
  with_reducible repeat refine xc_seq ?_
  with_reducible refine xc_region ?_
  refine xo_asg rfl rfl rfl ?_
  with_reducible refine xo_nil ?_
  with_reducible repeat (first | refine xq_then ?_ | refine xq_blockN ?_ | refine xq_scopeN ?_)
  with_reducible repeat refine xc_seq ?_
  with_reducible refine xc_region ?_
  refine xo_mv rfl rfl rfl ?_
  first
    | refine xo_not rfl rfl ?_
    | (refine xo_callB (fs := []) (cs := []) rfl rfl rfl alive_enters rfl (fun w1 hw1 => alive_calls w1 (hglob.below hw1.kx.below)) ?_)
  first
    | refine xo_not rfl rfl ?_
    | (refine xo_notOp rfl rfl rfl ?_)
  first | refine xo_pickT rfl rfl rfl rfl ?_ | refine xo_pickF rfl rfl rfl rfl ?_
  refine xo_mv rfl rfl rfl ?_
  first
    | refine xo_not rfl rfl ?_
    | (refine xo_bsG T_ 1 rfl rfl rfl rfl rfl rfl rfl rfl rfl rfl (fun b23 => ?_))
  first
    | refine xo_not rfl rfl ?_
    | (refine xo_callB (fs := []) (cs := []) rfl rfl rfl onE_enters rfl (fun w1 hw1 => onE_calls 5 [1, 2, 3, 4, 5, 6, 7] (some ⟨b23, 0, none⟩) 7 w1 (ints_cel hw1 b23 [1, 2, 3, 4, 5, 6, 7] (by repeat (first | exact List.Mem.head _ | apply List.Mem.tail | apply List.mem_append_right)) rfl (by decide)) (by decide) x_o5 x_h5) ?_)
  first
    | refine xo_not rfl rfl ?_
    | (refine xo_notOp rfl rfl rfl ?_)
  first | refine xo_pickT rfl rfl rfl rfl ?_ | refine xo_pickF rfl rfl rfl rfl ?_
  refine xo_mv rfl rfl rfl ?_
  first
    | refine xo_not rfl rfl ?_
    | (refine xo_bsG T_ 1 rfl rfl rfl rfl rfl rfl rfl rfl rfl rfl (fun b28 => ?_))
  first
    | refine xo_not rfl rfl ?_
    | (refine xo_callB (fs := []) (cs := []) rfl rfl rfl takesE_enters rfl (fun w1 hw1 => takesE_calls 5 4 [4, 5, 7] (some ⟨b28, 0, none⟩) 3 w1 (ints_cel hw1 b28 [4, 5, 7] (by repeat (first | exact List.Mem.head _ | apply List.Mem.tail | apply List.mem_append_right)) rfl (by decide)) (by decide) x_o54 x_t54) ?_)
  first
    | refine xo_not rfl rfl ?_
    | (refine xo_notOp rfl rfl rfl ?_)
  first | refine xo_pickT rfl rfl rfl rfl ?_ | refine xo_pickF rfl rfl rfl rfl ?_
  refine xo_mv rfl rfl rfl ?_
  first
    | refine xo_not rfl rfl ?_
    | (refine xo_bsG T_ 1 rfl rfl rfl rfl rfl rfl rfl rfl rfl rfl (fun b33 => ?_))
  first
    | refine xo_not rfl rfl ?_
    | (refine xo_callB (fs := []) (cs := []) rfl rfl rfl restsE_enters rfl (fun w1 hw1 => restsE_calls 10 7 [2, 4, 5, 6, 7] (some ⟨b33, 0, none⟩) 5 w1 (ints_cel hw1 b33 [2, 4, 5, 6, 7] (by repeat (first | exact List.Mem.head _ | apply List.Mem.tail | apply List.mem_append_right)) rfl (by decide)) (by decide) x_rc107 x_r107) ?_)
  first
    | refine xo_not rfl rfl ?_
    | (refine xo_notOp rfl rfl rfl ?_)
  first | refine xo_pickT rfl rfl rfl rfl ?_ | refine xo_pickF rfl rfl rfl rfl ?_
  refine xo_mv rfl rfl rfl ?_
  first
    | refine xo_not rfl rfl ?_
    | (refine xo_bs1 T_ rfl rfl rfl rfl rfl rfl rfl rfl (fun b38 => ?_))
  first
    | refine xo_not rfl rfl ?_
    | (refine xo_callB (fs := []) (cs := []) rfl rfl rfl causesE_enters rfl (fun w1 hw1 => causesE_calls 20 7 [4] (some ⟨b38, 0, none⟩) 1 w1 (ints_cel hw1 b38 [4] (by repeat (first | exact List.Mem.head _ | apply List.Mem.tail | apply List.mem_append_right)) rfl (by decide)) (by decide) x_cc207 x_c207) ?_)
  first
    | refine xo_not rfl rfl ?_
    | (refine xo_notOp rfl rfl rfl ?_)
  first | refine xo_pickT rfl rfl rfl rfl ?_ | refine xo_pickF rfl rfl rfl rfl ?_
  with_reducible refine xo_nil ?_
  with_reducible repeat (first | refine xq_then ?_ | refine xq_blockN ?_ | refine xq_scopeN ?_)
  with_reducible repeat refine xc_seq ?_
  refine xc_condF rfl ?_
  with_reducible refine xc_skip ?_
  with_reducible repeat (first | refine xq_then ?_ | refine xq_blockN ?_ | refine xq_scopeN ?_)
  refine xc_sub (η' := []) (List.nil_sublist _) ?_
  with_reducible repeat refine xc_seq ?_
  with_reducible refine xc_region ?_
  refine xo_call (fs := []) (cs := []) rfl rfl rfl recordsE_enters rfl (fun w1 hw1 => (recordsE_calls w1).mono ?_)
  rintro e w2 ⟨ζr, br, rfl, hz, hR⟩
  refine ⟨_, _, rfl, hw1.join hz hR.1, ?_⟩
  clear hz hw1
  refine xo_call (fs := []) (cs := []) rfl rfl rfl movesE_enters rfl (fun w1 hw1 => (movesE_calls w1).mono ?_)
  rintro e w2 ⟨ζm, bm, rfl, hz, hM⟩
  refine ⟨_, _, rfl, hw1.join hz hM.1, ?_⟩
  clear hz hw1
  refine xo_callB (v := .tuple #[.agg (stV ⟨50, 5, 3, 20, 0, 32⟩).toArray, .int .i64 0]) (fs := []) (cs := []) rfl rfl rfl pieces_enters rfl (fun w1 hw1 => by rw [← x_p3, ← x_pc3]; exact pieces_calls (some ⟨br, 0, none⟩) (some ⟨bm, 0, none⟩) 7 6 recsE movsE 3 w1 (hR.2 _ _ _ _ hw1 (fun e he => by repeat (first | exact he | exact List.mem_append_left _ he | apply List.mem_append_right | apply List.Mem.tail))) (hM.2 _ _ _ _ hw1 (fun e he => by repeat (first | exact he | exact List.mem_append_left _ he | apply List.mem_append_right | apply List.Mem.tail))) byE byME (hglob.below hw1.kx.below)) ?_
  refine xo_mv rfl rfl rfl ?_
  refine xo_ext rfl rfl rfl rfl ?_
  refine xo_ext rfl rfl rfl rfl ?_
  refine xo_alloc T_ rfl rfl rfl rfl (fun b1 => ?_)
  refine xo_store T_ rfl rfl rfl rfl (by repeat (first | exact List.Mem.head _ | apply List.Mem.tail | apply List.mem_append_right)) rfl rfl rfl rfl (by repeat (first | exact Upd.head | apply Upd.tail | apply Upd.app)) rfl ?_
  refine xo_asg rfl rfl rfl ?_
  with_reducible refine xo_nil ?_
  with_reducible repeat (first | refine xq_then ?_ | refine xq_blockN ?_ | refine xq_scopeN ?_)
  with_reducible repeat refine xc_seq ?_
  with_reducible refine xc_region ?_
  refine xo_call (fs := []) (cs := []) rfl rfl rfl recordsE_enters rfl (fun w1 hw1 => (recordsE_calls w1).mono ?_)
  rintro e w2 ⟨ζr2, br2, rfl, hz, hR2⟩
  refine ⟨_, _, rfl, hw1.join hz hR2.1, ?_⟩
  clear hz hw1
  refine xo_call (fs := []) (cs := []) rfl rfl rfl letters_enters rfl (fun w1 hw1 => (letters_calls w1).mono ?_)
  rintro e w2 ⟨ζl, bl, rfl, hz, hL⟩
  refine ⟨_, _, rfl, hw1.join hz hL.1, ?_⟩
  clear hz hw1
  refine xo_call (fs := []) (cs := []) rfl rfl rfl movesE_enters rfl (fun w1 hw1 => (movesE_calls w1).mono ?_)
  rintro e w2 ⟨ζm2, bm2, rfl, hz, hM2⟩
  refine ⟨_, _, rfl, hw1.join hz hM2.1, ?_⟩
  clear hz hw1
  refine xo_call (fs := []) (cs := []) rfl rfl rfl recall_enters rfl (fun w1 hw1 => ?_)
  have h2 := recall_calls (some ⟨br2, 0, none⟩) (some ⟨bl, 0, none⟩) (some ⟨bm2, 0, none⟩) 7 3 6 recsE letsE movsE 20 w1 (hR2.2 _ _ _ _ hw1 (fun e he => by repeat (first | exact he | exact List.mem_append_left _ he | apply List.mem_append_right | apply List.Mem.tail))) (hL.2 _ _ _ _ hw1 (fun e he => by repeat (first | exact he | exact List.mem_append_left _ he | apply List.mem_append_right | apply List.Mem.tail))) (hM2.2 _ _ _ _ hw1 (fun e he => by repeat (first | exact he | exact List.mem_append_left _ he | apply List.mem_append_right | apply List.Mem.tail))) byE byLE byME (hglob.below hw1.kx.below)
  rw [x_rec20, x_recn20, x_recc20] at h2
  refine h2.mono ?_
  clear h2
  rintro e w2 ⟨r1, rfl, hrow, hb⟩
  have h0r1 := hrow.1
  refine ⟨_, _, rfl, hw1.row hb hrow, ?_⟩
  clear hrow hb hw1
  refine xo_mv rfl rfl rfl ?_
  refine xo_ext rfl rfl rfl rfl ?_
  refine xo_ext rfl rfl rfl rfl ?_
  refine xo_ext rfl rfl rfl rfl ?_
  refine xo_asg rfl rfl rfl ?_
  refine xo_asg rfl rfl rfl ?_
  refine xo_asg rfl rfl rfl ?_
  with_reducible refine xo_nil ?_
  with_reducible repeat (first | refine xq_then ?_ | refine xq_blockN ?_ | refine xq_scopeN ?_)
  with_reducible repeat refine xc_seq ?_
  with_reducible refine xc_region ?_
  refine xo_mv rfl rfl rfl ?_
  refine xo_neq rfl rfl rfl rfl ?_
  refine xo_as (i := 57) rfl (congrArg Value.bool h00) ?_
  refine xo_mv rfl rfl rfl ?_
  first
    | refine xo_not rfl rfl ?_
    | (refine xo_loadN T_ rfl rfl rfl (by repeat (first | exact List.Mem.head _ | exact List.mem_append_left _ (List.Mem.head _) | apply List.mem_append_right | apply List.Mem.tail)) rfl rfl ?_)
  first
    | refine xo_not rfl rfl ?_
    | (refine xo_build TB_ rfl rfl rfl rfl rfl ?_)
  first
    | refine xo_not rfl rfl ?_
    | (refine xo_neqSt (a := ⟨50, 5, 3, 20, 0, 32⟩) (b := ⟨50, 5, 3, 20, 0, 32⟩) rfl rfl rfl rfl ?_)
  refine xo_as (i := 61) rfl (congrArg Value.bool hss) ?_
  first | refine xo_pickT rfl rfl rfl rfl ?_ | refine xo_pickF rfl rfl rfl rfl ?_
  refine xo_mv rfl rfl rfl ?_
  first
    | refine xo_not rfl rfl ?_
    | (refine xo_mv rfl rfl rfl ?_)
  first
    | refine xo_not rfl rfl ?_
    | (refine xo_mv rfl rfl rfl ?_)
  first
    | refine xo_not rfl rfl ?_
    | (refine xo_bs1 T_ rfl rfl rfl rfl rfl rfl rfl rfl (fun b66 => ?_))
  first
    | refine xo_not rfl rfl ?_
    | (refine xo_callB (fs := []) (cs := []) rfl rfl rfl is_enters rfl (fun w1 hw1 => isR_calls (xs := [5]) hw1 (by decide) (hw1.rowAt h0r1 (fun p hp => by subst hp; exact (by repeat (first | exact List.Mem.head _ | exact List.mem_append_left _ (List.Mem.head _) | apply List.mem_append_right | apply List.Mem.tail)))) (some ⟨b66, 0, none⟩) 1 (ints_cel hw1 b66 [5] (by repeat (first | exact List.Mem.head _ | apply List.Mem.tail | apply List.mem_append_right)) rfl (by decide))) ?_)
  first
    | refine xo_not rfl rfl ?_
    | (refine xo_notOp rfl rfl rfl ?_)
  first | refine xo_pickT rfl rfl rfl rfl ?_ | refine xo_pickF rfl rfl rfl rfl ?_
  refine xo_mv rfl rfl rfl ?_
  first
    | refine xo_not rfl rfl ?_
    | (refine xo_mv rfl rfl rfl ?_)
  first
    | refine xo_not rfl rfl ?_
    | (refine xo_neq rfl rfl rfl rfl ?_)
  refine xo_as (i := 72) rfl (congrArg Value.bool h30) ?_
  first | refine xo_pickT rfl rfl rfl rfl ?_ | refine xo_pickF rfl rfl rfl rfl ?_
  with_reducible refine xo_nil ?_
  with_reducible repeat (first | refine xq_then ?_ | refine xq_blockN ?_ | refine xq_scopeN ?_)
  with_reducible repeat refine xc_seq ?_
  refine xc_condF rfl ?_
  with_reducible refine xc_skip ?_
  with_reducible repeat (first | refine xq_then ?_ | refine xq_blockN ?_ | refine xq_scopeN ?_)
  refine xc_sub (η' := []) (List.nil_sublist _) ?_
  with_reducible repeat refine xc_seq ?_
  with_reducible refine xc_region ?_
  refine xo_call (fs := []) (cs := []) rfl rfl rfl recordsE_enters rfl (fun w1 hw1 => (recordsX_calls w1).mono ?_)
  rintro e w2 ⟨b17, b15, b14, b12, b11, b10, b8, b7, b4, b3, rfl, hz⟩
  refine ⟨_, _, rfl, hw1.join hz (by simp), ?_⟩
  clear hz hw1
  refine xo_call (fs := []) (cs := []) rfl rfl rfl letters_enters rfl (fun w1 hw1 => (lettersX_calls w1).mono ?_)
  rintro e w2 ⟨bo, rfl, hz⟩
  refine ⟨_, _, rfl, hw1.join hz (by simp), ?_⟩
  clear hz hw1
  refine xo_call (fs := []) (cs := []) rfl rfl rfl movesE_enters rfl (fun w1 hw1 => (movesX_calls w1).mono ?_)
  rintro e w2 ⟨bt, rfl, hz⟩
  refine ⟨_, _, rfl, hw1.join hz (by simp), ?_⟩
  clear hz hw1
  refine xo_asg rfl rfl rfl ?_
  refine xo_asg rfl rfl rfl ?_
  refine xo_asg rfl rfl rfl ?_
  with_reducible refine xo_nil ?_
  with_reducible repeat (first | refine xq_then ?_ | refine xq_blockN ?_ | refine xq_scopeN ?_)
  with_reducible repeat refine xc_seq ?_
  with_reducible refine xc_region ?_
  refine xo_mv rfl rfl rfl ?_
  refine xo_ia T_ rfl rfl rfl rfl rfl ⟨by omega, by omega⟩ rfl ?_
  refine xo_faR T_ rfl rfl rfl rfl rfl ?_
  refine xo_loadI T_ (b := b17) (o := 6) (k := 2) rfl rfl rfl (by repeat (first | exact List.Mem.head _ | apply List.Mem.tail | apply List.mem_append_right)) rfl rfl ?_
  refine xo_ia T_ rfl rfl rfl rfl rfl ⟨by omega, by omega⟩ rfl ?_
  refine xo_loadI T_ (b := b4) (o := 0) (k := 0) rfl rfl rfl (by repeat (first | exact List.Mem.head _ | apply List.Mem.tail | apply List.mem_append_right)) rfl rfl ?_
  refine xo_ia T_ rfl rfl rfl rfl rfl ⟨by omega, by omega⟩ rfl ?_
  refine xo_storeI T_ (b := b3) (o := 0) (k := 1) rfl rfl rfl rfl (by repeat (first | exact List.Mem.head _ | apply List.Mem.tail | apply List.mem_append_right)) rfl rfl (by decide) (by repeat (first | exact Upd.head | apply Upd.tail | apply Upd.app)) rfl ?_
  with_reducible refine xo_nil ?_
  with_reducible repeat (first | refine xq_then ?_ | refine xq_blockN ?_ | refine xq_scopeN ?_)
  with_reducible repeat refine xc_seq ?_
  with_reducible refine xc_region ?_
  refine xo_mv rfl rfl rfl ?_
  refine xo_ia T_ rfl rfl rfl rfl rfl ⟨by omega, by omega⟩ rfl ?_
  refine xo_faR T_ rfl rfl rfl rfl rfl ?_
  refine xo_storeI T_ (b := bo) (o := 0) (k := 2) rfl rfl rfl rfl (by repeat (first | exact List.Mem.head _ | apply List.Mem.tail | apply List.mem_append_right)) rfl rfl (by decide) (by repeat (first | exact Upd.head | apply Upd.tail | apply Upd.app)) rfl ?_
  with_reducible refine xo_nil ?_
  with_reducible repeat (first | refine xq_then ?_ | refine xq_blockN ?_ | refine xq_scopeN ?_)
  with_reducible repeat refine xc_seq ?_
  with_reducible refine xc_region ?_
  refine xo_mv rfl rfl rfl ?_
  refine xo_ia T_ rfl rfl rfl rfl rfl ⟨by omega, by omega⟩ rfl ?_
  refine xo_faR T_ rfl rfl rfl rfl rfl ?_
  refine xo_storeI T_ (b := bt) (o := 8) (k := 3) rfl rfl rfl rfl (by repeat (first | exact List.Mem.head _ | apply List.Mem.tail | apply List.mem_append_right)) rfl rfl (by decide) (by repeat (first | exact Upd.head | apply Upd.tail | apply Upd.app)) rfl ?_
  with_reducible refine xo_nil ?_
  with_reducible repeat (first | refine xq_then ?_ | refine xq_blockN ?_ | refine xq_scopeN ?_)
  refine xc_sub (η' := (bt, true, cel (tooE.map movV).flatten 54) :: (bo, true, cel (oddE.map letV).flatten 52) :: [(b17, true, cel [.int .i64 1, .int .u8 1, .slice none 0 0, .int .i64 2, .int .u8 2, .slice none 0 0, .int .i64 3, .int .u8 3, .slice (some ⟨b4, 0, none⟩) 1 1, .int .i64 4, .int .u8 1, .slice none 0 0, .int .i64 5, .int .u8 3, .slice (some ⟨b8, 0, none⟩) 1 1, .int .i64 6, .int .u8 4, .slice (some ⟨b12, 0, none⟩) 2 2, .int .i64 7, .int .u8 4, .slice (some ⟨b15, 0, none⟩) 1 1] 50), (b15, true, cel [.slice (some ⟨b14, 0, none⟩) 2 2] 33), (b14, true, cel [.int .i64 5, .int .i64 6] 3), (b12, true, cel [.slice (some ⟨b10, 0, none⟩) 1 1, .slice (some ⟨b11, 0, none⟩) 1 1] 33), (b11, true, cel [.int .i64 5] 3), (b10, true, cel [.int .i64 3] 3), (b8, true, cel [.slice (some ⟨b7, 0, none⟩) 2 2] 33), (b7, true, cel [.int .i64 2, .int .i64 4] 3), (b4, true, cel [.slice (some ⟨b3, 0, none⟩) 2 2] 33), (b3, true, cel [.int .i64 1, .int .i64 4] 3)]) (by exact List.Sublist.refl _) ?_
  have hgo : ∀ {w0 w1 : World} {X : Nat → Prop} {η : Hp}, WOK w0 X η w1 → (∀ e ∈ ([(b17, true, cel [.int .i64 1, .int .u8 1, .slice none 0 0, .int .i64 2, .int .u8 2, .slice none 0 0, .int .i64 3, .int .u8 3, .slice (some ⟨b4, 0, none⟩) 1 1, .int .i64 4, .int .u8 1, .slice none 0 0, .int .i64 5, .int .u8 3, .slice (some ⟨b8, 0, none⟩) 1 1, .int .i64 6, .int .u8 4, .slice (some ⟨b12, 0, none⟩) 2 2, .int .i64 7, .int .u8 4, .slice (some ⟨b15, 0, none⟩) 1 1] 50), (b15, true, cel [.slice (some ⟨b14, 0, none⟩) 2 2] 33), (b14, true, cel [.int .i64 5, .int .i64 6] 3), (b12, true, cel [.slice (some ⟨b10, 0, none⟩) 1 1, .slice (some ⟨b11, 0, none⟩) 1 1] 33), (b11, true, cel [.int .i64 5] 3), (b10, true, cel [.int .i64 3] 3), (b8, true, cel [.slice (some ⟨b7, 0, none⟩) 2 2] 33), (b7, true, cel [.int .i64 2, .int .i64 4] 3), (b4, true, cel [.slice (some ⟨b3, 0, none⟩) 2 2] 33), (b3, true, cel [.int .i64 1, .int .i64 4] 3)] : Hp), e ∈ η) → Kd.C recK w1 (some ⟨b17, 0, none⟩) (recsX 1 4).length (recsX 1 4) := fun hw hs => recsX_reads hw hs
  generalize hBL : ([(b17, true, cel [.int .i64 1, .int .u8 1, .slice none 0 0, .int .i64 2, .int .u8 2, .slice none 0 0, .int .i64 3, .int .u8 3, .slice (some ⟨b4, 0, none⟩) 1 1, .int .i64 4, .int .u8 1, .slice none 0 0, .int .i64 5, .int .u8 3, .slice (some ⟨b8, 0, none⟩) 1 1, .int .i64 6, .int .u8 4, .slice (some ⟨b12, 0, none⟩) 2 2, .int .i64 7, .int .u8 4, .slice (some ⟨b15, 0, none⟩) 1 1] 50), (b15, true, cel [.slice (some ⟨b14, 0, none⟩) 2 2] 33), (b14, true, cel [.int .i64 5, .int .i64 6] 3), (b12, true, cel [.slice (some ⟨b10, 0, none⟩) 1 1, .slice (some ⟨b11, 0, none⟩) 1 1] 33), (b11, true, cel [.int .i64 5] 3), (b10, true, cel [.int .i64 3] 3), (b8, true, cel [.slice (some ⟨b7, 0, none⟩) 2 2] 33), (b7, true, cel [.int .i64 2, .int .i64 4] 3), (b4, true, cel [.slice (some ⟨b3, 0, none⟩) 2 2] 33), (b3, true, cel [.int .i64 1, .int .i64 4] 3)] : Hp) = BL at *
  clear hBL
  with_reducible repeat refine xc_seq ?_
  refine xc_slots [(6, .slice (some ⟨b17, 0, none⟩) 7 7), (7, .slice (some ⟨bo, 0, none⟩) 3 3), (8, .slice (some ⟨bt, 0, none⟩) 6 6)] ⟨rfl, rfl, rfl, trivial⟩ ?_
  with_reducible repeat refine xc_seq ?_
  with_reducible refine xc_region ?_
  refine xo_call (fs := []) (cs := []) rfl rfl rfl recordsE_enters rfl (fun w1 hw1 => (recordsE_calls w1).mono ?_)
  rintro e w2 ⟨ζ1, c1, rfl, hz, hR1⟩
  refine ⟨_, _, rfl, hw1.join hz hR1.1, ?_⟩
  clear hz hw1
  refine xo_call (fs := []) (cs := []) rfl rfl rfl letters_enters rfl (fun w1 hw1 => (letters_calls w1).mono ?_)
  rintro e w2 ⟨ζ2, c2, rfl, hz, hL1⟩
  refine ⟨_, _, rfl, hw1.join hz hL1.1, ?_⟩
  clear hz hw1
  refine xo_call (fs := []) (cs := []) rfl rfl rfl trustHolds_enters rfl (fun w1 hw1 => ?_)
  have h2 := trustHolds_calls (some ⟨c1, 0, none⟩) (some ⟨c2, 0, none⟩) 7 3 recsE letsE (-1) w1 (hR1.2 _ _ _ _ hw1 (fun e he => by repeat (first | exact he | exact List.mem_append_left _ he | apply List.mem_append_right | apply List.Mem.tail))) (hL1.2 _ _ _ _ hw1 (fun e he => by repeat (first | exact he | exact List.mem_append_left _ he | apply List.mem_append_right | apply List.Mem.tail))) byE byLE
  rw [x_on] at h2
  refine h2.mono ?_
  clear h2
  rintro e w2 ⟨q1, rfl, hrow, hb⟩
  refine ⟨_, _, rfl, hw1.row hb hrow, ?_⟩
  clear hrow hb hw1
  refine xo_mv rfl rfl rfl ?_
  refine xo_ext rfl rfl rfl rfl ?_
  refine xo_ext rfl rfl rfl rfl ?_
  refine xo_asg rfl rfl rfl ?_
  with_reducible refine xo_nil ?_
  with_reducible repeat (first | refine xq_then ?_ | refine xq_blockN ?_ | refine xq_scopeN ?_)
  with_reducible repeat refine xc_seq ?_
  with_reducible refine xc_region ?_
  refine xo_call (fs := []) (cs := []) rfl rfl rfl recordsE_enters rfl (fun w1 hw1 => (recordsE_calls w1).mono ?_)
  rintro e w2 ⟨ζ3, c3, rfl, hz, hR2⟩
  refine ⟨_, _, rfl, hw1.join hz hR2.1, ?_⟩
  clear hz hw1
  refine xo_call (fs := []) (cs := []) rfl rfl rfl letters_enters rfl (fun w1 hw1 => (letters_calls w1).mono ?_)
  rintro e w2 ⟨ζ4, c4, rfl, hz, hL2⟩
  refine ⟨_, _, rfl, hw1.join hz hL2.1, ?_⟩
  clear hz hw1
  refine xo_call (fs := []) (cs := []) rfl rfl rfl trustTakes_enters rfl (fun w1 hw1 => ?_)
  have h2 := trustTakes_calls (some ⟨c3, 0, none⟩) (some ⟨c4, 0, none⟩) 7 3 recsE letsE 5 8 w1 (hR2.2 _ _ _ _ hw1 (fun e he => by repeat (first | exact he | exact List.mem_append_left _ he | apply List.mem_append_right | apply List.Mem.tail))) (hL2.2 _ _ _ _ hw1 (fun e he => by repeat (first | exact he | exact List.mem_append_left _ he | apply List.mem_append_right | apply List.Mem.tail))) byE byLE
  rw [x_o58] at h2
  refine h2.mono ?_
  clear h2
  rintro e w2 ⟨q2, rfl, hrow, hb⟩
  refine ⟨_, _, rfl, hw1.row hb hrow, ?_⟩
  clear hrow hb hw1
  refine xo_mv rfl rfl rfl ?_
  refine xo_ext rfl rfl rfl rfl ?_
  refine xo_ext rfl rfl rfl rfl ?_
  refine xo_asg rfl rfl rfl ?_
  with_reducible refine xo_nil ?_
  with_reducible repeat (first | refine xq_then ?_ | refine xq_blockN ?_ | refine xq_scopeN ?_)
  with_reducible repeat refine xc_seq ?_
  with_reducible refine xc_region ?_
  refine xo_call (fs := []) (cs := []) rfl rfl rfl recordsE_enters rfl (fun w1 hw1 => (recordsE_calls w1).mono ?_)
  rintro e w2 ⟨ζ5, c5, rfl, hz, hR3⟩
  refine ⟨_, _, rfl, hw1.join hz hR3.1, ?_⟩
  clear hz hw1
  refine xo_call (fs := []) (cs := []) rfl rfl rfl letters_enters rfl (fun w1 hw1 => (letters_calls w1).mono ?_)
  rintro e w2 ⟨ζ6, c6, rfl, hz, hL3⟩
  refine ⟨_, _, rfl, hw1.join hz hL3.1, ?_⟩
  clear hz hw1
  refine xo_call (fs := []) (cs := []) rfl rfl rfl trustRests_enters rfl (fun w1 hw1 => ?_)
  have h2 := trustRests_calls (some ⟨c5, 0, none⟩) (some ⟨c6, 0, none⟩) 7 3 recsE letsE 10 3 w1 (hR3.2 _ _ _ _ hw1 (fun e he => by repeat (first | exact he | exact List.mem_append_left _ he | apply List.mem_append_right | apply List.Mem.tail))) (hL3.2 _ _ _ _ hw1 (fun e he => by repeat (first | exact he | exact List.mem_append_left _ he | apply List.mem_append_right | apply List.Mem.tail))) byE byLE
  rw [x_rc103] at h2
  refine h2.mono ?_
  clear h2
  rintro e w2 ⟨q3, rfl, hrow, hb⟩
  refine ⟨_, _, rfl, hw1.row hb hrow, ?_⟩
  clear hrow hb hw1
  refine xo_mv rfl rfl rfl ?_
  refine xo_ext rfl rfl rfl rfl ?_
  refine xo_ext rfl rfl rfl rfl ?_
  refine xo_asg rfl rfl rfl ?_
  refine xo_asg rfl rfl rfl ?_
  with_reducible refine xo_nil ?_
  with_reducible repeat (first | refine xq_then ?_ | refine xq_blockN ?_ | refine xq_scopeN ?_)
  with_reducible repeat refine xc_seq ?_
  with_reducible refine xc_region ?_
  refine xo_call (fs := []) (cs := []) rfl rfl rfl recordsE_enters rfl (fun w1 hw1 => (recordsE_calls w1).mono ?_)
  rintro e w2 ⟨ζ7, c7, rfl, hz, hR4⟩
  refine ⟨_, _, rfl, hw1.join hz hR4.1, ?_⟩
  clear hz hw1
  refine xo_call (fs := []) (cs := []) rfl rfl rfl letters_enters rfl (fun w1 hw1 => (letters_calls w1).mono ?_)
  rintro e w2 ⟨ζ8, c8, rfl, hz, hL4⟩
  refine ⟨_, _, rfl, hw1.join hz hL4.1, ?_⟩
  clear hz hw1
  refine xo_call (fs := []) (cs := []) rfl rfl rfl trustCauses_enters rfl (fun w1 hw1 => ?_)
  have h2 := trustCauses_calls (some ⟨c7, 0, none⟩) (some ⟨c8, 0, none⟩) 7 3 recsE letsE 10 7 w1 (hR4.2 _ _ _ _ hw1 (fun e he => by repeat (first | exact he | exact List.mem_append_left _ he | apply List.mem_append_right | apply List.Mem.tail))) (hL4.2 _ _ _ _ hw1 (fun e he => by repeat (first | exact he | exact List.mem_append_left _ he | apply List.mem_append_right | apply List.Mem.tail))) byE byLE
  rw [x_cc107] at h2
  refine h2.mono ?_
  clear h2
  rintro e w2 ⟨q4, rfl, hrow, hb⟩
  refine ⟨_, _, rfl, hw1.row hb hrow, ?_⟩
  clear hrow hb hw1
  refine xo_mv rfl rfl rfl ?_
  refine xo_ext rfl rfl rfl rfl ?_
  refine xo_ext rfl rfl rfl rfl ?_
  refine xo_asg rfl rfl rfl ?_
  refine xo_asg rfl rfl rfl ?_
  with_reducible refine xo_nil ?_
  with_reducible repeat (first | refine xq_then ?_ | refine xq_blockN ?_ | refine xq_scopeN ?_)
  with_reducible repeat refine xc_seq ?_
  with_reducible refine xc_region ?_
  refine xo_call (fs := []) (cs := []) rfl rfl rfl recordsE_enters rfl (fun w1 hw1 => (recordsE_calls w1).mono ?_)
  rintro e w2 ⟨ζ9, c9, rfl, hz, hR5⟩
  refine ⟨_, _, rfl, hw1.join hz hR5.1, ?_⟩
  clear hz hw1
  refine xo_mv rfl rfl rfl ?_
  refine xo_callB (fs := []) (cs := []) rfl rfl rfl pieces_enters rfl (fun w1 hw1 => pieces_calls (some ⟨c9, 0, none⟩) (some ⟨bt, 0, none⟩) 7 6 recsE tooE 3 w1 (hR5.2 _ _ _ _ hw1 (fun e he => by repeat (first | exact he | exact List.mem_append_left _ he | apply List.mem_append_right | apply List.Mem.tail))) (mov_cel hw1 (l := tooE) (t := 54) (by repeat (first | exact List.Mem.head _ | exact List.mem_append_left _ (List.Mem.head _) | apply List.mem_append_right | apply List.Mem.tail)) (by decide)) byE byMT (hglob.below hw1.kx.below)) ?_
  rw [x_pct]
  refine xo_mv rfl rfl rfl ?_
  refine xo_ext rfl rfl rfl rfl ?_
  refine xo_ext rfl rfl rfl rfl ?_
  refine xo_alloc T_ rfl rfl rfl rfl (fun b13 => ?_)
  refine xo_store T_ rfl rfl rfl rfl (by repeat (first | exact List.Mem.head _ | apply List.Mem.tail | apply List.mem_append_right)) rfl rfl rfl rfl (by repeat (first | exact Upd.head | apply Upd.tail | apply Upd.app)) rfl ?_
  refine xo_asg rfl rfl rfl ?_
  with_reducible refine xo_nil ?_
  with_reducible repeat (first | refine xq_then ?_ | refine xq_blockN ?_ | refine xq_scopeN ?_)
  with_reducible repeat refine xc_seq ?_
  with_reducible refine xc_region ?_
  refine xo_call (fs := []) (cs := []) rfl rfl rfl recordsE_enters rfl (fun w1 hw1 => (recordsE_calls w1).mono ?_)
  rintro e w2 ⟨ζa, d1, rfl, hz, hR6⟩
  refine ⟨_, _, rfl, hw1.join hz hR6.1, ?_⟩
  clear hz hw1
  refine xo_call (fs := []) (cs := []) rfl rfl rfl letters_enters rfl (fun w1 hw1 => (letters_calls w1).mono ?_)
  rintro e w2 ⟨ζb, d2, rfl, hz, hL6⟩
  refine ⟨_, _, rfl, hw1.join hz hL6.1, ?_⟩
  clear hz hw1
  refine xo_mv rfl rfl rfl ?_
  refine xo_call (fs := []) (cs := []) rfl rfl rfl recall_enters rfl (fun w1 hw1 => ?_)
  have h2 := recall_calls (some ⟨d1, 0, none⟩) (some ⟨d2, 0, none⟩) (some ⟨bt, 0, none⟩) 7 3 6 recsE letsE tooE (-1) w1 (hR6.2 _ _ _ _ hw1 (fun e he => by repeat (first | exact he | exact List.mem_append_left _ he | apply List.mem_append_right | apply List.Mem.tail))) (hL6.2 _ _ _ _ hw1 (fun e he => by repeat (first | exact he | exact List.mem_append_left _ he | apply List.mem_append_right | apply List.Mem.tail))) (mov_cel hw1 (l := tooE) (t := 54) (by repeat (first | exact List.Mem.head _ | exact List.mem_append_left _ (List.Mem.head _) | apply List.mem_append_right | apply List.Mem.tail)) (by decide)) byE byLE byMT (hglob.below hw1.kx.below)
  rw [x_recct] at h2
  refine h2.mono ?_
  clear h2
  rintro e w2 ⟨q5, rfl, hrow, hb⟩
  refine ⟨_, _, rfl, hw1.row hb hrow, ?_⟩
  clear hrow hb hw1
  refine xo_mv rfl rfl rfl ?_
  refine xo_ext rfl rfl rfl rfl ?_
  refine xo_ext rfl rfl rfl rfl ?_
  refine xo_ext rfl rfl rfl rfl ?_
  refine xo_asg rfl rfl rfl ?_
  refine xo_asg rfl rfl rfl ?_
  refine xo_asg rfl rfl rfl ?_
  with_reducible refine xo_nil ?_
  with_reducible repeat (first | refine xq_then ?_ | refine xq_blockN ?_ | refine xq_scopeN ?_)
  with_reducible repeat refine xc_seq ?_
  with_reducible refine xc_region ?_
  refine xo_mv rfl rfl rfl ?_
  refine xo_eql rfl rfl rfl rfl ?_
  refine xo_as (i := 129) rfl (congrArg Value.bool (show decide ((2 : Int) = 2) = true from rfl)) ?_
  refine xo_mv rfl rfl rfl ?_
  first
    | refine xo_not rfl rfl ?_
    | (refine xo_mv rfl rfl rfl ?_)
  first
    | refine xo_not rfl rfl ?_
    | (refine xo_eql rfl rfl rfl rfl ?_)
  refine xo_as (i := 132) rfl (congrArg Value.bool (show decide ((6 : Int) = 6) = true from rfl)) ?_
  first | refine xo_pickT rfl rfl rfl rfl ?_ | refine xo_pickF rfl rfl rfl rfl ?_
  refine xo_mv rfl rfl rfl ?_
  first
    | refine xo_not rfl rfl ?_
    | (refine xo_mv rfl rfl rfl ?_)
  first
    | refine xo_not rfl rfl ?_
    | (refine xo_eql rfl rfl rfl rfl ?_)
  refine xo_as (i := 136) rfl (congrArg Value.bool (show decide ((8 : Int) = 8) = true from rfl)) ?_
  first | refine xo_pickT rfl rfl rfl rfl ?_ | refine xo_pickF rfl rfl rfl rfl ?_
  refine xo_mv rfl rfl rfl ?_
  first
    | refine xo_not rfl rfl ?_
    | (refine xo_mv rfl rfl rfl ?_)
  first
    | refine xo_not rfl rfl ?_
    | (refine xo_eql rfl rfl rfl rfl ?_)
  refine xo_as (i := 140) rfl (congrArg Value.bool (show decide ((8 : Int) = 8) = true from rfl)) ?_
  first | refine xo_pickT rfl rfl rfl rfl ?_ | refine xo_pickF rfl rfl rfl rfl ?_
  refine xo_mv rfl rfl rfl ?_
  first
    | refine xo_not rfl rfl ?_
    | (refine xo_mv rfl rfl rfl ?_)
  first
    | refine xo_not rfl rfl ?_
    | (refine xo_eql rfl rfl rfl rfl ?_)
  refine xo_as (i := 144) rfl (congrArg Value.bool (show decide ((82 : Int) = 82) = true from rfl)) ?_
  first | refine xo_pickT rfl rfl rfl rfl ?_ | refine xo_pickF rfl rfl rfl rfl ?_
  refine xo_mv rfl rfl rfl ?_
  first
    | refine xo_not rfl rfl ?_
    | (refine xo_mv rfl rfl rfl ?_)
  first
    | refine xo_not rfl rfl ?_
    | (refine xo_eql rfl rfl rfl rfl ?_)
  refine xo_as (i := 148) rfl (congrArg Value.bool (show decide ((82 : Int) = 82) = true from rfl)) ?_
  first | refine xo_pickT rfl rfl rfl rfl ?_ | refine xo_pickF rfl rfl rfl rfl ?_
  refine xo_mv rfl rfl rfl ?_
  first
    | refine xo_not rfl rfl ?_
    | (refine xo_mv rfl rfl rfl ?_)
  first
    | refine xo_not rfl rfl ?_
    | (refine xo_call (fs := []) (cs := []) rfl rfl rfl letters_enters rfl (fun w1 hw1 => (letters_calls w1).mono ?_)
       rintro e w2 ⟨ζc, d3, rfl, hz, hL7⟩
       refine ⟨_, _, rfl, hw1.join hz hL7.1, ?_⟩
       clear hz hw1)
  first
    | refine xo_not rfl rfl ?_
    | (refine xo_callB (fs := []) (cs := []) rfl rfl rfl check_enters' rfl (fun w1 hw1 => by rw [← x_ahead]; exact check_calls (some ⟨b17, 0, none⟩) (some ⟨d3, 0, none⟩) 7 3 (recsX 1 4) letsE w1 (hgo hw1 (fun e he => by repeat (first | exact he | exact List.mem_append_left _ he | apply List.mem_append_right | apply List.Mem.tail))) (hL7.2 _ _ _ _ hw1 (fun e he => by repeat (first | exact he | exact List.mem_append_left _ he | apply List.mem_append_right | apply List.Mem.tail))) (byX 1 4) byLE) (v := .int .i64 80) ?_)
  first
    | refine xo_not rfl rfl ?_
    | (refine xo_eql rfl rfl rfl rfl ?_)
  refine xo_as (i := 154) rfl (congrArg Value.bool (show decide ((80 : Int) = 80) = true from rfl)) ?_
  first | refine xo_pickT rfl rfl rfl rfl ?_ | refine xo_pickF rfl rfl rfl rfl ?_
  refine xo_mv rfl rfl rfl ?_
  first
    | refine xo_not rfl rfl ?_
    | (refine xo_call (fs := []) (cs := []) rfl rfl rfl recordsE_enters rfl (fun w1 hw1 => (recordsE_calls w1).mono ?_)
       rintro e w2 ⟨ζd, d4, rfl, hz, hR8⟩
       refine ⟨_, _, rfl, hw1.join hz hR8.1, ?_⟩
       clear hz hw1)
  first
    | refine xo_not rfl rfl ?_
    | (refine xo_mv rfl rfl rfl ?_)
  first
    | refine xo_not rfl rfl ?_
    | (refine xo_callB (fs := []) (cs := []) rfl rfl rfl check_enters' rfl (fun w1 hw1 => by rw [← x_odd]; exact check_calls (some ⟨d4, 0, none⟩) (some ⟨bo, 0, none⟩) 7 3 recsE oddE w1 (hR8.2 _ _ _ _ hw1 (fun e he => by repeat (first | exact he | exact List.mem_append_left _ he | apply List.mem_append_right | apply List.Mem.tail))) (let_cel hw1 (l := oddE) (t := 52) (by repeat (first | exact List.Mem.head _ | exact List.mem_append_left _ (List.Mem.head _) | apply List.mem_append_right | apply List.Mem.tail)) (by decide)) byE byLO) (v := .int .i64 81) ?_)
  first
    | refine xo_not rfl rfl ?_
    | (refine xo_eql rfl rfl rfl rfl ?_)
  refine xo_as (i := 160) rfl (congrArg Value.bool (show decide ((81 : Int) = 81) = true from rfl)) ?_
  first | refine xo_pickT rfl rfl rfl rfl ?_ | refine xo_pickF rfl rfl rfl rfl ?_
  refine xo_asg rfl rfl rfl ?_
  with_reducible refine xo_nil ?_
  with_reducible repeat (first | refine xq_then ?_ | refine xq_blockN ?_ | refine xq_scopeN ?_)
  with_reducible repeat refine xc_seq ?_
  with_reducible refine xc_ret ?_
  with_reducible repeat (first | refine xq_thenR ?_ | refine xq_blockR ?_ | refine xq_scopeR ?_)
  exact xq_ret1 rfl rfl fun w' hw => ⟨rfl, hw.kx.below⟩
end Go.Proofs.YtcmepdamemnbkaaDoor
