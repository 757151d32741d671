/- law08.alive: the chapter's examples come out. / law08.alive: the walk. / SX: a drawn region that writes slots which it also reads: the old values may be read by what the writer waits for. No program in sight. / The table trust.adds, as the rows' condition lays it, and the door's own heap, which meets that condition. / law08.TrustTakes: the walk. / law08: two letters more, one that withdraws and one that restores: what holds then (plain). / law08: letters in another order, with other numbers: the same is gone (plain). / ref08.Pieces, Recall answer what trust.Pieces, Recall answer. / law08: sums of moves: balances, any order (plain). / law08: letters and moves copied, more of them, parts of them; next ahead of what is known. / law08: lists that are numbered anew in place, one by one (plain). / law08: what a record rests on is enough, and least; what is named as a cause is one, and least (plain). / law08: bits of small numbers; two rows of truths that are made in any order. / law08: rows of truths that are copied and made less; letters that restore. / law08.TrustCauses: the walk. -/
import Derived.Test.YtcmepdamemnbkaaDoorPkLawTrustCauses8
import Derived.Test.YtcmepdamemnbkaaDoorPkLawTrustCauses5
import Derived.Test.YtcmepdamemnbkaaDoorPkLawTrustCauses3
import Derived.Test.YtcmepdamemnbkaaDoorRows
import Derived.Test.YtcmepdamemnbkaaDoorPkLawTrustCauses4
import Derived.LaidLaws
import Derived.LaidHandle
import Derived.LaidMore
import Derived.ChangeVars
import Derived.ChangeShapes
import Derived.Test.YtcmepdamemnbkaaDoorPkLawTrustCauses6
import Derived.Test.YtcmepdamemnbkaaDoorPkLawTrustCauses7
namespace Go.Proofs.YtcmepdamemnbkaaDoor
open Go.RowKit Go.Proofs.YtcmepdamemnbkaaDoorW.PrintWords
set_option linter.unusedVariables false
set_option linter.unusedSimpArgs false
theorem is_calls (A : Option Addr) (c : Nat) (xs : List Int) (B : Option Addr) (c2 : Nat) (w : World) (h1 : Kd.C (Kd.int .i64) w A xs.length xs) (h2 : Kd.C (Kd.int .i64) w B xs.length xs) :
    Calls Tryd.prog 27 #[.slice A xs.length c, .int .i64 0, .slice B xs.length c2] w fun e w' => e = .returned (.bool true) ∧ Below w.heap.size w w' := by
  have h0 : decide ((0 : Int) = 0) = true := rfl
  refine x_calls (X := XNone) Tryd.func27 rfl rfl rfl ?_
  with_reducible repeat refine xc_seq ?_
  with_reducible refine xc_region ?_
  refine xo_asg rfl rfl rfl ?_
  with_reducible refine xo_nil ?_
  with_reducible repeat (first | refine xq_then ?_ | refine xq_blockN ?_ | refine xq_scopeN ?_)
  with_reducible repeat refine xc_seq ?_
  with_reducible refine xc_region ?_
  refine xo_mv rfl rfl rfl ?_
  refine xo_eql rfl rfl rfl rfl ?_
  refine xo_mv rfl rfl rfl ?_
  refine xo_as (i := 9) rfl (congrArg Value.bool h0) ?_
  first
    | refine xo_not rfl rfl ?_
    | (refine xo_mv rfl rfl rfl ?_)
  first
    | refine xo_not rfl rfl ?_
    | (refine xo_mv rfl rfl rfl ?_)
  first
    | refine xo_not rfl rfl ?_
    | (refine xo_callB (fs := []) (cs := []) rfl rfl rfl sameInts_enters rfl (fun w1 hw1 => sameInts_calls A B c c2 xs w1 (Kd.C_below h1 hw1.kx.below) (Kd.C_below h2 hw1.kx.below)) ?_)
  first | refine xo_pickT rfl rfl rfl rfl ?_ | refine xo_pickF rfl rfl rfl rfl ?_
  refine xo_asg rfl rfl rfl ?_
  with_reducible refine xo_nil ?_
  with_reducible repeat (first | refine xq_then ?_ | refine xq_blockN ?_ | refine xq_scopeN ?_)
  with_reducible repeat refine xc_seq ?_
  with_reducible refine xc_ret ?_
  with_reducible repeat (first | refine xq_thenR ?_ | refine xq_blockR ?_ | refine xq_scopeR ?_)
  exact xq_ret1 rfl rfl fun w' hw => ⟨rfl, hw.kx.below⟩
theorem is_enters : ∀ args w, (callFunc 27 args).run Tryd.prog w = .ok (.enter 27 args) w := enters_of Tryd.func27 (by kernel_rfl) rfl
theorem isR_calls {w0 w : World} {X : Nat → Prop} {η : Hp} (hw : WOK w0 X η w) {rr : RowR} {xs : List Int} (hl : xs.length ≤ 1000000) (h1 : RowAt 3 0 w rr xs) (B : Option Addr) (c2 : Nat) (h2 : Kd.C (Kd.int .i64) w B xs.length xs) :
    Calls Tryd.prog 27 ([] ++ [valR rr xs.length, .int .i64 0, .slice B xs.length c2] ++ []).toArray w fun e w' => e = .returned (.bool true) ∧ Below w.heap.size w w' := by
  obtain ⟨A, c, e1, _, hA⟩ := h1.C (by omega)
  rw [e1]
  exact is_calls A c xs B c2 w hA h2
theorem byE : Bytes recsE := by unfold Bytes recsE; decide
theorem byLE : BytesL letsE := by unfold BytesL letsE; decide
theorem byME : BytesM movsE := by unfold BytesM movsE; decide
theorem onE_calls (day : Int) (want : List Int) (B : Option Addr) (c2 : Nat) (w : World) (hB : Kd.C (Kd.int .i64) w B want.length want) (hl : want.length ≤ 100) (h1 : openF recsE letsE day [] = 0) (h2 : holdsR recsE letsE day = want) :
    Calls Tryd.prog 20 #[.int .i64 day, .slice B want.length c2] w fun e w' => e = .returned (.bool true) ∧ Below w.heap.size w w' := by
  refine x_calls (X := XNone) Tryd.func20 rfl rfl rfl ?_
  with_reducible repeat refine xc_seq ?_
  with_reducible refine xc_region ?_
  refine xo_asg rfl rfl rfl ?_
  with_reducible refine xo_nil ?_
  with_reducible repeat (first | refine xq_then ?_ | refine xq_blockN ?_ | refine xq_scopeN ?_)
  with_reducible repeat refine xc_seq ?_
  with_reducible refine xc_region ?_
  refine xo_call (fs := []) (cs := []) rfl rfl rfl recordsE_enters rfl (fun w1 hw1 => (recordsE_calls w1).mono ?_)
  rintro e w2 ⟨ζr, br, rfl, hz, hR⟩
  refine ⟨_, _, rfl, hw1.join hz hR.1, ?_⟩
  clear hz hw1
  refine xo_call (fs := []) (cs := []) rfl rfl rfl letters_enters rfl (fun w1 hw1 => (letters_calls w1).mono ?_)
  rintro e w2 ⟨ζl, bl, rfl, hz, hL⟩
  refine ⟨_, _, rfl, hw1.join hz hL.1, ?_⟩
  clear hz hw1
  refine xo_mv rfl rfl rfl ?_
  refine xo_call (fs := []) (cs := []) rfl rfl rfl trustHolds_enters rfl (fun w1 hw1 => (trustHolds_calls (some ⟨br, 0, none⟩) (some ⟨bl, 0, none⟩) 7 3 recsE letsE day w1 (hR.2 _ _ _ _ hw1 (fun e he => by repeat (first | exact he | exact List.mem_append_left _ he | apply List.mem_append_right | apply List.Mem.tail))) (hL.2 _ _ _ _ hw1 (fun e he => by repeat (first | exact he | exact List.mem_append_left _ he | apply List.mem_append_right | apply List.Mem.tail))) byE byLE).mono ?_)
  rw [h1, h2]
  rintro e w2 ⟨rr, rfl, hrow, hb⟩
  have hrr := hrow.1
  refine ⟨_, _, rfl, hw1.row hb hrow, ?_⟩
  clear hrow hb hw1
  refine xo_mv rfl rfl rfl ?_
  refine xo_ext rfl rfl rfl rfl ?_
  refine xo_ext rfl rfl rfl rfl ?_
  refine xo_asg rfl rfl rfl ?_
  refine xo_asg rfl rfl rfl ?_
  with_reducible refine xo_nil ?_
  with_reducible repeat (first | refine xq_then ?_ | refine xq_blockN ?_ | refine xq_scopeN ?_)
  with_reducible repeat refine xc_seq ?_
  with_reducible refine xc_region ?_
  refine xo_mv rfl rfl rfl ?_
  refine xo_mv rfl rfl rfl ?_
  refine xo_mv rfl rfl rfl ?_
  refine xo_callB (fs := []) (cs := []) rfl rfl rfl is_enters rfl (fun w1 hw1 => isR_calls hw1 (by omega) (hw1.rowAt hrr (fun p hp => by subst hp; exact (by repeat (first | exact List.Mem.head _ | exact List.mem_append_left _ (List.Mem.head _) | apply List.mem_append_right | apply List.Mem.tail)))) B c2 (Kd.C_below hB hw1.kx.below)) ?_
  refine xo_asg rfl rfl rfl ?_
  with_reducible refine xo_nil ?_
  with_reducible repeat (first | refine xq_then ?_ | refine xq_blockN ?_ | refine xq_scopeN ?_)
  with_reducible repeat refine xc_seq ?_
  with_reducible refine xc_ret ?_
  with_reducible repeat (first | refine xq_thenR ?_ | refine xq_blockR ?_ | refine xq_scopeR ?_)
  exact xq_ret1 rfl rfl fun w' hw => ⟨rfl, hw.kx.below⟩
theorem onE_enters : ∀ args w, (callFunc 20 args).run Tryd.prog w = .ok (.enter 20 args) w := enters_of Tryd.func20 (by kernel_rfl) rfl
theorem takesE_calls (day id : Int) (want : List Int) (B : Option Addr) (c2 : Nat) (w : World) (hB : Kd.C (Kd.int .i64) w B want.length want) (hl : want.length ≤ 100) (h1 : openF recsE letsE day [id] = 0) (h2 : takesR recsE letsE day id = want) :
    Calls Tryd.prog 21 #[.int .i64 day, .int .i64 id, .slice B want.length c2] w fun e w' => e = .returned (.bool true) ∧ Below w.heap.size w w' := by
  refine x_calls (X := XNone) Tryd.func21 rfl rfl rfl ?_
  with_reducible repeat refine xc_seq ?_
  with_reducible refine xc_region ?_
  refine xo_asg rfl rfl rfl ?_
  with_reducible refine xo_nil ?_
  with_reducible repeat (first | refine xq_then ?_ | refine xq_blockN ?_ | refine xq_scopeN ?_)
  with_reducible repeat refine xc_seq ?_
  with_reducible refine xc_region ?_
  refine xo_call (fs := []) (cs := []) rfl rfl rfl recordsE_enters rfl (fun w1 hw1 => (recordsE_calls w1).mono ?_)
  rintro e w2 ⟨ζr, br, rfl, hz, hR⟩
  refine ⟨_, _, rfl, hw1.join hz hR.1, ?_⟩
  clear hz hw1
  refine xo_call (fs := []) (cs := []) rfl rfl rfl letters_enters rfl (fun w1 hw1 => (letters_calls w1).mono ?_)
  rintro e w2 ⟨ζl, bl, rfl, hz, hL⟩
  refine ⟨_, _, rfl, hw1.join hz hL.1, ?_⟩
  clear hz hw1
  refine xo_mv rfl rfl rfl ?_
  refine xo_mv rfl rfl rfl ?_
  refine xo_call (fs := []) (cs := []) rfl rfl rfl trustTakes_enters rfl (fun w1 hw1 => (trustTakes_calls (some ⟨br, 0, none⟩) (some ⟨bl, 0, none⟩) 7 3 recsE letsE day id w1 (hR.2 _ _ _ _ hw1 (fun e he => by repeat (first | exact he | exact List.mem_append_left _ he | apply List.mem_append_right | apply List.Mem.tail))) (hL.2 _ _ _ _ hw1 (fun e he => by repeat (first | exact he | exact List.mem_append_left _ he | apply List.mem_append_right | apply List.Mem.tail))) byE byLE).mono ?_)
  rw [h1, h2]
  rintro e w2 ⟨rr, rfl, hrow, hb⟩
  have hrr := hrow.1
  refine ⟨_, _, rfl, hw1.row hb hrow, ?_⟩
  clear hrow hb hw1
  refine xo_mv rfl rfl rfl ?_
  refine xo_ext rfl rfl rfl rfl ?_
  refine xo_ext rfl rfl rfl rfl ?_
  refine xo_asg rfl rfl rfl ?_
  refine xo_asg rfl rfl rfl ?_
  with_reducible refine xo_nil ?_
  with_reducible repeat (first | refine xq_then ?_ | refine xq_blockN ?_ | refine xq_scopeN ?_)
  with_reducible repeat refine xc_seq ?_
  with_reducible refine xc_region ?_
  refine xo_mv rfl rfl rfl ?_
  refine xo_mv rfl rfl rfl ?_
  refine xo_mv rfl rfl rfl ?_
  refine xo_callB (fs := []) (cs := []) rfl rfl rfl is_enters rfl (fun w1 hw1 => isR_calls hw1 (by omega) (hw1.rowAt hrr (fun p hp => by subst hp; exact (by repeat (first | exact List.Mem.head _ | exact List.mem_append_left _ (List.Mem.head _) | apply List.mem_append_right | apply List.Mem.tail)))) B c2 (Kd.C_below hB hw1.kx.below)) ?_
  refine xo_asg rfl rfl rfl ?_
  with_reducible refine xo_nil ?_
  with_reducible repeat (first | refine xq_then ?_ | refine xq_blockN ?_ | refine xq_scopeN ?_)
  with_reducible repeat refine xc_seq ?_
  with_reducible refine xc_ret ?_
  with_reducible repeat (first | refine xq_thenR ?_ | refine xq_blockR ?_ | refine xq_scopeR ?_)
  exact xq_ret1 rfl rfl fun w' hw => ⟨rfl, hw.kx.below⟩
theorem takesE_enters : ∀ args w, (callFunc 21 args).run Tryd.prog w = .ok (.enter 21 args) w := enters_of Tryd.func21 (by kernel_rfl) rfl
theorem restsE_calls (day id : Int) (want : List Int) (B : Option Addr) (c2 : Nat) (w : World) (hB : Kd.C (Kd.int .i64) w B want.length want) (hl : want.length ≤ 100) (h1 : refRestsC recsE letsE day id = 0) (h2 : refRestsR recsE letsE day id = want) :
    Calls Tryd.prog 22 #[.int .i64 day, .int .i64 id, .slice B want.length c2] w fun e w' => e = .returned (.bool true) ∧ Below w.heap.size w w' := by
  refine x_calls (X := XNone) Tryd.func22 rfl rfl rfl ?_
  with_reducible repeat refine xc_seq ?_
  with_reducible refine xc_region ?_
  refine xo_asg rfl rfl rfl ?_
  with_reducible refine xo_nil ?_
  with_reducible repeat (first | refine xq_then ?_ | refine xq_blockN ?_ | refine xq_scopeN ?_)
  with_reducible repeat refine xc_seq ?_
  with_reducible refine xc_region ?_
  refine xo_call (fs := []) (cs := []) rfl rfl rfl recordsE_enters rfl (fun w1 hw1 => (recordsE_calls w1).mono ?_)
  rintro e w2 ⟨ζr, br, rfl, hz, hR⟩
  refine ⟨_, _, rfl, hw1.join hz hR.1, ?_⟩
  clear hz hw1
  refine xo_call (fs := []) (cs := []) rfl rfl rfl letters_enters rfl (fun w1 hw1 => (letters_calls w1).mono ?_)
  rintro e w2 ⟨ζl, bl, rfl, hz, hL⟩
  refine ⟨_, _, rfl, hw1.join hz hL.1, ?_⟩
  clear hz hw1
  refine xo_mv rfl rfl rfl ?_
  refine xo_mv rfl rfl rfl ?_
  refine xo_call (fs := []) (cs := []) rfl rfl rfl trustRests_enters rfl (fun w1 hw1 => (trustRests_calls (some ⟨br, 0, none⟩) (some ⟨bl, 0, none⟩) 7 3 recsE letsE day id w1 (hR.2 _ _ _ _ hw1 (fun e he => by repeat (first | exact he | exact List.mem_append_left _ he | apply List.mem_append_right | apply List.Mem.tail))) (hL.2 _ _ _ _ hw1 (fun e he => by repeat (first | exact he | exact List.mem_append_left _ he | apply List.mem_append_right | apply List.Mem.tail))) byE byLE).mono ?_)
  rw [h1, h2]
  rintro e w2 ⟨rr, rfl, hrow, hb⟩
  have hrr := hrow.1
  refine ⟨_, _, rfl, hw1.row hb hrow, ?_⟩
  clear hrow hb hw1
  refine xo_mv rfl rfl rfl ?_
  refine xo_ext rfl rfl rfl rfl ?_
  refine xo_ext rfl rfl rfl rfl ?_
  refine xo_asg rfl rfl rfl ?_
  refine xo_asg rfl rfl rfl ?_
  with_reducible refine xo_nil ?_
  with_reducible repeat (first | refine xq_then ?_ | refine xq_blockN ?_ | refine xq_scopeN ?_)
  with_reducible repeat refine xc_seq ?_
  with_reducible refine xc_region ?_
  refine xo_mv rfl rfl rfl ?_
  refine xo_mv rfl rfl rfl ?_
  refine xo_mv rfl rfl rfl ?_
  refine xo_callB (fs := []) (cs := []) rfl rfl rfl is_enters rfl (fun w1 hw1 => isR_calls hw1 (by omega) (hw1.rowAt hrr (fun p hp => by subst hp; exact (by repeat (first | exact List.Mem.head _ | exact List.mem_append_left _ (List.Mem.head _) | apply List.mem_append_right | apply List.Mem.tail)))) B c2 (Kd.C_below hB hw1.kx.below)) ?_
  refine xo_asg rfl rfl rfl ?_
  with_reducible refine xo_nil ?_
  with_reducible repeat (first | refine xq_then ?_ | refine xq_blockN ?_ | refine xq_scopeN ?_)
  with_reducible repeat refine xc_seq ?_
  with_reducible refine xc_ret ?_
  with_reducible repeat (first | refine xq_thenR ?_ | refine xq_blockR ?_ | refine xq_scopeR ?_)
  exact xq_ret1 rfl rfl fun w' hw => ⟨rfl, hw.kx.below⟩
theorem restsE_enters : ∀ args w, (callFunc 22 args).run Tryd.prog w = .ok (.enter 22 args) w := enters_of Tryd.func22 (by kernel_rfl) rfl
theorem causesE_calls (day id : Int) (want : List Int) (B : Option Addr) (c2 : Nat) (w : World) (hB : Kd.C (Kd.int .i64) w B want.length want) (hl : want.length ≤ 100) (h1 : refCausesC recsE letsE day id = 0) (h2 : refCausesR recsE letsE day id = want) :
    Calls Tryd.prog 23 #[.int .i64 day, .int .i64 id, .slice B want.length c2] w fun e w' => e = .returned (.bool true) ∧ Below w.heap.size w w' := by
  refine x_calls (X := XNone) Tryd.func23 rfl rfl rfl ?_
  with_reducible repeat refine xc_seq ?_
  with_reducible refine xc_region ?_
  refine xo_asg rfl rfl rfl ?_
  with_reducible refine xo_nil ?_
  with_reducible repeat (first | refine xq_then ?_ | refine xq_blockN ?_ | refine xq_scopeN ?_)
  with_reducible repeat refine xc_seq ?_
  with_reducible refine xc_region ?_
  refine xo_call (fs := []) (cs := []) rfl rfl rfl recordsE_enters rfl (fun w1 hw1 => (recordsE_calls w1).mono ?_)
  rintro e w2 ⟨ζr, br, rfl, hz, hR⟩
  refine ⟨_, _, rfl, hw1.join hz hR.1, ?_⟩
  clear hz hw1
  refine xo_call (fs := []) (cs := []) rfl rfl rfl letters_enters rfl (fun w1 hw1 => (letters_calls w1).mono ?_)
  rintro e w2 ⟨ζl, bl, rfl, hz, hL⟩
  refine ⟨_, _, rfl, hw1.join hz hL.1, ?_⟩
  clear hz hw1
  refine xo_mv rfl rfl rfl ?_
  refine xo_mv rfl rfl rfl ?_
  refine xo_call (fs := []) (cs := []) rfl rfl rfl trustCauses_enters rfl (fun w1 hw1 => (trustCauses_calls (some ⟨br, 0, none⟩) (some ⟨bl, 0, none⟩) 7 3 recsE letsE day id w1 (hR.2 _ _ _ _ hw1 (fun e he => by repeat (first | exact he | exact List.mem_append_left _ he | apply List.mem_append_right | apply List.Mem.tail))) (hL.2 _ _ _ _ hw1 (fun e he => by repeat (first | exact he | exact List.mem_append_left _ he | apply List.mem_append_right | apply List.Mem.tail))) byE byLE).mono ?_)
  rw [h1, h2]
  rintro e w2 ⟨rr, rfl, hrow, hb⟩
  have hrr := hrow.1
  refine ⟨_, _, rfl, hw1.row hb hrow, ?_⟩
  clear hrow hb hw1
  refine xo_mv rfl rfl rfl ?_
  refine xo_ext rfl rfl rfl rfl ?_
  refine xo_ext rfl rfl rfl rfl ?_
  refine xo_asg rfl rfl rfl ?_
  refine xo_asg rfl rfl rfl ?_
  with_reducible refine xo_nil ?_
  with_reducible repeat (first | refine xq_then ?_ | refine xq_blockN ?_ | refine xq_scopeN ?_)
  with_reducible repeat refine xc_seq ?_
  with_reducible refine xc_region ?_
  refine xo_mv rfl rfl rfl ?_
  refine xo_mv rfl rfl rfl ?_
  refine xo_mv rfl rfl rfl ?_
  refine xo_callB (fs := []) (cs := []) rfl rfl rfl is_enters rfl (fun w1 hw1 => isR_calls hw1 (by omega) (hw1.rowAt hrr (fun p hp => by subst hp; exact (by repeat (first | exact List.Mem.head _ | exact List.mem_append_left _ (List.Mem.head _) | apply List.mem_append_right | apply List.Mem.tail)))) B c2 (Kd.C_below hB hw1.kx.below)) ?_
  refine xo_asg rfl rfl rfl ?_
  with_reducible refine xo_nil ?_
  with_reducible repeat (first | refine xq_then ?_ | refine xq_blockN ?_ | refine xq_scopeN ?_)
  with_reducible repeat refine xc_seq ?_
  with_reducible refine xc_ret ?_
  with_reducible repeat (first | refine xq_thenR ?_ | refine xq_blockR ?_ | refine xq_scopeR ?_)
  exact xq_ret1 rfl rfl fun w' hw => ⟨rfl, hw.kx.below⟩
theorem causesE_enters : ∀ args w, (callFunc 23 args).run Tryd.prog w = .ok (.enter 23 args) w := enters_of Tryd.func23 (by kernel_rfl) rfl
/-! ### what the examples answer -/
theorem e_o10 : openF recsE letsE 10 [] = 0 := by decide
theorem e_h10 : holdsR recsE letsE 10 = [2, 4, 5, 6, 7] := by decide
theorem e_o20 : openF recsE letsE 20 [] = 0 := by decide
theorem e_h20 : holdsR recsE letsE 20 = [1, 2, 3, 6] := by decide
theorem e_o104 : openF recsE letsE 10 [4] = 0 := by decide
theorem e_t104 : takesR recsE letsE 10 4 = [4, 5, 6, 7] := by decide
theorem e_rc56 : refRestsC recsE letsE 5 6 = 0 := by decide
theorem e_cc103 : refCausesC recsE letsE 10 3 = 0 := by decide
theorem e_p2 : piecesR recsE movsE 2 = ⟨80, 5, 3, 50, 0, 32⟩ := by rw [← stEq_iff]; decide
theorem e_pc2 : piecesC recsE movsE 2 = 0 := by decide
theorem e_rec10 : recallR recsE letsE movsE 10 = [3] := by decide
theorem e_recn10 : recallN recsE letsE movsE 10 = 15 := by decide
theorem e_recc10 : recallC recsE letsE movsE 10 = 0 := by decide
end Go.Proofs.YtcmepdamemnbkaaDoor
namespace Go.Proofs.YtcmepdamemnbkaaDoor
open Go.RowKit Go.Proofs.YtcmepdamemnbkaaDoorW.PrintWords
set_option linter.unusedVariables false
set_option linter.unusedSimpArgs false
set_option maxRecDepth 100000 in
theorem e_r56 : refRestsR recsE letsE 5 6 = [1, 2, 3, 6] := by decide +kernel
set_option maxRecDepth 100000 in
theorem e_c103 : refCausesR recsE letsE 10 3 = [1] := by decide +kernel
theorem ints_cel {w0 : World} {X : Nat → Prop} {η : Hp} {w : World} (hw : WOK w0 X η w) (b : Nat) (xs : List Int) {vs : List Value} (hm : (b, true, cel vs 3) ∈ η) (hv : vs = xs.map (.int .i64)) (hl : xs.length ≤ 100) : Kd.C (Kd.int .i64) w (some ⟨b, 0, none⟩) xs.length xs := by
  subst hv
  exact C_cel hw hm (by omega)
set_option maxHeartbeats 16000000 in
theorem alive_calls (w : World) (hglob : GlobOK w) : Calls Tryd.prog 19 #[] w fun e w' => e = .returned (.bool true) ∧ Below w.heap.size w w' := by
  have h10 : decide ((0 : Int) = 0) = true := rfl
  have hst : stEq ⟨80, 5, 3, 50, 0, 32⟩ ⟨80, 5, 3, 50, 0, 32⟩ = true := stEq_iff.2 rfl
  refine x_calls (X := XNone) Tryd.func19 rfl rfl rfl ?_
  with_reducible repeat refine xc_seq ?_
  with_reducible refine xc_region ?_
  refine xo_asg rfl rfl rfl ?_
  with_reducible refine xo_nil ?_
  with_reducible repeat (first | refine xq_then ?_ | refine xq_blockN ?_ | refine xq_scopeN ?_)
  with_reducible repeat refine xc_seq ?_
  with_reducible refine xc_region ?_
  refine xo_call (fs := []) (cs := []) rfl rfl rfl recordsE_enters rfl (fun w1 hw1 => (recordsE_calls w1).mono ?_)
  rintro e w2 ⟨ζr, br, rfl, hz, hR⟩
  refine ⟨_, _, rfl, hw1.join hz hR.1, ?_⟩
  clear hz hw1
  refine xo_call (fs := []) (cs := []) rfl rfl rfl movesE_enters rfl (fun w1 hw1 => (movesE_calls w1).mono ?_)
  rintro e w2 ⟨ζm, bm, rfl, hz, hM⟩
  refine ⟨_, _, rfl, hw1.join hz hM.1, ?_⟩
  clear hz hw1
  refine xo_callB (v := .tuple #[.agg (stV ⟨80, 5, 3, 50, 0, 32⟩).toArray, .int .i64 0]) (fs := []) (cs := []) rfl rfl rfl pieces_enters rfl (fun w1 hw1 => by rw [← e_p2, ← e_pc2]; exact pieces_calls (some ⟨br, 0, none⟩) (some ⟨bm, 0, none⟩) 7 6 recsE movsE 2 w1 (hR.2 _ _ _ _ hw1 (fun e he => by repeat (first | exact he | exact List.mem_append_left _ he | apply List.mem_append_right | apply List.Mem.tail))) (hM.2 _ _ _ _ hw1 (fun e he => by repeat (first | exact he | exact List.mem_append_left _ he | apply List.mem_append_right | apply List.Mem.tail))) byE byME (hglob.below hw1.kx.below)) ?_
  refine xo_mv rfl rfl rfl ?_
  refine xo_ext rfl rfl rfl rfl ?_
  refine xo_ext rfl rfl rfl rfl ?_
  refine xo_alloc T_ rfl rfl rfl rfl (fun b1 => ?_)
  refine xo_store T_ rfl rfl rfl rfl (by repeat (first | exact List.Mem.head _ | apply List.Mem.tail | apply List.mem_append_right)) rfl rfl rfl rfl (by repeat (first | exact Upd.head | apply Upd.tail | apply Upd.app)) rfl ?_
  refine xo_asg rfl rfl rfl ?_
  with_reducible refine xo_nil ?_
  with_reducible repeat (first | refine xq_then ?_ | refine xq_blockN ?_ | refine xq_scopeN ?_)
  with_reducible repeat refine xc_seq ?_
  with_reducible refine xc_region ?_
  refine xo_call (fs := []) (cs := []) rfl rfl rfl recordsE_enters rfl (fun w1 hw1 => (recordsE_calls w1).mono ?_)
  rintro e w2 ⟨ζr2, br2, rfl, hz, hR2⟩
  refine ⟨_, _, rfl, hw1.join hz hR2.1, ?_⟩
  clear hz hw1
  refine xo_call (fs := []) (cs := []) rfl rfl rfl letters_enters rfl (fun w1 hw1 => (letters_calls w1).mono ?_)
  rintro e w2 ⟨ζl, bl, rfl, hz, hL⟩
  refine ⟨_, _, rfl, hw1.join hz hL.1, ?_⟩
  clear hz hw1
  refine xo_call (fs := []) (cs := []) rfl rfl rfl movesE_enters rfl (fun w1 hw1 => (movesE_calls w1).mono ?_)
  rintro e w2 ⟨ζm2, bm2, rfl, hz, hM2⟩
  refine ⟨_, _, rfl, hw1.join hz hM2.1, ?_⟩
  clear hz hw1
  refine xo_call (fs := []) (cs := []) rfl rfl rfl recall_enters rfl (fun w1 hw1 => (recall_calls (some ⟨br2, 0, none⟩) (some ⟨bl, 0, none⟩) (some ⟨bm2, 0, none⟩) 7 3 6 recsE letsE movsE 10 w1 (hR2.2 _ _ _ _ hw1 (fun e he => by repeat (first | exact he | exact List.mem_append_left _ he | apply List.mem_append_right | apply List.Mem.tail))) (hL.2 _ _ _ _ hw1 (fun e he => by repeat (first | exact he | exact List.mem_append_left _ he | apply List.mem_append_right | apply List.Mem.tail))) (hM2.2 _ _ _ _ hw1 (fun e he => by repeat (first | exact he | exact List.mem_append_left _ he | apply List.mem_append_right | apply List.Mem.tail))) byE byLE byME (hglob.below hw1.kx.below)).mono ?_)
  rw [e_rec10, e_recn10, e_recc10]
  rintro e w2 ⟨rr, rfl, hrow, hb⟩
  have hrr := hrow.1
  refine ⟨_, _, rfl, hw1.row hb hrow, ?_⟩
  clear hrow hb hw1
  refine xo_mv rfl rfl rfl ?_
  refine xo_ext rfl rfl rfl rfl ?_
  refine xo_ext rfl rfl rfl rfl ?_
  refine xo_ext rfl rfl rfl rfl ?_
  refine xo_asg rfl rfl rfl ?_
  refine xo_asg rfl rfl rfl ?_
  refine xo_asg rfl rfl rfl ?_
  with_reducible refine xo_nil ?_
  with_reducible repeat (first | refine xq_then ?_ | refine xq_blockN ?_ | refine xq_scopeN ?_)
  with_reducible repeat refine xc_seq ?_
  with_reducible refine xc_region ?_
  refine xo_bsG T_ 1 rfl rfl rfl rfl rfl rfl rfl rfl rfl rfl (fun b20 => ?_)
  refine xo_callB (fs := []) (cs := []) rfl rfl rfl onE_enters rfl (fun w1 hw1 => onE_calls 10 [2, 4, 5, 6, 7] (some ⟨b20, 0, none⟩) 5 w1 (ints_cel hw1 b20 [2, 4, 5, 6, 7] (by repeat (first | exact List.Mem.head _ | apply List.Mem.tail | apply List.mem_append_right)) rfl (by decide)) (by decide) e_o10 e_h10) ?_
  refine xo_mv rfl rfl rfl ?_
  first
    | refine xo_not rfl rfl ?_
    | (refine xo_bsG T_ 1 rfl rfl rfl rfl rfl rfl rfl rfl rfl rfl (fun b23 => ?_))
  first
    | refine xo_not rfl rfl ?_
    | (refine xo_callB (fs := []) (cs := []) rfl rfl rfl onE_enters rfl (fun w1 hw1 => onE_calls 20 [1, 2, 3, 6] (some ⟨b23, 0, none⟩) 4 w1 (ints_cel hw1 b23 [1, 2, 3, 6] (by repeat (first | exact List.Mem.head _ | apply List.Mem.tail | apply List.mem_append_right)) rfl (by decide)) (by decide) e_o20 e_h20) ?_)
  first | refine xo_pickT rfl rfl rfl rfl ?_ | refine xo_pickF rfl rfl rfl rfl ?_
  refine xo_mv rfl rfl rfl ?_
  first
    | refine xo_not rfl rfl ?_
    | (refine xo_bsG T_ 1 rfl rfl rfl rfl rfl rfl rfl rfl rfl rfl (fun b27 => ?_))
  first
    | refine xo_not rfl rfl ?_
    | (refine xo_callB (fs := []) (cs := []) rfl rfl rfl takesE_enters rfl (fun w1 hw1 => takesE_calls 10 4 [4, 5, 6, 7] (some ⟨b27, 0, none⟩) 4 w1 (ints_cel hw1 b27 [4, 5, 6, 7] (by repeat (first | exact List.Mem.head _ | apply List.Mem.tail | apply List.mem_append_right)) rfl (by decide)) (by decide) e_o104 e_t104) ?_)
  first | refine xo_pickT rfl rfl rfl rfl ?_ | refine xo_pickF rfl rfl rfl rfl ?_
  refine xo_mv rfl rfl rfl ?_
  first
    | refine xo_not rfl rfl ?_
    | (refine xo_bsG T_ 1 rfl rfl rfl rfl rfl rfl rfl rfl rfl rfl (fun b31 => ?_))
  first
    | refine xo_not rfl rfl ?_
    | (refine xo_callB (fs := []) (cs := []) rfl rfl rfl restsE_enters rfl (fun w1 hw1 => restsE_calls 5 6 [1, 2, 3, 6] (some ⟨b31, 0, none⟩) 4 w1 (ints_cel hw1 b31 [1, 2, 3, 6] (by repeat (first | exact List.Mem.head _ | apply List.Mem.tail | apply List.mem_append_right)) rfl (by decide)) (by decide) e_rc56 e_r56) ?_)
  first | refine xo_pickT rfl rfl rfl rfl ?_ | refine xo_pickF rfl rfl rfl rfl ?_
  refine xo_mv rfl rfl rfl ?_
  first
    | refine xo_not rfl rfl ?_
    | (refine xo_bs1 T_ rfl rfl rfl rfl rfl rfl rfl rfl (fun b35 => ?_))
  first
    | refine xo_not rfl rfl ?_
    | (refine xo_callB (fs := []) (cs := []) rfl rfl rfl causesE_enters rfl (fun w1 hw1 => causesE_calls 10 3 [1] (some ⟨b35, 0, none⟩) 1 w1 (ints_cel hw1 b35 [1] (by repeat (first | exact List.Mem.head _ | apply List.Mem.tail | apply List.mem_append_right)) rfl (by decide)) (by decide) e_cc103 e_c103) ?_)
  first | refine xo_pickT rfl rfl rfl rfl ?_ | refine xo_pickF rfl rfl rfl rfl ?_
  refine xo_mv rfl rfl rfl ?_
  first
    | refine xo_not rfl rfl ?_
    | (refine xo_mv rfl rfl rfl ?_)
  first
    | refine xo_not rfl rfl ?_
    | (refine xo_eql rfl rfl rfl rfl ?_)
  refine xo_as (i := 40) rfl (congrArg Value.bool h10) ?_
  first | refine xo_pickT rfl rfl rfl rfl ?_ | refine xo_pickF rfl rfl rfl rfl ?_
  refine xo_mv rfl rfl rfl ?_
  first
    | refine xo_not rfl rfl ?_
    | (refine xo_loadN T_ rfl rfl rfl (by repeat (first | exact List.Mem.head _ | exact List.mem_append_left _ (List.Mem.head _) | apply List.mem_append_right | apply List.Mem.tail)) rfl rfl ?_)
  first
    | refine xo_not rfl rfl ?_
    | (refine xo_build TB_ rfl rfl rfl rfl rfl ?_)
  first
    | refine xo_not rfl rfl ?_
    | (refine xo_eqlSt (a := ⟨80, 5, 3, 50, 0, 32⟩) (b := ⟨80, 5, 3, 50, 0, 32⟩) rfl rfl rfl rfl ?_)
  refine xo_as (i := 45) rfl (congrArg Value.bool hst) ?_
  first | refine xo_pickT rfl rfl rfl rfl ?_ | refine xo_pickF rfl rfl rfl rfl ?_
  refine xo_mv rfl rfl rfl ?_
  first
    | refine xo_not rfl rfl ?_
    | (refine xo_mv rfl rfl rfl ?_)
  first
    | refine xo_not rfl rfl ?_
    | (refine xo_mv rfl rfl rfl ?_)
  first
    | refine xo_not rfl rfl ?_
    | (refine xo_bs1 T_ rfl rfl rfl rfl rfl rfl rfl rfl (fun b50 => ?_))
  first
    | refine xo_not rfl rfl ?_
    | (refine xo_callB (fs := []) (cs := []) rfl rfl rfl is_enters rfl (fun w1 hw1 => isR_calls (xs := [3]) hw1 (by decide) (hw1.rowAt hrr (fun p hp => by subst hp; exact (by repeat (first | exact List.Mem.head _ | exact List.mem_append_left _ (List.Mem.head _) | apply List.mem_append_right | apply List.Mem.tail)))) (some ⟨b50, 0, none⟩) 1 (ints_cel hw1 b50 [3] (by repeat (first | exact List.Mem.head _ | apply List.Mem.tail | apply List.mem_append_right)) rfl (by decide))) ?_)
  first | refine xo_pickT rfl rfl rfl rfl ?_ | refine xo_pickF rfl rfl rfl rfl ?_
  refine xo_mv rfl rfl rfl ?_
  first
    | refine xo_not rfl rfl ?_
    | (refine xo_mv rfl rfl rfl ?_)
  first
    | refine xo_not rfl rfl ?_
    | (refine xo_eql rfl rfl rfl rfl ?_)
  first | refine xo_pickT rfl rfl rfl rfl ?_ | refine xo_pickF rfl rfl rfl rfl ?_
  refine xo_asg rfl rfl rfl ?_
  with_reducible refine xo_nil ?_
  with_reducible repeat (first | refine xq_then ?_ | refine xq_blockN ?_ | refine xq_scopeN ?_)
  with_reducible repeat refine xc_seq ?_
  with_reducible refine xc_ret ?_
  with_reducible repeat (first | refine xq_thenR ?_ | refine xq_blockR ?_ | refine xq_scopeR ?_)
  exact xq_ret1 rfl rfl fun w' hw => ⟨rfl, hw.kx.below⟩
theorem alive_enters : ∀ args w, (callFunc 19 args).run Tryd.prog w = .ok (.enter 19 args) w := enters_of Tryd.func19 (by kernel_rfl) rfl
end Go.Proofs.YtcmepdamemnbkaaDoor
namespace Go.Proofs.YtcmepdamemnbkaaDoor
open Go.RowKit
set_option linter.unusedVariables false
set_option linter.unusedSimpArgs false
/-- what the i-th may read of the old values: their writers wait for it -/
def volB (ops : List Oper) (i k : Nat) : Bool := ops.any fun o => (o.dst == some k) && (depOf o).contains i
def volS (ops : List Oper) (i : Nat) (ρ : Slots) : Slots := ρ.filter fun p => volB ops i p.1
section
variable {P : Program} {ro : Option Nat} {n N : Nat} {ds : List Deferred} {w0 : World} {X : Nat → Prop} {Q : Exit → Act → World → Prop} {σ : Slots} {η : Hp}
def DrawV (P : Program) (ro : Option Nat) (n N : Nat) (ds : List Deferred) (w0 : World) (X : Nat → Prop) (ops : List Oper) (vs : List Value) (ρ σ : Slots) (η : Hp) : Nat → List Oper → List Value → Prop
  | i, o :: r, v :: vr => (∀ τ, XO P ro n N ds w0 X (OnePost N ds w0 X η (putS o.dst v (flatS ops vs (depOf o) σ ++ (volS ops i ρ ++ τ)))) ops (flatS ops vs (depOf o) σ ++ (volS ops i ρ ++ τ)) η [o]) ∧ DrawV P ro n N ds w0 X ops vs ρ σ η (i + 1) r vr
  | _, _, _ => True
theorem DrawV.nil {ops : List Oper} {vs : List Value} {ρ : Slots} {i : Nat} : DrawV P ro n N ds w0 X ops vs ρ σ η i [] [] := trivial
theorem DrawV.cons {ops : List Oper} {vs : List Value} {ρ : Slots} {i : Nat} {o : Oper} {r : List Oper} {v : Value} {vr : List Value} (h : ∀ τ, XO P ro n N ds w0 X (OnePost N ds w0 X η (putS o.dst v (flatS ops vs (depOf o) σ ++ (volS ops i ρ ++ τ)))) ops (flatS ops vs (depOf o) σ ++ (volS ops i ρ ++ τ)) η [o])
    (t : DrawV P ro n N ds w0 X ops vs ρ σ η (i + 1) r vr) : DrawV P ro n N ds w0 X ops vs ρ σ η i (o :: r) (v :: vr) := ⟨h, t⟩
end
end Go.Proofs.YtcmepdamemnbkaaDoor
namespace Go.Proofs.YtcmepdamemnbkaaDoor
open Go.ChangeShapes Go.WideShapes Go.RowKit
set_option linter.unusedVariables false
set_option linter.unusedSimpArgs false
def laidL : List (String × DataW Unit) := [("cottonpad/trust.adds", Rows.laid_cottonpad_trust_adds)]
theorem gAdds : Tryd.prog.globalNamed "cottonpad/trust.adds" = some 0 := by kernel_rfl
theorem tAdds : (Tryd.prog.globals[0]?).map (·.type) = some 107 := by kernel_rfl
theorem door_met (os : Os) (args : Array Value) : laidMetH Tryd.prog laidL ((World.doorLaid Tryd.prog 400 os).forCall (fun _ _ => 0) ⟨#[], args, []⟩).memory :=
  laidMetH_of_parts3 (fuel := 8) (laidMet_of_run' 8 (by kernel_rfl) (by kernel_rfl)) (by kernel_rfl) (by kernel_rfl)
theorem trod_six {P : Program} {H : Type} {enc : TypeId × Value → H} {w : World} {fuel : Nat} {t te : TypeId} {a0 a1 a2 a3 a4 a5 : Value} {d : DataW H} {ps : List MemPlace}
    (ht : P.underlying t = some (.array 6 te)) (hE : P.cellsOf te = 1)
    (h : DataW.trod enc P w 0 (fun _ => true) true (fuel + 1) t [a0, a1, a2, a3, a4, a5] = some (d, ps)) :
    ∃ x0 x1 x2 x3 x4 x5, DataW.trod enc P w 0 (fun _ => true) true fuel te [a1] = some x1 ∧ DataW.trod enc P w 0 (fun _ => true) true fuel te [a2] = some x2 ∧ DataW.trod enc P w 0 (fun _ => true) true fuel te [a3] = some x3 ∧ DataW.trod enc P w 0 (fun _ => true) true fuel te [a4] = some x4 ∧ DataW.trod enc P w 0 (fun _ => true) true fuel te [a5] = some x5 ∧
      d = .agg [x0, x1.1, x2.1, x3.1, x4.1, x5.1] := by
  unfold DataW.trod at h
  rw [ht] at h
  simp only [List.length_cons, List.length_nil] at h
  split at h
  · simp only [show List.range 6 = [0, 1, 2, 3, 4, 5] from rfl, List.mapM_cons, List.mapM_nil, hE, Nat.mul_one, List.drop_zero, List.take_succ_cons, List.take_zero, List.drop_succ_cons, Option.map_eq_some_iff] at h
    obtain ⟨xs, h, e'⟩ := h
    cases h0 : DataW.trod enc P w 0 (fun _ => true) true fuel te [a0] with
    | none => simp [h0] at h
    | some x0 =>
      cases h1 : DataW.trod enc P w 0 (fun _ => true) true fuel te [a1] with
      | none => simp [h0, h1] at h
      | some x1 =>
        cases h2 : DataW.trod enc P w 0 (fun _ => true) true fuel te [a2] with
        | none => simp [h0, h1, h2] at h
        | some x2 =>
          cases h3 : DataW.trod enc P w 0 (fun _ => true) true fuel te [a3] with
          | none => simp [h0, h1, h2, h3] at h
          | some x3 =>
            cases h4 : DataW.trod enc P w 0 (fun _ => true) true fuel te [a4] with
            | none => simp [h0, h1, h2, h3, h4] at h
            | some x4 =>
              cases h5 : DataW.trod enc P w 0 (fun _ => true) true fuel te [a5] with
              | none => simp [h0, h1, h2, h3, h4, h5] at h
              | some x5 =>
                simp [h0, h1, h2, h3, h4, h5] at h
                subst h
                simp at e'
                exact ⟨x0.1, x1, x2, x3, x4, x5, rfl, rfl, rfl, rfl, rfl, e'.1.symm⟩
  · simp at h
theorem trod_len {P : Program} {H : Type} {enc : TypeId × Value → H} {w : World} {fuel : Nat} {t te : TypeId} {n : Nat} {l : List Value} {x : DataW H × List MemPlace}
    (ht : P.underlying t = some (.array n te)) (h : DataW.trod enc P w 0 (fun _ => true) true fuel t l = some x) : l.length = P.cellsOf t := by
  cases fuel with
  | zero => simp [DataW.trod] at h
  | succ m =>
    by_cases hl : l.length = P.cellsOf t
    · exact hl
    · exfalso
      unfold DataW.trod at h
      rw [ht] at h
      simp [hl] at h
set_option maxRecDepth 100000 in
theorem glob_of_laid {W : World} (h : laidMetH Tryd.prog laidL W) : GlobOK W := by
  obtain ⟨g, t, cs, fuel, p, hg, ht, hv, hd⟩ := h.funcs (n := "cottonpad/trust.adds") (List.mem_cons_self ..)
  obtain rfl := Option.some.inj (gAdds.symm.trans hg)
  obtain rfl := Option.some.inj (tAdds.symm.trans ht)
  have hd' : DataW.trod (funcToken Tryd.prog) Tryd.prog W 0 (fun _ => true) true fuel 107 cs.toList = some (.agg [.nil, DataW.held [99, 111, 116, 116, 111, 110, 112, 97, 100, 47, 116, 114, 117, 115, 116, 46, 97, 100, 100, 115, 36, 49], DataW.held [99, 111, 116, 116, 111, 110, 112, 97, 100, 47, 116, 114, 117, 115, 116, 46, 97, 100, 100, 115, 36, 50], DataW.held [99, 111, 116, 116, 111, 110, 112, 97, 100, 47, 116, 114, 117, 115, 116, 46, 97, 100, 100, 115, 36, 51], DataW.held [99, 111, 116, 116, 111, 110, 112, 97, 100, 47, 116, 114, 117, 115, 116, 46, 97, 100, 100, 115, 36, 52], DataW.held [99, 111, 116, 116, 111, 110, 112, 97, 100, 47, 116, 114, 117, 115, 116, 46, 97, 100, 100, 115, 36, 53]], p) := hd
  have hlen : cs.toList.length = 6 := (trod_len Tryd.underlying107 hd').trans (by kernel_rfl)
  obtain ⟨l⟩ := cs
  match l, hlen with
  | [a0, a1, a2, a3, a4, a5], _ =>
    cases fuel with
    | zero => simp [DataW.trod] at hd'
    | succ n =>
      obtain ⟨x0, x1, x2, x3, x4, x5, h1, h2, h3, h4, h5, e⟩ := trod_six (te := 106) Tryd.underlying107 (by kernel_rfl) hd'
      simp only [DataW.agg.injEq, List.cons.injEq, and_true] at e
      obtain ⟨_, e1, e2, e3, e4, e5⟩ := e
      obtain ⟨x1d, x1p⟩ := x1
      obtain ⟨x2d, x2p⟩ := x2
      obtain ⟨x3d, x3p⟩ := x3
      obtain ⟨x4d, x4p⟩ := x4
      obtain ⟨x5d, x5p⟩ := x5
      simp only at e1 e2 e3 e4 e5
      subst e1 e2 e3 e4 e5
      obtain rfl := func_of_trod (f0 := 122) Tryd.underlying106 (by kernel_rfl) h1
      obtain rfl := func_of_trod (f0 := 123) Tryd.underlying106 (by kernel_rfl) h2
      obtain rfl := func_of_trod (f0 := 124) Tryd.underlying106 (by kernel_rfl) h3
      obtain rfl := func_of_trod (f0 := 125) Tryd.underlying106 (by kernel_rfl) h4
      obtain rfl := func_of_trod (f0 := 126) Tryd.underlying106 (by kernel_rfl) h5
      unfold World.var? at hv
      rw [gAdds] at hv
      simp only [Option.bind_some] at hv
      cases hh : W.heap[0]? with
      | none => simp [hh] at hv
      | some o =>
        cases o <;> simp [hh] at hv
        subst hv
        intro k hk1 hk2
        have hc : ∀ i (v : Value), [a0, .func (.func 122) #[] #[], .func (.func 123) #[] #[], .func (.func 124) #[] #[], .func (.func 125) #[] #[], .func (.func 126) #[] #[]][i]? = some v → W.cell? ⟨0, i, none⟩ = some v := fun i v h => by
          unfold World.cell?
          rw [hh]
          simpa using h
        rcases (show k = 1 ∨ k = 2 ∨ k = 3 ∨ k = 4 ∨ k = 5 by omega) with rfl | rfl | rfl | rfl | rfl
        all_goals exact hc _ _ rfl
end Go.Proofs.YtcmepdamemnbkaaDoor
namespace Go.Proofs.YtcmepdamemnbkaaDoor
open Go.RowKit Go.Proofs.YtcmepdamemnbkaaDoorW.PrintWords
set_option linter.unusedVariables false
set_option linter.unusedSimpArgs false
theorem setR_calls {w0 w : World} {X : Nat → Prop} {η : Hp} (hw : WOK w0 X η w) {rr : RowR} {xs : List Int} (hl : xs.length ≤ 1000000) (h1 : RowAt 3 0 w rr xs) (hs : xs.Pairwise fun a b => a < b) :
    Calls Tryd.prog 35 ([] ++ [valR rr xs.length] ++ []).toArray w fun e w' => ∃ M, e = .returned (.tuple #[.map (some M), .bool true]) ∧ WOK w XNone [(M, true, hmap (setV xs))] w' := by
  obtain ⟨A, c, e1, _, hA⟩ := h1.C (by omega)
  rw [e1]
  exact set_calls A c xs w hA hs
theorem u32_of {n : Int} (h : (Lit.int .u32 n).wf = true) : 0 ≤ n ∧ n ≤ 4294967295 := by
  simp only [Lit.wf, Bool.and_eq_true, decide_eq_true_eq] at h
  exact h
/-- what is asked once records and letters are ready: a day, a record -/
theorem open_ok {r : List RecT} {l : List LetT} {d : Int} (h : checkF r l = 0) (hd : 0 ≤ d ∧ d ≤ 100000) : openF r l d [] = 0 := by
  rw [openF_day h, if_pos (by simp [inF, hd.1, hd.2])]
theorem open_ok1 {r : List RecT} {l : List LetT} {d id : Int} (h : checkF r l = 0) (hd : 0 ≤ d ∧ d ≤ 100000) (hid : knownF r id = true) : openF r l d [id] = 0 := by
  rw [openF, if_pos h, if_pos (by simp [inF, hd.1, hd.2]), if_pos (by simp [hid])]
end Go.Proofs.YtcmepdamemnbkaaDoor
namespace Go.Proofs.YtcmepdamemnbkaaDoor
open Go.RowKit Go.Proofs.YtcmepdamemnbkaaDoorW.PrintWords
theorem goneF_mem {r : List RecT} (hs : SortedIds r) {l : List LetT} {day n : Int} : n ∈ goneF r l day ↔ n ∈ idsL r ∧ goneB l day n = true := by rw [goneF_filter hs, List.mem_filter]
end Go.Proofs.YtcmepdamemnbkaaDoor
namespace Go.Proofs.YtcmepdamemnbkaaDoor
open Go.RowKit Go.Proofs.YtcmepdamemnbkaaDoorW.PrintWords
end Go.Proofs.YtcmepdamemnbkaaDoor
namespace Go.Proofs.YtcmepdamemnbkaaDoor
open Go.RowKit Go.Proofs.YtcmepdamemnbkaaDoorW.PrintWords
set_option linter.unusedVariables false
set_option linter.unusedSimpArgs false
end Go.Proofs.YtcmepdamemnbkaaDoor
namespace Go.Proofs.YtcmepdamemnbkaaDoor
open Go.RowKit Go.Proofs.YtcmepdamemnbkaaDoorW.PrintWords
end Go.Proofs.YtcmepdamemnbkaaDoor
namespace Go.Proofs.YtcmepdamemnbkaaDoor
open Go.RowKit Go.Proofs.YtcmepdamemnbkaaDoorW.PrintWords
set_option linter.unusedVariables false
set_option linter.unusedSimpArgs false
section
variable {P : Program} {ro : Option Nat} {n N : Nat} {ds : List Deferred} {w0 : World} {X : Nat → Prop} {Q : Exit → Act → World → Prop} {σ : Slots} {η : Hp} {ops rest : List Oper} {d : Option Tmp} {ty : TypeId} {pos : String} {aft : Array Edge} {g : Option (Nat × Bool)} {x y : Operand} {t t' : TypeId}
/-- a list behind an own one -/
theorem xo_cat {α : Type} (f : α → List Value) {sz : Nat} (hf : ∀ x, (f x).length = sz) (hone : ∀ x, ∀ u ∈ f x, u.oneCell' = true) (l0 l : List α) (T : TysR P) {t e : TypeId} {s x : Operand} {z : Value} {by_ c b0 cap0 : Nat} {A : Option Addr} {η0 : Hp} (hg : gS ops σ g = some true) (ht : look t T.el = some e) (hi : look e T.inf = some (z, sz, by_)) (hzs : z.cells.toList.length = sz) (hsz : Nat.blt 0 sz = true)
    (hs : ev σ s = some (.slice (some ⟨b0, 0, none⟩) l0.length cap0)) (hx : ev σ x = some (.slice A l.length c)) (hη : η = (b0, true, orow e sz l0.length cap0 (l0.map f).flatten) :: η0) (hA : A = none → l.length = 0) (hnews : ∀ p, A = some p → ∀ w, WOK w0 X η w → ∀ j u, (l.map f).flatten[j]? = some u → w.cell? (p.add j) = some u)
    (hb : (l0.length + l.length) * by_ ≤ 140737488355328) (hb0 : Nat.blt 0 by_ = true) (hN : dstOK N d = true)
    (h : ∀ b cap, XO P ro n N ds w0 X Q ops (putS d (.slice (some ⟨b, 0, none⟩) (l0 ++ l).length cap) σ) ((b, true, orow e sz (l0 ++ l).length cap ((l0 ++ l).map f).flatten) :: η0) rest) :
    XO P ro n N ds w0 X Q ops σ η (⟨d, .call { callee := .builtin .append, args := #[s, x], argTypes := #[t, t] }, ty, pos, aft, g⟩ :: rest) := by
  refine xo_appN T (r := some (b0, cap0)) (m := l0.length) (xs := (l0.map f).flatten) (news := (l.map f).flatten) (η0 := η0) hg ht hi hzs hsz hs hx hη (flat_map_len f sz hf l0) (flat_map_len f sz hf l) hA hnews (fun u hu => by
    obtain ⟨c, hc, hu⟩ := List.mem_flatten.1 hu
    obtain ⟨q, _, rfl⟩ := List.mem_map.1 hc
    exact hone q u hu) (fun q => by cases q) hb hb0 hN fun r' hr' => ?_
  rcases r' with _ | ⟨b, cap⟩
  · exact absurd (hr' rfl).1 (by simp)
  · have := h b cap
    rw [List.length_append, List.map_append, List.flatten_append] at this
    exact this
theorem xo_cpy {α : Type} (f : α → List Value) {sz : Nat} (hf : ∀ x, (f x).length = sz) (hone : ∀ x, ∀ u ∈ f x, u.oneCell' = true) (l : List α) (T : TysR P) {t e : TypeId} {s x : Operand} {z : Value} {by_ c b0 : Nat} {A : Option Addr} {η0 : Hp} (hg : gS ops σ g = some true) (ht : look t T.el = some e) (hi : look e T.inf = some (z, sz, by_)) (hzs : z.cells.toList.length = sz) (hsz : Nat.blt 0 sz = true)
    (hs : ev σ s = some (.slice (some ⟨b0, 0, none⟩) 0 0)) (hx : ev σ x = some (.slice A l.length c)) (hη : η = (b0, true, orow e sz 0 0 []) :: η0) (hA : A = none → l.length = 0) (hnews : ∀ p, A = some p → ∀ w, WOK w0 X η w → ∀ j u, (l.map f).flatten[j]? = some u → w.cell? (p.add j) = some u)
    (hb : l.length * by_ ≤ 140737488355328) (hb0 : Nat.blt 0 by_ = true) (hN : dstOK N d = true)
    (h : ∀ b cap, XO P ro n N ds w0 X Q ops (putS d (.slice (some ⟨b, 0, none⟩) l.length cap) σ) ((b, true, orow e sz l.length cap (l.map f).flatten) :: η0) rest) :
    XO P ro n N ds w0 X Q ops σ η (⟨d, .call { callee := .builtin .append, args := #[s, x], argTypes := #[t, t] }, ty, pos, aft, g⟩ :: rest) :=
  xo_cat f hf hone [] l T hg ht hi hzs hsz hs hx hη hA hnews (by rw [List.length_nil, Nat.zero_add]; exact hb) hb0 hN h
/-- one more -/
theorem xo_one {α : Type} (f : α → List Value) {sz : Nat} (hf : ∀ x, (f x).length = sz) (l : List α) (q : α) (hone : (f q).all (·.oneCell') = true) (T : TysR P) {t e : TypeId} {s x : Operand} {z : Value} {by_ b0 b1 cap0 : Nat} {wr : Bool} {η0 : Hp} (hg : gS ops σ g = some true) (ht : look t T.el = some e) (hi : look e T.inf = some (z, sz, by_)) (hzs : z.cells.toList.length = sz) (hsz : Nat.blt 0 sz = true)
    (hs : ev σ s = some (.slice (some ⟨b0, 0, none⟩) l.length cap0)) (hx : ev σ x = some (.slice (some ⟨b1, 0, none⟩) 1 1)) (hη : η = (b1, wr, cel (f q) e) :: (b0, true, orow e sz l.length cap0 (l.map f).flatten) :: η0)
    (hb : (l.length + 1) * by_ ≤ 140737488355328) (hb0 : Nat.blt 0 by_ = true) (hN : dstOK N d = true)
    (h : ∀ b cap, XO P ro n N ds w0 X Q ops (putS d (.slice (some ⟨b, 0, none⟩) (l ++ [q]).length cap) σ) ((b, true, orow e sz (l ++ [q]).length cap ((l ++ [q]).map f).flatten) :: η0) rest) :
    XO P ro n N ds w0 X Q ops σ η (⟨d, .call { callee := .builtin .append, args := #[s, x], argTypes := #[t, t] }, ty, pos, aft, g⟩ :: rest) := by
  refine xo_app T (r := some (b0, cap0)) (m := l.length) (xs := (l.map f).flatten) (news := f q) (η0 := η0) hg ht hi hzs hsz hs hx hη (flat_map_len f sz hf l) (hf q) hone (fun q => by cases q) hb hb0 hN fun r' hr' => ?_
  rcases r' with _ | ⟨b, cap⟩
  · exact absurd rfl hr'
  · have := h b cap
    rw [List.length_append, List.map_append, List.flatten_append] at this
    simp only [List.map_cons, List.map_nil, List.flatten_cons, List.flatten_nil, List.append_nil] at this
    exact this
end
theorem cells_map {α : Type} {f : α → List Value} {cells : List (List Value)} {l : List α} (hl : cells.length = l.length) (h : ∀ (j : Nat) (x : α) (c : List Value), l[j]? = some x → cells[j]? = some c → c = f x) : cells = l.map f := by
  apply List.ext_getElem?
  intro i
  rw [List.getElem?_map]
  by_cases hi : i < l.length
  · rw [List.getElem?_eq_getElem (show i < cells.length by omega), List.getElem?_eq_getElem hi, Option.map_some]
    exact congrArg some (h i _ _ (List.getElem?_eq_getElem hi) (List.getElem?_eq_getElem (by omega)))
  · rw [List.getElem?_eq_none (by omega), List.getElem?_eq_none (by omega)]
    rfl
theorem let_news {w : World} {p : Addr} {l : List LetT} (h : Kd.C letK w (some p) l.length l) : ∀ (j : Nat) (u : Value), (l.map letV).flatten[j]? = some u → w.cell? (p.add j) = some u := by
  obtain ⟨cells, h1, _, h3, h4⟩ := C_cells h (by decide)
  obtain rfl := cells_map h1 fun j x c hx hc => k52_open (h3 j x c hx hc)
  exact h4 p rfl
theorem C_none {α : Type} {d : Kd α} {w : World} {A : Option Addr} {l : List α} (h : Kd.C d w A l.length l) (e : A = none) : l.length = 0 := by
  subst e
  by_cases h0 : l.length = 0
  · exact h0
  · obtain ⟨ad, e, _⟩ := h.2.2 (by omega)
    cases e
theorem let_one (x : LetT) : ∀ u ∈ letV x, u.oneCell' = true := by simp [letV, Value.oneCell']
theorem let_read {w0 w : World} {X : Nat → Prop} {η : Hp} (hw : WOK w0 X η w) {b cap : Nat} {l : List LetT} (hm : (b, true, orow 52 4 l.length cap (l.map letV).flatten) ∈ η) (hlen : l.length ≤ 1000000) : Kd.C letK w (some ⟨b, 0, none⟩) l.length l := by
  obtain ⟨o, h1, h2⟩ := hw.bl _ hm
  refine C_row (d := letK) (cells := l.map letV) (cap := cap) h1 (e := 52) (by rw [List.length_map]; exact h2) (by simp) (fun c hc => by obtain ⟨x, _, rfl⟩ := List.mem_map.1 hc; rfl) (fun j x c hx hcx => ?_) (by omega)
  rw [List.getElem?_map, hx] at hcx
  cases hcx
  exact k52_mk w x
end Go.Proofs.YtcmepdamemnbkaaDoor
namespace Go.Proofs.YtcmepdamemnbkaaDoor
open Go.RowKit Go.Proofs.YtcmepdamemnbkaaDoorW.PrintWords
theorem ad4 (b i j : Nat) : (Addr.add (Addr.add ⟨b, 0, none⟩ ((i : Int).toNat * szN 4)) j) = ⟨b, i * 4 + j, none⟩ := by
  rw [Addr.add_lit, Addr.add_lit, show szN 4 = 4 from rfl]
  simp
theorem causesR_len (r : List RecT) (l : List LetT) (day id : Int) : (refCausesR r l day id).length ≤ r.length := by
  unfold refCausesR
  split
  · exact causesBest_len r _ _ _
  · simp
end Go.Proofs.YtcmepdamemnbkaaDoor
namespace Go.Proofs.YtcmepdamemnbkaaDoor
open Go.RowKit Go.Proofs.YtcmepdamemnbkaaDoorW.PrintWords
theorem fewest_least (xs : List Int) (p : List Int → Bool) : Least (fun y => y.Sublist xs ∧ p y = true) (fewestF xs p) (((List.range (2 ^ xs.length)).foldl (fewStep (subM xs) p) ([], false)).2 = true) :=
  (least_few (subM xs) p (2 ^ xs.length)).mono (fun y => subM_lt xs p y) Iff.rfl
theorem fewest_ok {xs : List Int} {p : List Int → Bool} {y : List Int} (h1 : y.Sublist xs) (h2 : p y = true) :
    (fewestF xs p).Sublist xs ∧ p (fewestF xs p) = true ∧ ∀ z, z.Sublist xs → p z = true → ¬ z.length < (fewestF xs p).length := by
  have L := fewest_least xs p
  have hf := Classical.byContradiction fun q => (L.none q).2 y ⟨h1, h2⟩
  obtain ⟨h3, h4⟩ := L.is hf
  refine ⟨h3.1, h3.2, fun z hz1 hz2 hlt => ?_⟩
  have h5 := h4 z ⟨hz1, hz2⟩
  rw [aheadF, if_neg (by omega), decide_eq_false_iff_not] at h5
  exact h5 hlt
/-- if none is gone all hold -/
theorem all_hold {r : List RecT} (hok : recordedF r = true) : ∀ j k, k < j → k < r.length → idAt r k ∈ holdsF r [] := by
  intro j
  induction j with
  | zero => intro k hk; omega
  | succ j ih =>
    intro k hkj hk
    rw [hold_iff hok _ hk]
    refine ⟨?_, by simp⟩
    simp only [standsF, Bool.or_eq_true, decide_eq_true_eq, List.any_eq_true]
    cases hw : (r.getD k zRec).f2 with
    | nil => exact .inl rfl
    | cons way ws =>
      refine .inr ⟨way, List.mem_cons_self, ?_⟩
      simp only [allIn, List.all_eq_true, decide_eq_true_eq]
      intro n hn
      obtain ⟨a, h4, h5, h6⟩ := recorded_before hok hk (way := way) (by rw [hw]; exact List.mem_cons_self) hn
      rw [← h6]
      exact ih a (by omega) h5
theorem causes_law {r : List RecT} (hok : recordedF r = true) {G : List Int} {id : Int} (hid : knownF r id = true) :
    (fewestF G (causeP r G id)).Sublist G ∧ id ∈ holdsF r (diffF G (fewestF G (causeP r G id))) ∧
      ∀ S, S.Sublist G → S.length < (fewestF G (causeP r G id)).length → id ∉ holdsF r (diffF G S) := by
  obtain ⟨k, hk, rfl⟩ := knownF_iff.1 hid
  have h0 : diffF G G = [] := by
    rw [diffF, List.filter_eq_nil_iff]
    intro n hn
    simp [hn]
  obtain ⟨h1, h2, h3⟩ := fewest_ok (p := causeP r G (idAt r k)) (List.Sublist.refl G) (by rw [causeP, h0]; exact decide_eq_true (all_hold hok (k + 1) k (by omega) hk))
  refine ⟨h1, of_decide_eq_true h2, fun S hS hlt hin => h3 S hS (decide_eq_true hin) hlt⟩
/-- a choice of records, by their places -/
def selP (r : List RecT) (p : Nat → Bool) (k : Nat) : List Int := ((List.range k).filter p).map (idAt r)
theorem selP_succ (r : List RecT) (p : Nat → Bool) (k : Nat) : selP r p (k + 1) = selP r p k ++ if p k then [idAt r k] else [] := by
  unfold selP
  rw [List.range_succ, List.filter_append, List.map_append]
  cases h : p k <;> simp [h]
theorem selP_iff {r : List RecT} (hs : SortedIds r) {p : Nat → Bool} {i : Nat} (hi : i < r.length) : idAt r i ∈ selP r p r.length ↔ p i = true := by
  unfold selP
  rw [List.mem_map]
  constructor
  · rintro ⟨j, hj, e⟩
    rw [List.mem_filter, List.mem_range] at hj
    have : j = i := by
      rcases Nat.lt_trichotomy j i with h | h | h
      · have := sorted_lt hs i j h hi; omega
      · exact h
      · have := sorted_lt hs j i h hj.1; omega
    subst this
    exact hj.2
  · intro h
    exact ⟨i, by rw [List.mem_filter, List.mem_range]; exact ⟨hi, h⟩, rfl⟩
theorem idsL_range (r : List RecT) : idsL r = (List.range r.length).map (idAt r) := by
  apply List.ext_getElem?
  intro i
  by_cases h : i < r.length
  · rw [List.getElem?_map, List.getElem?_range h]
    simp [idsL, List.getElem?_eq_getElem h, idAt, List.getD_eq_getElem?_getD]
  · simp [idsL, h]
theorem selP_sub (r : List RecT) (p : Nat → Bool) : (selP r p r.length).Sublist (idsL r) := by
  rw [idsL_range]
  exact List.filter_sublist.map _
theorem selP_in {r : List RecT} (hs : SortedIds r) {p : Nat → Bool} {H : List Int} (hH : H.Sublist (idsL r)) (h : ∀ i, i < r.length → p i = true → idAt r i ∈ H) : (selP r p r.length).Sublist H := by
  refine sub_of_subset (selP_sub r p) hH (idsL_nodup hs) fun n hn => ?_
  obtain ⟨i, hi, rfl⟩ := idsL_mem.1 ((selP_sub r p).subset hn)
  exact h i hi ((selP_iff hs hi).1 hn)
/-! ### letters that restore -/
def restL (r : List RecT) (C : List Int) (d : Int) (l : List LetT) : Nat → List LetT
  | 0 => l
  | k + 1 => if decide (idAt r k ∈ C) then restL r C d l k ++ [⟨nextN (restL r C d l k), d, idAt r k, 2⟩] else restL r C d l k
theorem restL_gone {r : List RecT} {C : List Int} {d : Int} {l : List LetT} {n : Int} : ∀ k, goneB (restL r C d l k) d n = if ∃ i, i < k ∧ idAt r i = n ∧ n ∈ C then false else goneB l d n
  | 0 => by rw [if_neg (by simp)]; rfl
  | k + 1 => by
    rw [restL]
    by_cases hc : idAt r k ∈ C
    · rw [if_pos (decide_eq_true hc), goneB_app rfl, restL_gone k]
      by_cases e : idAt r k = n
      · rw [if_pos e, if_pos ⟨k, by omega, e, e ▸ hc⟩]
        rfl
      · rw [if_neg e]
        have : (∃ i, i < k ∧ idAt r i = n ∧ n ∈ C) ↔ ∃ i, i < k + 1 ∧ idAt r i = n ∧ n ∈ C := by
          constructor
          · rintro ⟨i, h1, h2⟩; exact ⟨i, by omega, h2⟩
          · rintro ⟨i, h1, h2, h3⟩
            refine ⟨i, ?_, h2, h3⟩
            by_cases q : i = k
            · subst q; exact absurd h2 e
            · omega
        simp only [this]
    · rw [if_neg (by simp [hc]), restL_gone k]
      have : (∃ i, i < k ∧ idAt r i = n ∧ n ∈ C) ↔ ∃ i, i < k + 1 ∧ idAt r i = n ∧ n ∈ C := by
        constructor
        · rintro ⟨i, h1, h2⟩; exact ⟨i, by omega, h2⟩
        · rintro ⟨i, h1, h2, h3⟩
          refine ⟨i, ?_, h2, h3⟩
          by_cases q : i = k
          · subst q; rw [h2] at hc; exact absurd h3 hc
          · omega
      simp only [this]
theorem rest_holds {r : List RecT} (hok : recordedF r = true) (C : List Int) (d : Int) (l : List LetT) : holdsF r (goneF r (restL r C d l r.length) d) = holdsF r (diffF (goneF r l d) C) := by
  have hs := sorted_of hok
  refine holdsF_congr fun n hn => ?_
  rw [goneF_mem hs, restL_gone, diffF, List.mem_filter, goneF_mem hs]
  obtain ⟨i, hi, e⟩ := idsL_mem.1 hn
  by_cases hc : n ∈ C
  · rw [if_pos ⟨i, hi, e, hc⟩]
    simp [hc]
  · rw [if_neg (by rintro ⟨_, _, _, h⟩; exact hc h)]
    simp [hc]
theorem diff_selP {r : List RecT} (hs : SortedIds r) (G : List Int) (b : Nat → Bool) : ((List.range r.length).map fun i => decide (idAt r i ∈ G) && !(decide (i < r.length) && b i)) = inB r (diffF G (selP r (fun i => decide (idAt r i ∈ G) && b i) r.length)) := by
  have h0 : r = (List.range r.length).map fun i => r.getD i zRec := by
    apply List.ext_getElem?
    intro i
    by_cases h : i < r.length
    · rw [List.getElem?_map, List.getElem?_range h]
      simp [List.getElem?_eq_getElem h, List.getD_eq_getElem?_getD]
    · simp [h]
  have h2 : ∀ D : List Int, inB r D = (List.range r.length).map fun i => decide (idAt r i ∈ D) := fun D => by
    unfold inB
    conv => lhs; rw [h0, List.map_map]
    rfl
  rw [h2]
  refine List.map_congr_left fun i hi => ?_
  rw [List.mem_range] at hi
  have h1 := selP_iff hs (p := fun i => decide (idAt r i ∈ G) && b i) hi
  rw [Bool.eq_iff_iff, decide_eq_true_iff, diffF, List.mem_filter]
  simp only [Bool.not_eq_true', decide_eq_false_iff_not, h1, hi, decide_true, Bool.true_and]
  by_cases hg : idAt r i ∈ G <;> simp [hg]
end Go.Proofs.YtcmepdamemnbkaaDoor
namespace Go.Proofs.YtcmepdamemnbkaaDoor
open Go.RowKit Go.Proofs.YtcmepdamemnbkaaDoorW.PrintWords
set_option linter.unusedVariables false
set_option linter.unusedSimpArgs false
section
variable {P : Program} {ro : Option Nat} {n N : Nat} {ds : List Deferred} {w0 : World} {X : Nat → Prop} {Q : Exit → Act → World → Prop} {σ : Slots} {η : Hp} {ops rest : List Oper} {d : Option Tmp} {ty t t' : TypeId} {pos : String} {aft : Array Edge} {g : Option (Nat × Bool)}
theorem xo_shrU {x y : Operand} {k m : Nat} (hg : gS ops σ g = some true) (hx : ev σ x = some (.int .u16 (k : Int))) (hy : ev σ y = some (.int .i64 (m : Int))) (hm : m ≤ 15) (hN : dstOK N d = true)
    (h : XO P ro n N ds w0 X Q ops (putS d (.int .u16 ((k / 2 ^ m : Nat) : Int)) σ) η rest) : XO P ro n N ds w0 X Q ops σ η (⟨d, .binOp .shr t x y t', ty, pos, aft, g⟩ :: rest) :=
  xo_val _ rfl hg hN (fun a w ha hw => by
    have h1 : min (m : Int).toNat IntKind.u16.bits = m := by simp [IntKind.bits]; omega
    have h3 : Int.fdiv (k : Int) (2 ^ m) = ((k / 2 ^ m : Nat) : Int) := by
      rw [Int.fdiv_eq_ediv_of_nonneg _ (by exact Int.le_of_lt (Int.pow_pos (by omega)))]
      simp
    simp only [execOp, ha.ev hx, ha.ev hy, eqGuard_shr, binOp_shr, Op.shift, Sem.run_bind, Sem.run_pure, Result.andThen_ok]
    rw [if_neg (by omega), h1]
    simp [h3]) h
theorem xo_andU {x y : Operand} {k : Nat} (hg : gS ops σ g = some true) (hx : ev σ x = some (.int .u16 (k : Int))) (hy : ev σ y = some (.int .u16 1)) (hk : k < 65536) (hN : dstOK N d = true)
    (h : XO P ro n N ds w0 X Q ops (putS d (.int .u16 ((k % 2 : Nat) : Int)) σ) η rest) : XO P ro n N ds w0 X Q ops σ η (⟨d, .binOp .and t x y t', ty, pos, aft, g⟩ :: rest) :=
  xo_val _ rfl hg hN (fun a w ha hw => by
    simp only [execOp, ha.ev hx, ha.ev hy, eqGuard_and, binOp_and, Op.intBits, Sem.run_bind, Sem.run_pure, Result.andThen_ok]
    have h1 : (BitVec.ofInt IntKind.u16.bits (k : Int) &&& BitVec.ofInt IntKind.u16.bits 1).toNat = k % 2 := by
      rw [BitVec.toNat_and]
      simp only [BitVec.toNat_ofInt, IntKind.bits]
      rw [show ((k : Int) % ((2 ^ 16 : Nat) : Int)).toNat = k by omega, show ((1 : Int) % ((2 ^ 16 : Nat) : Int)).toNat = 1 by decide, Nat.and_one_is_mod]
    have h2 : IntKind.u16.wrap ((k % 2 : Nat) : Int) = ((k % 2 : Nat) : Int) := by
      simp [IntKind.wrap, IntKind.bits, IntKind.signed]; omega
    rw [h1, h2]) h
end
theorem shr_lt {k m : Nat} (h : k ≤ 65535) : k / 2 ^ m < 65536 := Nat.lt_of_le_of_lt (Nat.div_le_self _ _) (by omega)
theorem bit_one (k i : Nat) : decide (((k / 2 ^ i % 2 : Nat) : Int) = 1) = bitB k i := rfl
theorem u16_of {n : Int} (h : (Lit.int .u16 n).wf = true) : 0 ≤ n ∧ n ≤ 65535 := by
  simp only [Lit.wf, Bool.and_eq_true, decide_eq_true_eq] at h
  exact h
end Go.Proofs.YtcmepdamemnbkaaDoor
namespace Go.Proofs.YtcmepdamemnbkaaDoor
open Go.RowKit Go.Proofs.YtcmepdamemnbkaaDoorW.PrintWords
set_option linter.unusedVariables false
set_option linter.unusedSimpArgs false
section
variable {P : Program} {ro : Option Nat} {n N : Nat} {ds : List Deferred} {w0 : World} {X : Nat → Prop} {Q : Exit → Act → World → Prop} {σ : Slots} {η : Hp} {ops rest : List Oper}
theorem xo_subH {η' : Hp} (hs : List.Sublist η' η) (h : XO P ro n N ds w0 X Q ops σ η' rest) : XO P ro n N ds w0 X Q ops σ η rest := fun a w ha hw => h a w ha (hw.sub hs)
theorem xo_permH {η' : Hp} (hp : List.Perm η η') (h : XO P ro n N ds w0 X Q ops σ η' rest) : XO P ro n N ds w0 X Q ops σ η rest := fun a w ha hw => h a w ha (hw.perm hp)
end
theorem own_add {w0 w : World} {X : Nat → Prop} {η : Hp} (hw : WOK w0 X η w) {b : Nat} {wr : Bool} {cs : List Value} {t : TypeId} (hm : (b, wr, cel cs t) ∈ η) {j : Nat} {u : Value} (hj : cs[j]? = some u) : w.cell? (Addr.add ⟨b, 0, none⟩ j) = some u := by
  rw [Addr.add_lit, Nat.zero_add]
  exact hw.cell hm j hj
theorem bools_one (xs : List Bool) : ∀ u ∈ xs.map Value.bool, u.oneCell' = true := fun u hu => by
  obtain ⟨q, _, rfl⟩ := List.mem_map.1 hu
  rfl
def fewB (r : List RecT) (G : List Int) (b : Nat → Bool) (k : Nat) : List Bool := (List.range r.length).map fun i => decide (idAt r i ∈ G) && !(decide (i < k) && b i)
theorem fewB_len (r : List RecT) (G : List Int) (b : Nat → Bool) (k : Nat) : (fewB r G b k).length = r.length := by simp [fewB]
theorem fewB_at {r : List RecT} {G : List Int} {b : Nat → Bool} {k i : Nat} : (fewB r G b k)[i]? = if i < r.length then some (decide (idAt r i ∈ G) && !(decide (i < k) && b i)) else none := by
  unfold fewB
  rw [List.getElem?_map]
  by_cases h : i < r.length
  · rw [List.getElem?_range h, if_pos h]; rfl
  · rw [if_neg h]; simp; omega
theorem fewB_zero (r : List RecT) (G : List Int) (b : Nat → Bool) : fewB r G b 0 = inB r G := by
  apply List.ext_getElem?
  intro i
  rw [fewB_at, inB_at]
  simp
theorem fewB_stay {r : List RecT} {G : List Int} {b : Nat → Bool} {k : Nat} (h : (decide (idAt r k ∈ G) && b k) = false) : fewB r G b (k + 1) = fewB r G b k := by
  apply List.ext_getElem?
  intro i
  rw [fewB_at, fewB_at]
  by_cases hi : i < r.length
  · rw [if_pos hi, if_pos hi]
    by_cases e : i = k
    · subst e
      cases h1 : decide (idAt r i ∈ G) <;> rw [h1] at h <;> simp at h ⊢
      simp [h]
    · have : decide (i < k + 1) = decide (i < k) := by rw [decide_eq_decide]; omega
      rw [this]
  · rw [if_neg hi, if_neg hi]
theorem fewB_set {r : List RecT} {G : List Int} {b : Nat → Bool} {k : Nat} (h : b k = true) : ((fewB r G b k).map Value.bool).set ((k : Int).toNat * szN 0) (.bool false) = (fewB r G b (k + 1)).map Value.bool := by
  rw [show (k : Int).toNat * szN 0 = k by simp [szN], ← List.map_set]
  congr 1
  apply List.ext_getElem?
  intro i
  rw [List.getElem?_set, fewB_at, fewB_at, fewB_len]
  by_cases hi : i < r.length
  · rw [if_pos hi, if_pos hi]
    by_cases e : k = i
    · subst e; rw [if_pos rfl, if_pos hi]; simp [h]
    · have : decide (i < k + 1) = decide (i < k) := by rw [decide_eq_decide]; omega
      rw [if_neg e, this]
  · rw [if_neg hi, if_neg hi]
    by_cases e : k = i
    · subst e; rw [if_pos rfl, if_neg hi]
    · rw [if_neg e]
theorem fewB_full {r : List RecT} (hs : SortedIds r) (G : List Int) (b : Nat → Bool) : fewB r G b r.length = inB r (diffF G (selP r (fun i => decide (idAt r i ∈ G) && b i) r.length)) := diff_selP hs G b
theorem restL_bytes {r : List RecT} {C : List Int} {d : Int} {l : List LetT} (h : BytesL l) : ∀ k, BytesL (restL r C d l k)
  | 0 => h
  | k + 1 => by
    rw [restL]
    split
    · intro x hx
      rcases List.mem_append.1 hx with hx | hx
      · exact restL_bytes h k x hx
      · rw [List.mem_singleton.1 hx]; exact ⟨by show (0 : Int) ≤ 2; decide, by show (2 : Int) ≤ 255; decide⟩
    · exact restL_bytes h k
theorem check_len {r : List RecT} {l : List LetT} (h : checkF r l = 0) : l.length ≤ 20 := by
  rcases lettersF_len l _ _ (check_split h).2 with rfl | h1
  · simp
  · omega
end Go.Proofs.YtcmepdamemnbkaaDoor
namespace Go.Proofs.YtcmepdamemnbkaaDoor
open Go.RowKit Go.Proofs.YtcmepdamemnbkaaDoorW.PrintWords
set_option linter.unusedVariables false
set_option linter.unusedSimpArgs false
set_option maxRecDepth 8192 in
set_option maxHeartbeats 64000000 in
theorem trustCauses_law (A B : Option Addr) (c c' : Nat) (r : List RecT) (l : List LetT) (n wh o : Int) (w : World) (hr : Kd.C recK w A r.length r) (hl : Kd.C letK w B l.length l) (hk : Bytes r) (hkl : BytesL l) (hn : 0 ≤ n ∧ n ≤ 4294967295) (hwh : 0 ≤ wh ∧ wh ≤ 255) (ho16 : 0 ≤ o ∧ o ≤ 65535) (hglob : GlobOK w) :
    Calls Tryd.prog 9 #[.slice A r.length c, .slice B l.length c', .int .u32 n, .int .u8 wh, .int .u16 o] w fun e w' => e = .returned (.bool true) ∧ Below w.heap.size w w' := by
  have hrn := hr.2.1
  obtain ⟨on, rfl⟩ : ∃ on : Nat, o = (on : Int) := ⟨o.toNat, by omega⟩
  have hon : on ≤ 65535 := by omega
  refine x_calls (X := XNone) Tryd.func9 rfl rfl rfl ?_
  with_reducible repeat refine xc_seq ?_
  with_reducible refine xc_region ?_
  refine xo_asg rfl rfl rfl ?_
  with_reducible refine xo_nil ?_
  with_reducible repeat (first | refine xq_then ?_ | refine xq_blockN ?_ | refine xq_scopeN ?_)
  with_reducible repeat refine xc_seq ?_
  with_reducible refine xc_region ?_
  refine xo_callB (fs := []) (cs := []) rfl rfl rfl alive_enters rfl (fun w1 hw1 => alive_calls w1 (hglob.below hw1.kx.below)) ?_
  refine xo_asg rfl rfl rfl ?_
  with_reducible refine xo_nil ?_
  with_reducible repeat (first | refine xq_then ?_ | refine xq_blockN ?_ | refine xq_scopeN ?_)
  with_reducible refine xc_seq ?_
  refine xc_cut (γ := Bool) (fun g => g = false → Small r ∧ l.length ≤ 30 ∧ checkF r l = 0 ∧ r.length ≠ 0) (fun g => [(0, .slice A r.length c), (1, .slice B l.length c'), (2, .int .u32 n), (3, .int .u8 wh), (4, .int .u16 (on : Int)), (11, .bool true), (48, .bool g)]) (fun _ => []) ?_ (fun g hg => ?_)
  · with_reducible repeat refine xc_seq ?_
    with_reducible refine xc_region ?_
    refine xo_mv rfl rfl rfl ?_
    refine xo_mv rfl rfl rfl ?_
    refine xo_call (fs := []) (cs := []) rfl rfl rfl ready_enters rfl (fun w1 hw1 => (ready_calls A B c c' r l w1 (Kd.C_below hr hw1.kx.below) (Kd.C_below hl hw1.kx.below) hk hkl).mono ?_)
    rintro e w2 ⟨b, rfl, hb, hrd⟩
    refine ⟨_, _, rfl, hw1.below hb, ?_⟩
    clear hb hw1
    cases b
    · refine xo_notOp rfl rfl rfl ?_
      refine xo_mv rfl rfl rfl ?_
      first
        | refine xo_not rfl rfl ?_
        | (refine xo_mv rfl rfl rfl ?_)
      first
        | refine xo_not rfl rfl ?_
        | (refine xo_len T_ rfl rfl rfl rfl ?_)
      first
        | refine xo_not rfl rfl ?_
        | (refine xo_eql rfl rfl rfl rfl ?_)
      first | refine xo_pickT rfl rfl rfl rfl ?_ | refine xo_pickF rfl rfl rfl rfl ?_
      refine xo_mv rfl rfl rfl ?_
      first
        | refine xo_not rfl rfl ?_
        | (refine xo_mv rfl rfl rfl ?_)
      first
        | refine xo_not rfl rfl ?_
        | (refine xo_notOp rfl rfl rfl ?_)
      first | refine xo_pickT rfl rfl rfl rfl ?_ | refine xo_pickF rfl rfl rfl rfl ?_
      with_reducible refine xo_nil ?_
      with_reducible repeat (first | refine xq_then ?_ | refine xq_blockN ?_ | refine xq_scopeN ?_)
      exact xq_meet _ _ _ true (fun h => by cases h) ⟨rfl, rfl, rfl, rfl, rfl, rfl, rfl, trivial⟩ (List.nil_sublist _)
    obtain ⟨hsm, hl30, hck⟩ := hrd rfl
    cases h0 : decide ((r.length : Int) = 0)
    rotate_left
    · refine xo_notOp rfl rfl rfl ?_
      refine xo_mv rfl rfl rfl ?_
      first
        | refine xo_not rfl rfl ?_
        | (refine xo_mv rfl rfl rfl ?_)
      first
        | refine xo_not rfl rfl ?_
        | (refine xo_len T_ rfl rfl rfl rfl ?_)
      first
        | refine xo_not rfl rfl ?_
        | (refine xo_eql rfl rfl rfl rfl ?_)
      refine xo_as (i := 43) rfl (congrArg Value.bool h0) ?_
      first | refine xo_pickT rfl rfl rfl rfl ?_ | refine xo_pickF rfl rfl rfl rfl ?_
      refine xo_mv rfl rfl rfl ?_
      first
        | refine xo_not rfl rfl ?_
        | (refine xo_mv rfl rfl rfl ?_)
      first
        | refine xo_not rfl rfl ?_
        | (refine xo_notOp rfl rfl rfl ?_)
      first | refine xo_pickT rfl rfl rfl rfl ?_ | refine xo_pickF rfl rfl rfl rfl ?_
      with_reducible refine xo_nil ?_
      with_reducible repeat (first | refine xq_then ?_ | refine xq_blockN ?_ | refine xq_scopeN ?_)
      exact xq_meet _ _ _ true (fun h => by cases h) ⟨rfl, rfl, rfl, rfl, rfl, rfl, rfl, trivial⟩ (List.nil_sublist _)
    · refine xo_notOp rfl rfl rfl ?_
      refine xo_mv rfl rfl rfl ?_
      first
        | refine xo_not rfl rfl ?_
        | (refine xo_mv rfl rfl rfl ?_)
      first
        | refine xo_not rfl rfl ?_
        | (refine xo_len T_ rfl rfl rfl rfl ?_)
      first
        | refine xo_not rfl rfl ?_
        | (refine xo_eql rfl rfl rfl rfl ?_)
      refine xo_as (i := 43) rfl (congrArg Value.bool h0) ?_
      first | refine xo_pickT rfl rfl rfl rfl ?_ | refine xo_pickF rfl rfl rfl rfl ?_
      refine xo_mv rfl rfl rfl ?_
      first
        | refine xo_not rfl rfl ?_
        | (refine xo_mv rfl rfl rfl ?_)
      first
        | refine xo_not rfl rfl ?_
        | (refine xo_notOp rfl rfl rfl ?_)
      first | refine xo_pickT rfl rfl rfl rfl ?_ | refine xo_pickF rfl rfl rfl rfl ?_
      with_reducible refine xo_nil ?_
      with_reducible repeat (first | refine xq_then ?_ | refine xq_blockN ?_ | refine xq_scopeN ?_)
      have h0' := of_decide_eq_false h0
      exact xq_meet _ _ _ false (fun _ => ⟨hsm, hl30, hck, by omega⟩) ⟨rfl, rfl, rfl, rfl, rfl, rfl, rfl, trivial⟩ (List.nil_sublist _)
  with_reducible repeat refine xc_seq ?_
  refine xc_cond rfl (fun hg1 => ?_) (fun hg1 => ?_)
  · with_reducible repeat refine xc_seq ?_
    with_reducible refine xc_region ?_
    refine xo_mv rfl rfl rfl ?_
    refine xo_asg rfl rfl rfl ?_
    with_reducible refine xo_nil ?_
    with_reducible repeat (first | refine xq_then ?_ | refine xq_blockN ?_ | refine xq_scopeN ?_)
    with_reducible repeat refine xc_seq ?_
    with_reducible refine xc_ret ?_
    with_reducible repeat (first | refine xq_thenR ?_ | refine xq_blockR ?_ | refine xq_scopeR ?_)
    exact xq_ret1 rfl rfl fun w' hw => ⟨rfl, hw.kx.below⟩
  obtain ⟨hsm, hl30, hck, hr0⟩ := hg hg1
  clear hg
  have hok := check_zero hck
  have hs := sorted_of hok
  have hlen := recorded_len hok
  have hlm := lettersF_mem l _ _ (by omega) (check_split hck).2
  have hm1 := Int.emod_nonneg wh (b := (r.length : Int)) (by omega)
  have hm2 := Int.emod_lt_of_pos wh (b := (r.length : Int)) (by omega)
  with_reducible refine xc_skip ?_
  with_reducible repeat (first | refine xq_then ?_ | refine xq_blockN ?_ | refine xq_scopeN ?_)
  with_reducible repeat refine xc_seq ?_
  apply xc_drawE (fun g => [(2, .int .i64 ((g.getD 0 gv0).b : Int)), (8, .int .i64 ((g.getD 0 gv0).b : Int))]) (fun (η0 : Hp) g => match g with | [] => (η0) | a0 :: _ => (η0)) (fun g => match g with | a0 :: _ => a0.b ≤ 100000 | _ => True) [0, 0, 1, 0, 0, 0, 0, 0, 1, 1] [2] [[0, 1]] (by trivial)
  apply SameLen.cons
  apply SameLen.cons
  apply SameLen.cons (c := undef)
  apply SameLen.cons
  apply SameLen.cons
  apply SameLen.cons
  apply SameLen.cons
  apply SameLen.cons
  apply SameLen.cons (c := undef)
  apply SameLen.cons
  exact SameLen.nil
  rotate_left 8
  case hH0 => rfl
  case hmix => exact T_.mixed
  case hbind => rfl
  case hdeps => rfl
  case hdist => rfl
  case hfresh => rfl
  case hE => rfl
  case hEn => decide
  · refine DrawE.pure 0 0 rfl (.inr (by decide)) (fun L g hg hd => Nat.zero_le _) (fun g hlo hhi hF τ => ?_) ?_
    · rcases g with _ | ⟨a0, _ | ⟨a1, g⟩⟩
      all_goals first
        | (exfalso; simp only [List.length_cons, List.length_nil] at hlo hhi; omega)
        | (refine ⟨_, rfl, ?_⟩
           refine xo_mv rfl rfl rfl ?_
           exact xo_fin rfl)
    refine DrawE.pure 0 0 rfl (.inr (by decide)) (fun L g hg hd => Nat.zero_le _) (fun g hlo hhi hF τ => ?_) ?_
    · rcases g with _ | ⟨a0, _ | ⟨a1, g⟩⟩
      all_goals first
        | (exfalso; simp only [List.length_cons, List.length_nil] at hlo hhi; omega)
        | (refine ⟨_, rfl, ?_⟩
           refine xo_mv rfl rfl rfl ?_
           exact xo_fin rfl)
    refine DrawE.eff 0 rfl (by decide) rfl (fun j hj => hj) (fun j g a hj => ?_) (fun L g hg hd => Nat.zero_le _) (fun g hgl hF τ => ?_) ?_
    · rcases j with _ | _ | _ | _ | _ | _ | _ | _ | _ | _ | j
      all_goals first | rfl | (rcases g with _ | ⟨a0, _ | ⟨a1, g⟩⟩ <;> first | rfl | exact absurd hj (by decide) | exact absurd hj (by simp [List.getD]))
    · obtain rfl : g = [] := by
        rcases g with _ | ⟨a0, g⟩ <;> first | rfl | (exfalso; simp only [List.length_cons, List.length_nil] at hgl; omega)
      refine xo_call (fs := []) (cs := []) rfl rfl rfl day_enters rfl (fun w1 hw1 => (day_calls B c' l n w1 (Kd.C_below hl hw1.kx.below) hn (fun x hx => (hlm x hx).2.1)).mono ?_)
      rintro e w2 ⟨d, rfl, hb, hd0, hd1⟩
      obtain ⟨dn, rfl⟩ : ∃ dn : Nat, d = (dn : Int) := ⟨d.toNat, by omega⟩
      refine ⟨_, _, rfl, hw1.below hb, ?_⟩
      exact xo_finE ⟨dn, 0, none⟩ rfl (show dn ≤ 100000 by omega)
    refine DrawE.pure 0 1 rfl (.inl rfl) (fun L g hg hd => Nat.zero_le _) (fun g hlo hhi hF τ => ?_) ?_
    · rcases g with _ | ⟨a0, _ | ⟨a1, g⟩⟩
      all_goals first
        | (exfalso; simp only [List.length_cons, List.length_nil] at hlo hhi; omega)
        | (refine ⟨_, rfl, ?_⟩
           refine xo_mv rfl rfl rfl ?_
           exact xo_fin rfl)
    refine DrawE.pure 0 1 rfl (.inl rfl) (fun L g hg hd => Nat.zero_le _) (fun g hlo hhi hF τ => ?_) ?_
    · rcases g with _ | ⟨a0, _ | ⟨a1, g⟩⟩
      all_goals first
        | (exfalso; simp only [List.length_cons, List.length_nil] at hlo hhi; omega)
        | (refine ⟨_, rfl, ?_⟩
           refine xo_conv T_ rfl rfl rfl rfl (IntWalk.i64_in _ ⟨by omega, by omega⟩) rfl ?_
           exact xo_fin rfl)
    refine DrawE.pure 0 1 rfl (.inl rfl) (fun L g hg hd => Nat.zero_le _) (fun g hlo hhi hF τ => ?_) ?_
    · rcases g with _ | ⟨a0, _ | ⟨a1, g⟩⟩
      all_goals first
        | (exfalso; simp only [List.length_cons, List.length_nil] at hlo hhi; omega)
        | (refine ⟨_, rfl, ?_⟩
           refine xo_mv rfl rfl rfl ?_
           exact xo_fin rfl)
    refine DrawE.pure 0 1 rfl (.inl rfl) (fun L g hg hd => Nat.zero_le _) (fun g hlo hhi hF τ => ?_) ?_
    · rcases g with _ | ⟨a0, _ | ⟨a1, g⟩⟩
      all_goals first
        | (exfalso; simp only [List.length_cons, List.length_nil] at hlo hhi; omega)
        | (refine ⟨_, rfl, ?_⟩
           refine xo_len T_ rfl rfl rfl rfl ?_
           exact xo_fin rfl)
    refine DrawE.pure 0 1 rfl (.inl rfl) (fun L g hg hd => Nat.zero_le _) (fun g hlo hhi hF τ => ?_) ?_
    · rcases g with _ | ⟨a0, _ | ⟨a1, g⟩⟩
      all_goals first
        | (exfalso; simp only [List.length_cons, List.length_nil] at hlo hhi; omega)
        | (refine ⟨_, rfl, ?_⟩
           refine xo_rem rfl rfl rfl (by omega) (by omega) rfl ?_
           exact xo_fin rfl)
    refine DrawE.pure 1 1 rfl (.inl rfl) (fun L g hg hd => hg.2.1 2 (hd 2 (by decide))) (fun g hlo hhi hF τ => ?_) ?_
    · rcases g with _ | ⟨a0, _ | ⟨a1, g⟩⟩
      all_goals first
        | (exfalso; simp only [List.length_cons, List.length_nil] at hlo hhi; omega)
        | (refine ⟨_, rfl, ?_⟩
           refine xo_asg rfl rfl rfl ?_
           exact xo_fin rfl)
    refine DrawE.pure 1 1 rfl (.inl rfl) (fun L g hg hd => hg.2.1 8 (hd 8 (by decide))) (fun g hlo hhi hF τ => ?_) ?_
    · rcases g with _ | ⟨a0, _ | ⟨a1, g⟩⟩
      all_goals first
        | (exfalso; simp only [List.length_cons, List.length_nil] at hlo hhi; omega)
        | (refine ⟨_, rfl, ?_⟩
           refine xo_asg rfl rfl rfl ?_
           exact xo_fin rfl)
    exact DrawE.nil
  intro g hgl hF
  obtain ⟨a0, rfl⟩ : ∃ a0, g = [a0] := by
    rcases g with _ | ⟨a0, _ | ⟨a1, g⟩⟩ <;> first | exact ⟨_, rfl⟩ | (exfalso; simp only [List.length_cons, List.length_nil] at hgl; omega)
  with_reducible repeat (first | refine xq_then ?_ | refine xq_blockN ?_ | refine xq_scopeN ?_)
  with_reducible repeat refine xc_seq ?_
  refine xc_slots [(0, .slice A r.length c), (1, .slice B l.length c'), (4, .int .u16 (on : Int)), (11, .bool true), (12, .int .i64 (a0.b : Int)), (13, .int .i64 (wh % (r.length : Int)))] ⟨rfl, rfl, rfl, rfl, rfl, rfl, trivial⟩ ?_
  have hd : 0 ≤ (a0.b : Int) ∧ (a0.b : Int) ≤ 100000 := ⟨by omega, by have : a0.b ≤ 100000 := hF; omega⟩
  generalize (a0.b : Int) = d at *
  generalize wh % (r.length : Int) = ki at *
  obtain ⟨kk, rfl⟩ : ∃ kk : Nat, ki = (kk : Int) := ⟨ki.toNat, by omega⟩
  have hkk : kk < r.length := by omega
  obtain ⟨ad, A2, c2, rfl, r1, _, _⟩ := rec_at hr kk hkk
  have hid : knownF r (r.getD kk zRec).f0 = true := knownF_iff.2 ⟨kk, hkk, rfl⟩
  have hidk : idAt r kk = (r.getD kk zRec).f0 := rfl
  generalize r.getD kk zRec = q at *
  obtain ⟨id, q1, q2⟩ := q
  simp only at hid r1 hidk
  have ho := open_ok (r := r) (l := l) hck hd
  have ho2 := open_ok1 (r := r) (l := l) hck hd hid
  have hH0 : holdsR r l d = holdsF r (goneF r l d) := by rw [holdsR, if_pos ho]
  have hL0 := holdsF_len r (goneF r l d)
  have hsub := holdsF_sub hs (goneF r l d)
  have hGsub := goneF_sub hs l d
  have hS0 := (idsL_lt hs).sublist hsub
  have hL1 := causesR_len r l d id
  have hyes : id ∈ holdsF r (goneF r l d) → refCausesC r l d id = 8 ∧ refCausesR r l d id = [] := fun h => ⟨by rw [refCausesC, if_pos ho2, if_pos h], by rw [refCausesR, if_neg (fun q => q.2 h)]⟩
  have hno : id ∉ holdsF r (goneF r l d) → refCausesC r l d id = 0 ∧ (refCausesR r l d id).Sublist (goneF r l d) ∧ id ∈ holdsF r (diffF (goneF r l d) (refCausesR r l d id)) ∧ ∀ S, S.Sublist (goneF r l d) → S.length < (refCausesR r l d id).length → id ∉ holdsF r (diffF (goneF r l d) S) := fun h => by
    refine ⟨by rw [refCausesC, if_pos ho2, if_neg h], ?_⟩
    rw [causesR_eq ho2 h]
    exact causes_law hok hid
  have hS1 : (refCausesR r l d id).Pairwise fun a b => a < b := by
    by_cases h : id ∈ holdsF r (goneF r l d)
    · rw [(hyes h).2]; exact List.Pairwise.nil
    · exact (idsL_lt hs).sublist ((hno h).2.1.trans hGsub)
  have hneq : (decide (id ∈ holdsF r (goneF r l d)) == decide (refCausesC r l d id = 0)) = false := by
    by_cases h : id ∈ holdsF r (goneF r l d)
    · rw [(hyes h).1]; simp [h]
    · rw [(hno h).1]; simp [h]
  have h00 : (!decide ((0 : Int) = 0)) = false := rfl
  have hrest := rest_holds hok (refCausesR r l d id) d l
  generalize hC1 : refCausesR r l d id = C at *
  generalize hC2 : refCausesC r l d id = rc at *
  generalize holdsF r (goneF r l d) = H at *
  generalize hG : goneF r l d = G at *
  with_reducible repeat refine xc_seq ?_
  with_reducible refine xc_region ?_
  refine xo_mv rfl rfl rfl ?_
  refine xo_mv rfl rfl rfl ?_
  refine xo_ia T_ rfl rfl rfl rfl rfl ⟨by omega, by omega⟩ rfl ?_
  refine xo_faR T_ rfl rfl rfl rfl rfl ?_
  refine xo_loadR0 T_ rfl rfl rfl (by first | assumption | exact RO.fld (by assumption) rfl) rfl ?_
  refine xo_asg rfl rfl rfl ?_
  with_reducible refine xo_nil ?_
  with_reducible repeat (first | refine xq_then ?_ | refine xq_blockN ?_ | refine xq_scopeN ?_)
  with_reducible repeat refine xc_seq ?_
  with_reducible refine xc_region ?_
  refine xo_mv rfl rfl rfl ?_
  refine xo_mv rfl rfl rfl ?_
  refine xo_mv rfl rfl rfl ?_
  refine xo_call (fs := []) (cs := []) rfl rfl rfl trustHolds_enters rfl (fun w1 hw1 => (trustHolds_calls (some ad) B c c' r l d w1 (Kd.C_below hr hw1.kx.below) (Kd.C_below hl hw1.kx.below) hk hkl).mono ?_)
  rw [hH0, ho]
  rintro e w2 ⟨r5, rfl, hrow, hb⟩
  have h05 := hrow.1
  refine ⟨_, _, rfl, hw1.row hb hrow, ?_⟩
  clear hrow hb hw1
  refine xo_mv rfl rfl rfl ?_
  refine xo_ext rfl rfl rfl rfl ?_
  refine xo_ext rfl rfl rfl rfl ?_
  refine xo_asg rfl rfl rfl ?_
  refine xo_asg rfl rfl rfl ?_
  with_reducible refine xo_nil ?_
  with_reducible repeat (first | refine xq_then ?_ | refine xq_blockN ?_ | refine xq_scopeN ?_)
  with_reducible repeat refine xc_seq ?_
  with_reducible refine xc_region ?_
  refine xo_mv rfl rfl rfl ?_
  refine xo_mv rfl rfl rfl ?_
  refine xo_mv rfl rfl rfl ?_
  refine xo_mv rfl rfl rfl ?_
  refine xo_call (fs := []) (cs := []) rfl rfl rfl trustCauses_enters rfl (fun w1 hw1 => ?_)
  have h2 := trustCauses_calls (some ad) B c c' r l d id w1 (Kd.C_below hr hw1.kx.below) (Kd.C_below hl hw1.kx.below) hk hkl
  rw [hC1, hC2] at h2
  refine h2.mono ?_
  clear h2
  rintro e w2 ⟨r6, rfl, hrow, hb⟩
  have h06 := hrow.1
  refine ⟨_, _, rfl, hw1.row hb hrow, ?_⟩
  clear hrow hb hw1
  refine xo_mv rfl rfl rfl ?_
  refine xo_ext rfl rfl rfl rfl ?_
  refine xo_ext rfl rfl rfl rfl ?_
  refine xo_asg rfl rfl rfl ?_
  refine xo_asg rfl rfl rfl ?_
  with_reducible refine xo_nil ?_
  with_reducible repeat (first | refine xq_then ?_ | refine xq_blockN ?_ | refine xq_scopeN ?_)
  with_reducible repeat refine xc_seq ?_
  with_reducible refine xc_region ?_
  refine xo_mv rfl rfl rfl ?_
  refine xo_call (fs := []) (cs := []) rfl rfl rfl set_enters rfl (fun w1 hw1 => (setR_calls hw1 (by omega) (hw1.rowAt h05 (fun p hp => by subst hp; exact (by repeat (first | exact List.Mem.head _ | exact List.mem_append_left _ (List.Mem.head _) | apply List.mem_append_right | apply List.Mem.tail)))) hS0).mono ?_)
  rintro e w2 ⟨MH, rfl, hz⟩
  refine ⟨_, _, rfl, hw1.join hz (by simp), ?_⟩
  clear hz hw1
  refine xo_mv rfl rfl rfl ?_
  refine xo_ext rfl rfl rfl rfl ?_
  refine xo_ext rfl rfl rfl rfl ?_
  refine xo_asg rfl rfl rfl ?_
  refine xo_asg rfl rfl rfl ?_
  with_reducible refine xo_nil ?_
  with_reducible repeat (first | refine xq_then ?_ | refine xq_blockN ?_ | refine xq_scopeN ?_)
  with_reducible repeat refine xc_seq ?_
  with_reducible refine xc_region ?_
  refine xo_mv rfl rfl rfl ?_
  refine xo_call (fs := []) (cs := []) rfl rfl rfl set_enters rfl (fun w1 hw1 => (setR_calls hw1 (by omega) (hw1.rowAt h06 (fun p hp => by subst hp; exact (by repeat (first | exact List.Mem.head _ | exact List.mem_append_left _ (List.Mem.head _) | apply List.mem_append_right | apply List.Mem.tail)))) hS1).mono ?_)
  rintro e w2 ⟨MC, rfl, hz⟩
  refine ⟨_, _, rfl, hw1.join hz (by simp), ?_⟩
  clear hz hw1
  refine xo_mv rfl rfl rfl ?_
  refine xo_ext rfl rfl rfl rfl ?_
  refine xo_ext rfl rfl rfl rfl ?_
  refine xo_asg rfl rfl rfl ?_
  refine xo_asg rfl rfl rfl ?_
  with_reducible refine xo_nil ?_
  with_reducible repeat (first | refine xq_then ?_ | refine xq_blockN ?_ | refine xq_scopeN ?_)
  with_reducible repeat refine xc_seq ?_
  with_reducible refine xc_region ?_
  refine xo_mv rfl rfl rfl ?_
  refine xo_neq rfl rfl rfl rfl ?_
  refine xo_as (i := 89) rfl (congrArg Value.bool h00) ?_
  refine xo_mv rfl rfl rfl ?_
  first
    | refine xo_not rfl rfl ?_
    | (refine xo_mv rfl rfl rfl ?_)
  first
    | refine xo_not rfl rfl ?_
    | (refine xo_notOp rfl rfl rfl ?_)
  first | refine xo_pickT rfl rfl rfl rfl ?_ | refine xo_pickF rfl rfl rfl rfl ?_
  refine xo_mv rfl rfl rfl ?_
  first
    | refine xo_not rfl rfl ?_
    | (refine xo_mv rfl rfl rfl ?_)
  first
    | refine xo_not rfl rfl ?_
    | (refine xo_notOp rfl rfl rfl ?_)
  first | refine xo_pickT rfl rfl rfl rfl ?_ | refine xo_pickF rfl rfl rfl rfl ?_
  refine xo_mv rfl rfl rfl ?_
  first
    | refine xo_not rfl rfl ?_
    | (refine xo_mv rfl rfl rfl ?_)
  first
    | refine xo_not rfl rfl ?_
    | (refine xo_mv rfl rfl rfl ?_)
  first
    | refine xo_not rfl rfl ?_
    | (refine xo_sget T_ rfl rfl rfl rfl rfl rfl (by repeat (first | exact List.Mem.head _ | exact List.mem_append_left _ (List.Mem.head _) | apply List.mem_append_right | apply List.Mem.tail)) rfl ?_)
  first
    | refine xo_not rfl rfl ?_
    | (refine xo_mv rfl rfl rfl ?_)
  first
    | refine xo_not rfl rfl ?_
    | (refine xo_eql rfl rfl rfl rfl ?_)
  first
    | refine xo_not rfl rfl ?_
    | (refine xo_eqlB Tryd.underlying4 rfl rfl rfl rfl ?_)
  refine xo_as (i := 104) rfl (congrArg Value.bool hneq) ?_
  first | refine xo_pickT rfl rfl rfl rfl ?_ | refine xo_pickF rfl rfl rfl rfl ?_
  with_reducible refine xo_nil ?_
  with_reducible repeat (first | refine xq_then ?_ | refine xq_blockN ?_ | refine xq_scopeN ?_)
  with_reducible repeat refine xc_seq ?_
  refine xc_condF rfl ?_
  with_reducible refine xc_skip ?_
  with_reducible repeat (first | refine xq_then ?_ | refine xq_blockN ?_ | refine xq_scopeN ?_)
  with_reducible repeat refine xc_seq ?_
  with_reducible refine xc_region ?_
  refine xo_mv rfl rfl rfl ?_
  refine xo_neq rfl rfl rfl rfl ?_
  with_reducible refine xo_nil ?_
  with_reducible repeat (first | refine xq_then ?_ | refine xq_blockN ?_ | refine xq_scopeN ?_)
  by_cases hin : id ∈ H
  · obtain ⟨rfl, rfl⟩ := hyes hin
    with_reducible repeat refine xc_seq ?_
    refine xc_condT rfl ?_
    with_reducible repeat refine xc_seq ?_
    with_reducible refine xc_region ?_
    refine xo_mv rfl rfl rfl ?_
    refine xo_mv rfl rfl rfl ?_
    first
      | refine xo_not rfl rfl ?_
      | (refine xo_mv rfl rfl rfl ?_)
    first
      | refine xo_not rfl rfl ?_
      | (refine xo_eql rfl rfl rfl rfl ?_)
    first | refine xo_pickT rfl rfl rfl rfl ?_ | refine xo_pickF rfl rfl rfl rfl ?_
    refine xo_mv rfl rfl rfl ?_
    first
      | refine xo_not rfl rfl ?_
      | (refine xo_mv rfl rfl rfl ?_)
    first
      | refine xo_not rfl rfl ?_
      | (refine xo_lenR T_ rfl rfl (fun _ => rfl) rfl rfl ?_)
    first
      | refine xo_not rfl rfl ?_
      | (refine xo_eql rfl rfl rfl rfl ?_)
    first | refine xo_pickT rfl rfl rfl rfl ?_ | refine xo_pickF rfl rfl rfl rfl ?_
    refine xo_asg rfl rfl rfl ?_
    with_reducible refine xo_nil ?_
    with_reducible repeat (first | refine xq_then ?_ | refine xq_blockN ?_ | refine xq_scopeN ?_)
    with_reducible repeat refine xc_seq ?_
    with_reducible refine xc_ret ?_
    with_reducible repeat (first | refine xq_thenR ?_ | refine xq_blockR ?_ | refine xq_scopeR ?_)
    exact xq_ret1 rfl rfl fun w' hw => ⟨rfl, hw.kx.below⟩
  obtain ⟨rfl, hCG, hinC, hmin⟩ := hno hin
  clear hno hyes
  with_reducible repeat refine xc_seq ?_
  refine xc_condF rfl ?_
  with_reducible refine xc_skip ?_
  with_reducible repeat (first | refine xq_then ?_ | refine xq_blockN ?_ | refine xq_scopeN ?_)
  with_reducible repeat refine xc_seq ?_
  with_reducible refine xc_region ?_
  refine xo_mv rfl rfl rfl ?_
  refine xo_mv rfl rfl rfl ?_
  refine xo_mv rfl rfl rfl ?_
  refine xo_call (fs := []) (cs := []) rfl rfl rfl gone_enters rfl (fun w1 hw1 => (gone_calls (some ad) B c c' r l d w1 (Kd.C_below hr hw1.kx.below) (Kd.C_below hl hw1.kx.below) (by omega) hkl).mono ?_)
  rintro e w2 ⟨bg, og, rfl, hb, hge, h1, h2⟩
  rw [goneBs_in, hG] at h2
  refine ⟨_, _, rfl, hw1.more hb hge h1 h2, ?_⟩
  clear hb hge h1 h2 hw1
  refine xo_asg rfl rfl rfl ?_
  with_reducible refine xo_nil ?_
  with_reducible repeat (first | refine xq_then ?_ | refine xq_blockN ?_ | refine xq_scopeN ?_)
  with_reducible repeat refine xc_seq ?_
  with_reducible refine xc_region ?_
  refine xo_bs0 T_ 4 rfl rfl rfl rfl (fun b0 => ?_)
  refine xo_mv rfl rfl rfl ?_
  refine xo_cpy letV (fun _ => rfl) let_one l TR_ rfl rfl rfl rfl rfl rfl rfl rfl (fun e => C_none hl e) (fun p e w1 hw1 j u hj => by subst e; exact hw1.kx.cell (let_news hl j u hj) (fun h => h)) (by omega) rfl rfl (fun b3 cap3 => ?_)
  refine xo_asg rfl rfl rfl ?_
  with_reducible refine xo_nil ?_
  with_reducible repeat (first | refine xq_then ?_ | refine xq_blockN ?_ | refine xq_scopeN ?_)
  with_reducible repeat refine xc_seq ?_
  with_reducible refine xc_region ?_
  refine xo_bs0 T_ 1 rfl rfl rfl rfl (fun b4 => ?_)
  refine xo_mv rfl rfl rfl ?_
  refine xo_appE (news := (inB r G).map Value.bool) TR_ rfl rfl rfl rfl rfl rfl rfl rfl (by rw [List.length_map, inB_len, Nat.mul_one]) (fun e => by cases e) (fun p e w1 hw1 j u hj => by cases e; exact own_add hw1 (by repeat (first | exact List.Mem.head _ | apply List.Mem.tail | apply List.mem_append_right)) hj) (bools_one _) (by omega) rfl rfl (fun b5 cap5 => ?_)
  refine xo_asg rfl rfl rfl ?_
  with_reducible refine xo_nil ?_
  with_reducible repeat (first | refine xq_then ?_ | refine xq_blockN ?_ | refine xq_scopeN ?_)
  with_reducible repeat refine xc_seq ?_
  with_reducible refine xc_region ?_
  refine xo_asg rfl rfl rfl ?_
  with_reducible refine xo_nil ?_
  with_reducible repeat (first | refine xq_then ?_ | refine xq_blockN ?_ | refine xq_scopeN ?_)
  with_reducible repeat refine xc_seq ?_
  with_reducible refine xc_region ?_
  refine xo_mv rfl rfl rfl ?_
  refine xo_len T_ rfl rfl rfl rfl ?_
  refine xo_mv rfl rfl rfl ?_
  with_reducible refine xo_nil ?_
  with_reducible repeat (first | refine xq_then ?_ | refine xq_blockN ?_ | refine xq_scopeN ?_)
  with_reducible repeat refine xc_seq ?_
  with_reducible refine xc_block ?_
  refine xc_loop (γ := Nat × Nat × Nat × Nat) (fun q => q.1 ≤ r.length ∧ checkF r (restL r C d l q.1) = 0 ∧ q.2.1 = (selP r (fun i => decide (idAt r i ∈ G) && bitB on i) q.1).length) (fun q => [(0, .slice (some ad) r.length c), (4, .int .u16 (on : Int)), (11, .bool true), (12, .int .i64 d), (13, .int .i64 (kk : Int)), (14, .int .i64 id), (17, valR r6 C.length), (21, .map (some MC)), (23, .slice (some ⟨bg, 0, none⟩) r.length r.length), (24, .slice (some ⟨q.2.2.1, 0, none⟩) (restL r C d l q.1).length q.2.2.2), (25, .slice (some ⟨b5, 0, none⟩) r.length cap5), (26, .int .i64 (q.2.1 : Int)), (128, .slice (some ad) r.length c), (129, .int .i64 (r.length : Int)), (130, .int .i64 (q.1 : Int))])
    (fun q => [(b5, true, orow 4 1 r.length cap5 ((fewB r G (bitB on) q.1).map Value.bool)), (q.2.2.1, true, orow 52 4 (restL r C d l q.1).length q.2.2.2 ((restL r C d l q.1).map letV).flatten), (bg, true, cel ((inB r G).map .bool) 4), (MC, true, hmap (setV C))]) (fun q => r.length - q.1) (0, 0, b3, cap3) ⟨Nat.zero_le _, hck, rfl⟩ ⟨rfl, rfl, rfl, rfl, rfl, rfl, rfl, rfl, rfl, rfl, rfl, rfl, rfl, rfl, rfl, trivial⟩ (by rw [fewB_zero]; exact (by repeat (first | exact List.Sublist.refl _ | apply List.Sublist.cons_cons | apply List.Sublist.cons | exact List.nil_sublist _))) ?_
  rintro ⟨k, cnt, bA, capA⟩ ⟨hk1, hckL, hcnt⟩
  simp only at hk1 hckL hcnt ⊢
  with_reducible repeat refine xc_seq ?_
  with_reducible refine xc_region ?_
  refine xo_lss rfl rfl rfl rfl ?_
  with_reducible refine xo_nil ?_
  with_reducible repeat (first | refine xq_then ?_ | refine xq_blockN ?_ | refine xq_scopeN ?_)
  with_reducible repeat refine xc_seq ?_
  refine xc_cond rfl (fun h => ?_) (fun h => ?_)
  · have hlt : k < r.length := by have := of_decide_eq_true h; omega
    have hk15 : k ≤ 15 := by omega
    obtain ⟨ad0, A3, c3, e0, r2, hc3, hw3⟩ := rec_at hr k hlt
    cases e0
    have hkid : idAt r k = (r.getD k zRec).f0 := rfl
    have hxid : knownF r (r.getD k zRec).f0 = true := knownF_iff.2 ⟨k, hlt, rfl⟩
    have hsucc := congrArg List.length (selP_succ r (fun i => decide (idAt r i ∈ G) && bitB on i) k)
    have hrsucc : restL r C d l (k + 1) = if decide (idAt r k ∈ C) then restL r C d l k ++ [⟨nextN (restL r C d l k), d, idAt r k, 2⟩] else restL r C d l k := rfl
    have hL20 := check_len hckL
    have hLm := lettersF_mem _ _ _ (by omega) (check_split hckL).2
    have hckm := fun hn => check_more (k := 2) hckL (d := d) (id := (r.getD k zRec).f0) hn hd hxid ⟨by decide, by decide⟩
    clear r1
    generalize r.getD k zRec = x at *
    rw [hkid] at hrsucc
    have hcl : cnt ≤ r.length := by
      rw [hcnt]
      unfold selP
      rw [List.length_map]
      exact Nat.le_trans (List.length_filter_le _ _) (by rw [List.length_range]; omega)
    have hbz := bit_one on k
    with_reducible refine xc_skip ?_
    with_reducible repeat (first | refine xq_then ?_ | refine xq_blockN ?_ | refine xq_scopeN ?_)
    with_reducible repeat refine xc_seq ?_
    with_reducible refine xc_block ?_
    with_reducible repeat refine xc_seq ?_
    with_reducible refine xc_region ?_
    refine xo_mv rfl rfl rfl ?_
    refine xo_ia T_ rfl rfl rfl rfl rfl ⟨by omega, by omega⟩ rfl ?_
    refine xo_loadRN T_ rfl rfl rfl (by assumption) rfl rfl ?_
    refine xo_alloc T_ rfl rfl rfl rfl (fun b28 => ?_)
    refine xo_asg rfl rfl rfl ?_
    refine xo_store T_ rfl rfl rfl rfl (by repeat (first | exact List.Mem.head _ | apply List.Mem.tail | apply List.mem_append_right)) rfl rfl rfl rfl (by repeat (first | exact Upd.head | apply Upd.tail | apply Upd.app)) rfl ?_
    with_reducible refine xo_nil ?_
    with_reducible repeat (first | refine xq_then ?_ | refine xq_blockN ?_ | refine xq_scopeN ?_)
    cases hxC : decide (x.f0 ∈ C)
    · rw [hxC, if_neg (by decide)] at hrsucc
      with_reducible repeat refine xc_seq ?_
      with_reducible refine xc_region ?_
      refine xo_mv rfl rfl rfl ?_
      refine xo_fa T_ rfl rfl rfl rfl rfl ?_
      refine xo_load0 T_ rfl rfl rfl (by repeat (first | exact List.Mem.head _ | apply List.Mem.tail | apply List.mem_append_right)) rfl rfl ?_
      refine xo_sget T_ rfl rfl rfl rfl rfl rfl (by repeat (first | exact List.Mem.head _ | apply List.Mem.tail | apply List.mem_append_right)) rfl ?_
      refine xo_as (i := 138) rfl (congrArg Value.bool hxC) ?_
      with_reducible refine xo_nil ?_
      with_reducible repeat (first | refine xq_then ?_ | refine xq_blockN ?_ | refine xq_scopeN ?_)
      with_reducible repeat refine xc_seq ?_
      refine xc_condF rfl ?_
      with_reducible refine xc_skip ?_
      with_reducible repeat (first | refine xq_then ?_ | refine xq_blockN ?_ | refine xq_scopeN ?_)
      cases hb : bitB on k
      · rw [hb] at hbz
        have hstay : fewB r G (bitB on) (k + 1) = fewB r G (bitB on) k := fewB_stay (by rw [hb, Bool.and_false])
        cases hgx : decide (x.f0 ∈ G)
        all_goals
          simp only [hkid, hb, hgx] at hsucc
          with_reducible repeat refine xc_seq ?_
          with_reducible refine xc_region ?_
          refine xo_mv rfl rfl rfl ?_
          refine xo_mv rfl rfl rfl ?_
          refine xo_ia T_ rfl rfl rfl rfl rfl ⟨by omega, by omega⟩ rfl ?_
          refine xo_loadI T_ rfl rfl rfl (by repeat (first | exact List.Mem.head _ | apply List.Mem.tail | apply List.mem_append_right)) (in_load hlt) rfl ?_
          rw [hkid, hgx]
          refine xo_mv rfl rfl rfl ?_
          first
            | refine xo_not rfl rfl ?_
            | (refine xo_mv rfl rfl rfl ?_)
          first
            | refine xo_not rfl rfl ?_
            | (refine xo_mv rfl rfl rfl ?_)
          first
            | refine xo_not rfl rfl ?_
            | (refine xo_shrU rfl rfl rfl hk15 rfl ?_)
          first
            | refine xo_not rfl rfl ?_
            | (refine xo_andU rfl rfl rfl (shr_lt hon) rfl ?_)
          first
            | refine xo_not rfl rfl ?_
            | (refine xo_eql rfl rfl rfl rfl ?_)
          first | refine xo_as (i := 169) rfl (congrArg Value.bool hbz) ?_ | skip
          first | refine xo_pickT rfl rfl rfl rfl ?_ | refine xo_pickF rfl rfl rfl rfl ?_
          with_reducible refine xo_nil ?_
          with_reducible repeat (first | refine xq_then ?_ | refine xq_blockN ?_ | refine xq_scopeN ?_)
          with_reducible repeat refine xc_seq ?_
          refine xc_condF rfl ?_
          with_reducible refine xc_skip ?_
          with_reducible repeat (first | refine xq_then ?_ | refine xq_blockN ?_ | refine xq_scopeN ?_)
          with_reducible repeat refine xc_seq ?_
          with_reducible refine xc_region ?_
          refine xo_add rfl rfl rfl (by omega) rfl ?_
          refine xo_mv rfl rfl rfl ?_
          with_reducible refine xo_nil ?_
          with_reducible repeat (first | refine xq_then ?_ | refine xq_blockN ?_ | refine xq_scopeN ?_)
          exact xq_again _ _ _ _ _ (k + 1, cnt, bA, capA) ⟨by simp only; omega, by rw [hrsucc]; exact hckL, by simp at hsucc ⊢; omega⟩ (by simp only; omega) (by rw [hrsucc]; exact ⟨rfl, rfl, rfl, rfl, rfl, rfl, rfl, rfl, rfl, rfl, rfl, rfl, rfl, rfl, rfl, trivial⟩) (by rw [hrsucc, hstay]; exact (by repeat (first | exact List.Sublist.refl _ | apply List.Sublist.cons_cons | apply List.Sublist.cons | exact List.nil_sublist _)))
      cases hgx : decide (x.f0 ∈ G)
      · rw [hb] at hbz
        have hstay : fewB r G (bitB on) (k + 1) = fewB r G (bitB on) k := fewB_stay (by rw [hkid, hgx, Bool.false_and])
        simp only [hkid, hb, hgx] at hsucc
        with_reducible repeat refine xc_seq ?_
        with_reducible refine xc_region ?_
        refine xo_mv rfl rfl rfl ?_
        refine xo_mv rfl rfl rfl ?_
        refine xo_ia T_ rfl rfl rfl rfl rfl ⟨by omega, by omega⟩ rfl ?_
        refine xo_loadI T_ rfl rfl rfl (by repeat (first | exact List.Mem.head _ | apply List.Mem.tail | apply List.mem_append_right)) (in_load hlt) rfl ?_
        rw [hkid, hgx]
        refine xo_mv rfl rfl rfl ?_
        first
          | refine xo_not rfl rfl ?_
          | (refine xo_mv rfl rfl rfl ?_)
        first
          | refine xo_not rfl rfl ?_
          | (refine xo_mv rfl rfl rfl ?_)
        first
          | refine xo_not rfl rfl ?_
          | (fail "NO RULE: Op.binOp -7")
        first
          | refine xo_not rfl rfl ?_
          | (fail "NO RULE: Op.binOp -8")
        first
          | refine xo_not rfl rfl ?_
          | (refine xo_eql rfl rfl rfl rfl ?_)
        first | refine xo_pickT rfl rfl rfl rfl ?_ | refine xo_pickF rfl rfl rfl rfl ?_
        with_reducible refine xo_nil ?_
        with_reducible repeat (first | refine xq_then ?_ | refine xq_blockN ?_ | refine xq_scopeN ?_)
        with_reducible repeat refine xc_seq ?_
        refine xc_condF rfl ?_
        with_reducible refine xc_skip ?_
        with_reducible repeat (first | refine xq_then ?_ | refine xq_blockN ?_ | refine xq_scopeN ?_)
        with_reducible repeat refine xc_seq ?_
        with_reducible refine xc_region ?_
        refine xo_add rfl rfl rfl (by omega) rfl ?_
        refine xo_mv rfl rfl rfl ?_
        with_reducible refine xo_nil ?_
        with_reducible repeat (first | refine xq_then ?_ | refine xq_blockN ?_ | refine xq_scopeN ?_)
        exact xq_again _ _ _ _ _ (k + 1, cnt, bA, capA) ⟨by simp only; omega, by rw [hrsucc]; exact hckL, by simp at hsucc ⊢; omega⟩ (by simp only; omega) (by rw [hrsucc]; exact ⟨rfl, rfl, rfl, rfl, rfl, rfl, rfl, rfl, rfl, rfl, rfl, rfl, rfl, rfl, rfl, trivial⟩) (by rw [hrsucc, hstay]; exact (by repeat (first | exact List.Sublist.refl _ | apply List.Sublist.cons_cons | apply List.Sublist.cons | exact List.nil_sublist _)))
      · rw [hb] at hbz
        have hset := fewB_set (r := r) (G := G) hb
        simp only [hkid, hb, hgx] at hsucc
        with_reducible repeat refine xc_seq ?_
        with_reducible refine xc_region ?_
        refine xo_mv rfl rfl rfl ?_
        refine xo_mv rfl rfl rfl ?_
        refine xo_ia T_ rfl rfl rfl rfl rfl ⟨by omega, by omega⟩ rfl ?_
        refine xo_loadI T_ rfl rfl rfl (by repeat (first | exact List.Mem.head _ | apply List.Mem.tail | apply List.mem_append_right)) (in_load hlt) rfl ?_
        rw [hkid, hgx]
        refine xo_mv rfl rfl rfl ?_
        first
          | refine xo_not rfl rfl ?_
          | (refine xo_mv rfl rfl rfl ?_)
        first
          | refine xo_not rfl rfl ?_
          | (refine xo_mv rfl rfl rfl ?_)
        first
          | refine xo_not rfl rfl ?_
          | (refine xo_shrU rfl rfl rfl hk15 rfl ?_)
        first
          | refine xo_not rfl rfl ?_
          | (refine xo_andU rfl rfl rfl (shr_lt hon) rfl ?_)
        first
          | refine xo_not rfl rfl ?_
          | (refine xo_eql rfl rfl rfl rfl ?_)
        first | refine xo_as (i := 169) rfl (congrArg Value.bool hbz) ?_ | skip
        first | refine xo_pickT rfl rfl rfl rfl ?_ | refine xo_pickF rfl rfl rfl rfl ?_
        with_reducible refine xo_nil ?_
        with_reducible repeat (first | refine xq_then ?_ | refine xq_blockN ?_ | refine xq_scopeN ?_)
        with_reducible repeat refine xc_seq ?_
        refine xc_condT rfl ?_
        with_reducible repeat refine xc_seq ?_
        with_reducible refine xc_region ?_
        refine xo_mv rfl rfl rfl ?_
        refine xo_mv rfl rfl rfl ?_
        refine xo_ia T_ rfl rfl rfl rfl rfl ⟨by omega, by omega⟩ rfl ?_
        refine xo_storeO T_ (k := (k : Int).toNat * szN 0) (η' := [(b28, true, cel (recV x A3 c3) 50), (b5, true, orow 4 1 r.length cap5 ((fewB r G (bitB on) (k + 1)).map Value.bool)), (bA, true, orow 52 4 (restL r C d l k).length capA ((restL r C d l k).map letV).flatten), (bg, true, cel ((inB r G).map .bool) 4), (MC, true, hmap (setV C))]) rfl rfl rfl rfl (by repeat (first | exact List.Mem.head _ | apply List.Mem.tail | apply List.mem_append_right)) rfl rfl (by simpa [szN] using hlt) (by rw [hset]; exact (by repeat (first | exact Upd.head | apply Upd.tail | apply Upd.app))) rfl ?_
        with_reducible refine xo_nil ?_
        with_reducible repeat (first | refine xq_then ?_ | refine xq_blockN ?_ | refine xq_scopeN ?_)
        with_reducible repeat refine xc_seq ?_
        with_reducible refine xc_region ?_
        refine xo_mv rfl rfl rfl ?_
        refine xo_add rfl rfl rfl (by omega) rfl ?_
        refine xo_asg rfl rfl rfl ?_
        with_reducible refine xo_nil ?_
        with_reducible repeat (first | refine xq_then ?_ | refine xq_blockN ?_ | refine xq_scopeN ?_)
        with_reducible repeat refine xc_seq ?_
        with_reducible refine xc_region ?_
        refine xo_add rfl rfl rfl (by omega) rfl ?_
        refine xo_mv rfl rfl rfl ?_
        with_reducible refine xo_nil ?_
        with_reducible repeat (first | refine xq_then ?_ | refine xq_blockN ?_ | refine xq_scopeN ?_)
        exact xq_again _ _ _ _ _ (k + 1, cnt + 1, bA, capA) ⟨by simp only; omega, by rw [hrsucc]; exact hckL, by simp at hsucc ⊢; omega⟩ (by simp only; omega) (by rw [hrsucc]; exact ⟨rfl, rfl, rfl, rfl, rfl, rfl, rfl, rfl, rfl, rfl, rfl, rfl, rfl, rfl, rfl, trivial⟩) (by rw [hrsucc]; exact (by repeat (first | exact List.Sublist.refl _ | apply List.Sublist.cons_cons | apply List.Sublist.cons | exact List.nil_sublist _)))
    · rw [hxC, if_pos rfl] at hrsucc
      have hxG : decide (x.f0 ∈ G) = true := decide_eq_true (hCG.subset (of_decide_eq_true hxC))
      with_reducible repeat refine xc_seq ?_
      with_reducible refine xc_region ?_
      refine xo_mv rfl rfl rfl ?_
      refine xo_fa T_ rfl rfl rfl rfl rfl ?_
      refine xo_load0 T_ rfl rfl rfl (by repeat (first | exact List.Mem.head _ | apply List.Mem.tail | apply List.mem_append_right)) rfl rfl ?_
      refine xo_sget T_ rfl rfl rfl rfl rfl rfl (by repeat (first | exact List.Mem.head _ | apply List.Mem.tail | apply List.mem_append_right)) rfl ?_
      refine xo_as (i := 138) rfl (congrArg Value.bool hxC) ?_
      with_reducible refine xo_nil ?_
      with_reducible repeat (first | refine xq_then ?_ | refine xq_blockN ?_ | refine xq_scopeN ?_)
      with_reducible repeat refine xc_seq ?_
      refine xc_condT rfl ?_
      with_reducible repeat refine xc_seq ?_
      with_reducible refine xc_region ?_
      refine xo_mv rfl rfl rfl ?_
      refine xo_mv rfl rfl rfl ?_
      refine xo_ia T_ rfl rfl rfl rfl rfl ⟨by omega, by omega⟩ rfl ?_
      refine xo_loadI T_ (v := .bool true) rfl rfl rfl (by repeat (first | exact List.Mem.head _ | apply List.Mem.tail | apply List.mem_append_right)) (by rw [in_load hlt, hkid, hxG]) rfl ?_
      refine xo_notOp rfl rfl rfl ?_
      with_reducible refine xo_nil ?_
      with_reducible repeat (first | refine xq_then ?_ | refine xq_blockN ?_ | refine xq_scopeN ?_)
      with_reducible repeat refine xc_seq ?_
      refine xc_condF rfl ?_
      with_reducible refine xc_skip ?_
      with_reducible repeat (first | refine xq_then ?_ | refine xq_blockN ?_ | refine xq_scopeN ?_)
      with_reducible repeat refine xc_seq ?_
      with_reducible refine xc_region ?_
      refine xo_mv rfl rfl rfl ?_
      refine xo_call (fs := []) (cs := []) rfl rfl rfl next_enters rfl (fun w1 hw1 => (next_calls (some ⟨bA, 0, none⟩) capA (restL r C d l k) w1 (let_read hw1 (by repeat (first | exact List.Mem.head _ | exact List.mem_append_left _ (List.Mem.head _) | apply List.mem_append_right | apply List.Mem.tail)) (by omega)) (fun x hx => (hLm x hx).1)).mono ?_)
      rintro e w2 ⟨rfl, hb⟩
      refine ⟨_, _, rfl, hw1.below hb, ?_⟩
      clear hb hw1
      refine xo_mv rfl rfl rfl ?_
      refine xo_ext rfl rfl rfl rfl ?_
      refine xo_ext rfl rfl rfl rfl ?_
      refine xo_asg rfl rfl rfl ?_
      refine xo_asg rfl rfl rfl ?_
      with_reducible refine xo_nil ?_
      with_reducible repeat (first | refine xq_then ?_ | refine xq_blockN ?_ | refine xq_scopeN ?_)
      cases hnB : nextB (restL r C d l k)
      · with_reducible repeat refine xc_seq ?_
        with_reducible refine xc_region ?_
        refine xo_mv rfl rfl rfl ?_
        refine xo_notOp rfl rfl rfl ?_
        with_reducible refine xo_nil ?_
        with_reducible repeat (first | refine xq_then ?_ | refine xq_blockN ?_ | refine xq_scopeN ?_)
        with_reducible repeat refine xc_seq ?_
        refine xc_condT rfl ?_
        with_reducible repeat refine xc_seq ?_
        with_reducible refine xc_region ?_
        refine xo_mv rfl rfl rfl ?_
        refine xo_asg rfl rfl rfl ?_
        with_reducible refine xo_nil ?_
        with_reducible repeat (first | refine xq_then ?_ | refine xq_blockN ?_ | refine xq_scopeN ?_)
        with_reducible repeat refine xc_seq ?_
        with_reducible refine xc_ret ?_
        with_reducible repeat (first | refine xq_thenR ?_ | refine xq_blockR ?_ | refine xq_scopeR ?_)
        exact xq_ret1 rfl rfl fun w' hw => ⟨rfl, hw.kx.below⟩
      have hck2 := hckm hnB
      with_reducible repeat refine xc_seq ?_
      with_reducible refine xc_region ?_
      refine xo_mv rfl rfl rfl ?_
      refine xo_notOp rfl rfl rfl ?_
      with_reducible refine xo_nil ?_
      with_reducible repeat (first | refine xq_then ?_ | refine xq_blockN ?_ | refine xq_scopeN ?_)
      with_reducible repeat refine xc_seq ?_
      refine xc_condF rfl ?_
      with_reducible refine xc_skip ?_
      with_reducible repeat (first | refine xq_then ?_ | refine xq_blockN ?_ | refine xq_scopeN ?_)
      with_reducible repeat refine xc_seq ?_
      with_reducible refine xc_region ?_
      refine xo_mv rfl rfl rfl ?_
      refine xo_mv rfl rfl rfl ?_
      refine xo_mv rfl rfl rfl ?_
      refine xo_fa T_ rfl rfl rfl rfl rfl ?_
      refine xo_load0 T_ rfl rfl rfl (by repeat (first | exact List.Mem.head _ | apply List.Mem.tail | apply List.mem_append_right)) rfl rfl ?_
      refine xo_build TB_ rfl rfl rfl rfl rfl ?_
      refine xo_subH (η' := [(b5, true, orow 4 1 r.length cap5 ((fewB r G (bitB on) k).map Value.bool)), (bA, true, orow 52 4 (restL r C d l k).length capA ((restL r C d l k).map letV).flatten), (bg, true, cel ((inB r G).map .bool) 4), (MC, true, hmap (setV C))]) (by repeat (first | exact List.Sublist.refl _ | apply List.Sublist.cons_cons | apply List.Sublist.cons | exact List.nil_sublist _)) ?_
      refine xo_permH (List.Perm.swap _ _ _) ?_
      refine xo_bsG T_ 4 rfl rfl rfl rfl rfl rfl rfl rfl rfl rfl (fun b158 => ?_)
      refine xo_one letV (fun _ => rfl) (restL r C d l k) ⟨nextN (restL r C d l k), d, x.f0, 2⟩ rfl TR_ rfl rfl rfl rfl rfl rfl rfl rfl (by omega) rfl rfl (fun bB capB => ?_)
      rw [← hrsucc]
      refine xo_asg rfl rfl rfl ?_
      with_reducible refine xo_nil ?_
      with_reducible repeat (first | refine xq_then ?_ | refine xq_blockN ?_ | refine xq_scopeN ?_)
      rw [← hrsucc] at hck2
      cases hb : bitB on k
      · rw [hb] at hbz
        have hstay : fewB r G (bitB on) (k + 1) = fewB r G (bitB on) k := fewB_stay (by rw [hb, Bool.and_false])
        cases hgx : decide (x.f0 ∈ G)
        all_goals
          simp only [hkid, hb, hgx] at hsucc
          with_reducible repeat refine xc_seq ?_
          with_reducible refine xc_region ?_
          refine xo_mv rfl rfl rfl ?_
          refine xo_mv rfl rfl rfl ?_
          refine xo_ia T_ rfl rfl rfl rfl rfl ⟨by omega, by omega⟩ rfl ?_
          refine xo_loadI T_ rfl rfl rfl (by repeat (first | exact List.Mem.head _ | apply List.Mem.tail | apply List.mem_append_right)) (in_load hlt) rfl ?_
          rw [hkid, hgx]
          refine xo_mv rfl rfl rfl ?_
          first
            | refine xo_not rfl rfl ?_
            | (refine xo_mv rfl rfl rfl ?_)
          first
            | refine xo_not rfl rfl ?_
            | (refine xo_mv rfl rfl rfl ?_)
          first
            | refine xo_not rfl rfl ?_
            | (refine xo_shrU rfl rfl rfl hk15 rfl ?_)
          first
            | refine xo_not rfl rfl ?_
            | (refine xo_andU rfl rfl rfl (shr_lt hon) rfl ?_)
          first
            | refine xo_not rfl rfl ?_
            | (refine xo_eql rfl rfl rfl rfl ?_)
          first | refine xo_as (i := 169) rfl (congrArg Value.bool hbz) ?_ | skip
          first | refine xo_pickT rfl rfl rfl rfl ?_ | refine xo_pickF rfl rfl rfl rfl ?_
          with_reducible refine xo_nil ?_
          with_reducible repeat (first | refine xq_then ?_ | refine xq_blockN ?_ | refine xq_scopeN ?_)
          with_reducible repeat refine xc_seq ?_
          refine xc_condF rfl ?_
          with_reducible refine xc_skip ?_
          with_reducible repeat (first | refine xq_then ?_ | refine xq_blockN ?_ | refine xq_scopeN ?_)
          with_reducible repeat refine xc_seq ?_
          with_reducible refine xc_region ?_
          refine xo_add rfl rfl rfl (by omega) rfl ?_
          refine xo_mv rfl rfl rfl ?_
          with_reducible refine xo_nil ?_
          with_reducible repeat (first | refine xq_then ?_ | refine xq_blockN ?_ | refine xq_scopeN ?_)
          exact xq_perm (List.Perm.swap _ _ _) (xq_again _ _ _ _ _ (k + 1, cnt, bB, capB) ⟨by simp only; omega, hck2, by simp at hsucc ⊢; omega⟩ (by simp only; omega) ⟨rfl, rfl, rfl, rfl, rfl, rfl, rfl, rfl, rfl, rfl, rfl, rfl, rfl, rfl, rfl, trivial⟩ (by rw [hstay]; exact (by repeat (first | exact List.Sublist.refl _ | apply List.Sublist.cons_cons | apply List.Sublist.cons | exact List.nil_sublist _))))
      cases hgx : decide (x.f0 ∈ G)
      · rw [hb] at hbz
        have hstay : fewB r G (bitB on) (k + 1) = fewB r G (bitB on) k := fewB_stay (by rw [hkid, hgx, Bool.false_and])
        simp only [hkid, hb, hgx] at hsucc
        with_reducible repeat refine xc_seq ?_
        with_reducible refine xc_region ?_
        refine xo_mv rfl rfl rfl ?_
        refine xo_mv rfl rfl rfl ?_
        refine xo_ia T_ rfl rfl rfl rfl rfl ⟨by omega, by omega⟩ rfl ?_
        refine xo_loadI T_ rfl rfl rfl (by repeat (first | exact List.Mem.head _ | apply List.Mem.tail | apply List.mem_append_right)) (in_load hlt) rfl ?_
        rw [hkid, hgx]
        refine xo_mv rfl rfl rfl ?_
        first
          | refine xo_not rfl rfl ?_
          | (refine xo_mv rfl rfl rfl ?_)
        first
          | refine xo_not rfl rfl ?_
          | (refine xo_mv rfl rfl rfl ?_)
        first
          | refine xo_not rfl rfl ?_
          | (fail "NO RULE: Op.binOp -7")
        first
          | refine xo_not rfl rfl ?_
          | (fail "NO RULE: Op.binOp -8")
        first
          | refine xo_not rfl rfl ?_
          | (refine xo_eql rfl rfl rfl rfl ?_)
        first | refine xo_pickT rfl rfl rfl rfl ?_ | refine xo_pickF rfl rfl rfl rfl ?_
        with_reducible refine xo_nil ?_
        with_reducible repeat (first | refine xq_then ?_ | refine xq_blockN ?_ | refine xq_scopeN ?_)
        with_reducible repeat refine xc_seq ?_
        refine xc_condF rfl ?_
        with_reducible refine xc_skip ?_
        with_reducible repeat (first | refine xq_then ?_ | refine xq_blockN ?_ | refine xq_scopeN ?_)
        with_reducible repeat refine xc_seq ?_
        with_reducible refine xc_region ?_
        refine xo_add rfl rfl rfl (by omega) rfl ?_
        refine xo_mv rfl rfl rfl ?_
        with_reducible refine xo_nil ?_
        with_reducible repeat (first | refine xq_then ?_ | refine xq_blockN ?_ | refine xq_scopeN ?_)
        exact xq_perm (List.Perm.swap _ _ _) (xq_again _ _ _ _ _ (k + 1, cnt, bB, capB) ⟨by simp only; omega, hck2, by simp at hsucc ⊢; omega⟩ (by simp only; omega) ⟨rfl, rfl, rfl, rfl, rfl, rfl, rfl, rfl, rfl, rfl, rfl, rfl, rfl, rfl, rfl, trivial⟩ (by rw [hstay]; exact (by repeat (first | exact List.Sublist.refl _ | apply List.Sublist.cons_cons | apply List.Sublist.cons | exact List.nil_sublist _))))
      · rw [hb] at hbz
        have hset := fewB_set (r := r) (G := G) hb
        simp only [hkid, hb, hgx] at hsucc
        with_reducible repeat refine xc_seq ?_
        with_reducible refine xc_region ?_
        refine xo_mv rfl rfl rfl ?_
        refine xo_mv rfl rfl rfl ?_
        refine xo_ia T_ rfl rfl rfl rfl rfl ⟨by omega, by omega⟩ rfl ?_
        refine xo_loadI T_ rfl rfl rfl (by repeat (first | exact List.Mem.head _ | apply List.Mem.tail | apply List.mem_append_right)) (in_load hlt) rfl ?_
        rw [hkid, hgx]
        refine xo_mv rfl rfl rfl ?_
        first
          | refine xo_not rfl rfl ?_
          | (refine xo_mv rfl rfl rfl ?_)
        first
          | refine xo_not rfl rfl ?_
          | (refine xo_mv rfl rfl rfl ?_)
        first
          | refine xo_not rfl rfl ?_
          | (refine xo_shrU rfl rfl rfl hk15 rfl ?_)
        first
          | refine xo_not rfl rfl ?_
          | (refine xo_andU rfl rfl rfl (shr_lt hon) rfl ?_)
        first
          | refine xo_not rfl rfl ?_
          | (refine xo_eql rfl rfl rfl rfl ?_)
        first | refine xo_as (i := 169) rfl (congrArg Value.bool hbz) ?_ | skip
        first | refine xo_pickT rfl rfl rfl rfl ?_ | refine xo_pickF rfl rfl rfl rfl ?_
        with_reducible refine xo_nil ?_
        with_reducible repeat (first | refine xq_then ?_ | refine xq_blockN ?_ | refine xq_scopeN ?_)
        with_reducible repeat refine xc_seq ?_
        refine xc_condT rfl ?_
        with_reducible repeat refine xc_seq ?_
        with_reducible refine xc_region ?_
        refine xo_mv rfl rfl rfl ?_
        refine xo_mv rfl rfl rfl ?_
        refine xo_ia T_ rfl rfl rfl rfl rfl ⟨by omega, by omega⟩ rfl ?_
        refine xo_storeO T_ (k := (k : Int).toNat * szN 0) (η' := [(bB, true, orow 52 4 (restL r C d l (k + 1)).length capB ((restL r C d l (k + 1)).map letV).flatten), (b5, true, orow 4 1 r.length cap5 ((fewB r G (bitB on) (k + 1)).map Value.bool)), (bg, true, cel ((inB r G).map .bool) 4), (MC, true, hmap (setV C))]) rfl rfl rfl rfl (by repeat (first | exact List.Mem.head _ | apply List.Mem.tail | apply List.mem_append_right)) rfl rfl (by simpa [szN] using hlt) (by rw [hset]; exact (by repeat (first | exact Upd.head | apply Upd.tail | apply Upd.app))) rfl ?_
        with_reducible refine xo_nil ?_
        with_reducible repeat (first | refine xq_then ?_ | refine xq_blockN ?_ | refine xq_scopeN ?_)
        with_reducible repeat refine xc_seq ?_
        with_reducible refine xc_region ?_
        refine xo_mv rfl rfl rfl ?_
        refine xo_add rfl rfl rfl (by omega) rfl ?_
        refine xo_asg rfl rfl rfl ?_
        with_reducible refine xo_nil ?_
        with_reducible repeat (first | refine xq_then ?_ | refine xq_blockN ?_ | refine xq_scopeN ?_)
        with_reducible repeat refine xc_seq ?_
        with_reducible refine xc_region ?_
        refine xo_add rfl rfl rfl (by omega) rfl ?_
        refine xo_mv rfl rfl rfl ?_
        with_reducible refine xo_nil ?_
        with_reducible repeat (first | refine xq_then ?_ | refine xq_blockN ?_ | refine xq_scopeN ?_)
        exact xq_perm (List.Perm.swap _ _ _) (xq_again _ _ _ _ _ (k + 1, cnt + 1, bB, capB) ⟨by simp only; omega, hck2, by simp at hsucc ⊢; omega⟩ (by simp only; omega) ⟨rfl, rfl, rfl, rfl, rfl, rfl, rfl, rfl, rfl, rfl, rfl, rfl, rfl, rfl, rfl, trivial⟩ (by repeat (first | exact List.Sublist.refl _ | apply List.Sublist.cons_cons | apply List.Sublist.cons | exact List.nil_sublist _)))
  have hge : ¬ k < r.length := by have := of_decide_eq_false h; omega
  obtain rfl : k = r.length := by omega
  have hSG : (selP r (fun i => decide (idAt r i ∈ G) && bitB on i) r.length).Sublist G := selP_in hs hGsub fun i _ hp => by
    simp only [Bool.and_eq_true, decide_eq_true_eq] at hp
    exact hp.1
  have eS := fewB_full hs G (bitB on)
  have hlow := hmin _ hSG
  rw [← hcnt] at hlow
  generalize selP r (fun i => decide (idAt r i ∈ G) && bitB on i) r.length = S at *
  have hL20 := check_len hckL
  have hklL : BytesL (restL r C d l r.length) := restL_bytes hkl _
  have ho3 := open_ok hckL hd
  have hH3 : holdsR r (restL r C d l r.length) d = holdsF r (diffF G C) := by rw [holdsR, if_pos ho3, hrest]
  have hL3 := holdsF_len r (diffF G C)
  have hS3 := (idsL_lt hs).sublist (holdsF_sub hs (diffF G C))
  generalize restL r C d l r.length = LL at *
  generalize holdsF r (diffF G C) = H3 at *
  with_reducible refine xc_exit ?_
  with_reducible repeat (first | refine xq_blockX ?_ | refine xq_thenE ?_ | refine xq_blockE rfl ?_ | refine xq_scopeE ?_)
  with_reducible repeat (first | refine xq_then ?_ | refine xq_blockN ?_ | refine xq_scopeN ?_)
  rw [eS]
  with_reducible repeat refine xc_seq ?_
  with_reducible refine xc_region ?_
  refine xo_mv rfl rfl rfl ?_
  refine xo_mv rfl rfl rfl ?_
  refine xo_mv rfl rfl rfl ?_
  refine xo_call (fs := []) (cs := []) rfl rfl rfl trustHolds_enters rfl (fun w1 hw1 => ?_)
  have h2 := trustHolds_calls (some ad) (some ⟨bA, 0, none⟩) c capA r LL d w1 (Kd.C_below hr hw1.kx.below) (let_read hw1 (by repeat (first | exact List.Mem.head _ | exact List.mem_append_left _ (List.Mem.head _) | apply List.mem_append_right | apply List.Mem.tail)) (by omega)) hk hklL
  rw [hH3, ho3] at h2
  refine h2.mono ?_
  clear h2
  rintro e w2 ⟨r7, rfl, hrow, hb⟩
  have h07 := hrow.1
  refine ⟨_, _, rfl, hw1.row hb hrow, ?_⟩
  clear hrow hb hw1
  refine xo_mv rfl rfl rfl ?_
  refine xo_ext rfl rfl rfl rfl ?_
  refine xo_ext rfl rfl rfl rfl ?_
  refine xo_asg rfl rfl rfl ?_
  refine xo_asg rfl rfl rfl ?_
  with_reducible refine xo_nil ?_
  with_reducible repeat (first | refine xq_then ?_ | refine xq_blockN ?_ | refine xq_scopeN ?_)
  with_reducible repeat refine xc_seq ?_
  with_reducible refine xc_region ?_
  refine xo_mv rfl rfl rfl ?_
  refine xo_call (fs := []) (cs := []) rfl rfl rfl set_enters rfl (fun w1 hw1 => (setR_calls hw1 (by omega) (hw1.rowAt h07 (fun p hp => by subst hp; exact (by repeat (first | exact List.Mem.head _ | exact List.mem_append_left _ (List.Mem.head _) | apply List.mem_append_right | apply List.Mem.tail)))) hS3).mono ?_)
  rintro e w2 ⟨M3, rfl, hz⟩
  refine ⟨_, _, rfl, hw1.join hz (by simp), ?_⟩
  clear hz hw1
  refine xo_mv rfl rfl rfl ?_
  refine xo_ext rfl rfl rfl rfl ?_
  refine xo_ext rfl rfl rfl rfl ?_
  refine xo_asg rfl rfl rfl ?_
  refine xo_asg rfl rfl rfl ?_
  with_reducible refine xo_nil ?_
  with_reducible repeat (first | refine xq_then ?_ | refine xq_blockN ?_ | refine xq_scopeN ?_)
  with_reducible repeat refine xc_seq ?_
  with_reducible refine xc_region ?_
  refine xo_mv rfl rfl rfl ?_
  refine xo_neq rfl rfl rfl rfl ?_
  refine xo_as (i := 190) rfl (congrArg Value.bool h00) ?_
  refine xo_mv rfl rfl rfl ?_
  first
    | refine xo_not rfl rfl ?_
    | (refine xo_mv rfl rfl rfl ?_)
  first
    | refine xo_not rfl rfl ?_
    | (refine xo_notOp rfl rfl rfl ?_)
  first | refine xo_pickT rfl rfl rfl rfl ?_ | refine xo_pickF rfl rfl rfl rfl ?_
  refine xo_mv rfl rfl rfl ?_
  first
    | refine xo_not rfl rfl ?_
    | (refine xo_mv rfl rfl rfl ?_)
  first
    | refine xo_not rfl rfl ?_
    | (refine xo_mv rfl rfl rfl ?_)
  first
    | refine xo_not rfl rfl ?_
    | (refine xo_sget T_ rfl rfl rfl rfl rfl rfl (by repeat (first | exact List.Mem.head _ | exact List.mem_append_left _ (List.Mem.head _) | apply List.mem_append_right | apply List.Mem.tail)) rfl ?_)
  refine xo_as (i := 198) rfl (congrArg Value.bool (decide_eq_true hinC)) ?_
  first
    | refine xo_not rfl rfl ?_
    | (refine xo_notOp rfl rfl rfl ?_)
  first | refine xo_pickT rfl rfl rfl rfl ?_ | refine xo_pickF rfl rfl rfl rfl ?_
  with_reducible refine xo_nil ?_
  with_reducible repeat (first | refine xq_then ?_ | refine xq_blockN ?_ | refine xq_scopeN ?_)
  with_reducible repeat refine xc_seq ?_
  refine xc_condF rfl ?_
  with_reducible refine xc_skip ?_
  with_reducible repeat (first | refine xq_then ?_ | refine xq_blockN ?_ | refine xq_scopeN ?_)
  have hC13 : ∀ {w0 w : World} {X : Nat → Prop} {η : Hp}, WOK w0 X η w → (b5, true, orow 4 1 r.length cap5 ((inB r (diffF G S)).map Value.bool)) ∈ η → Kd.C Kd.bool w (some ⟨b5, 0, none⟩) r.length (inB r (diffF G S)) := fun hw hm => by
    obtain ⟨o, h1, h2⟩ := hw.bl _ hm
    have := C_orowB (xs := inB r (diffF G S)) h1 (by rw [inB_len]; exact h2) (by rw [inB_len]; omega)
    rwa [inB_len] at this
  cases hc : decide ((C.length : Int) ≤ (cnt : Int))
  · have hnot : decide (id ∈ holdsF r (diffF G S)) = false := decide_eq_false (hlow (by have := of_decide_eq_false hc; omega))
    with_reducible repeat refine xc_seq ?_
    with_reducible refine xc_region ?_
    refine xo_mv rfl rfl rfl ?_
    refine xo_mv rfl rfl rfl ?_
    first
      | refine xo_not rfl rfl ?_
      | (refine xo_mv rfl rfl rfl ?_)
    first
      | refine xo_not rfl rfl ?_
      | (refine xo_mv rfl rfl rfl ?_)
    first
      | refine xo_not rfl rfl ?_
      | (refine xo_lenR T_ rfl rfl (fun h => by rw [h06 h]; rfl) rfl rfl ?_)
    first
      | refine xo_not rfl rfl ?_
      | (refine xo_geq rfl rfl rfl rfl ?_)
    refine xo_as (i := 206) rfl (congrArg Value.bool hc) ?_
    first
      | refine xo_not rfl rfl ?_
      | (refine xo_mv rfl rfl rfl ?_)
    first
      | refine xo_not rfl rfl ?_
      | (refine xo_mv rfl rfl rfl ?_)
    first
      | refine xo_not rfl rfl ?_
      | (refine xo_mv rfl rfl rfl ?_)
    first
      | refine xo_not rfl rfl ?_
      | (refine xo_call (fs := []) (cs := []) rfl rfl rfl hold_enters rfl (fun w1 hw1 => (hold_calls (some ad) _ c _ r (diffF G S) w1 (Kd.C_below hr hw1.kx.below) (hC13 hw1 (by repeat (first | exact List.Mem.head _ | exact List.mem_append_left _ (List.Mem.head _) | apply List.mem_append_right | apply List.Mem.tail))) hok).mono ?_)
         rintro e w3 ⟨bO, oO, rfl, hb, hge, h1, h2⟩
         refine ⟨_, _, rfl, hw1.more hb hge h1 h2, ?_⟩
         clear hb hge h1 h2 hw1)
    first
      | refine xo_not rfl rfl ?_
      | (refine xo_mv rfl rfl rfl ?_)
    first
      | refine xo_not rfl rfl ?_
      | (refine xo_ia T_ rfl rfl rfl rfl rfl ⟨by omega, by omega⟩ rfl ?_)
    first
      | refine xo_not rfl rfl ?_
      | (refine xo_loadI T_ rfl rfl rfl (by repeat (first | exact List.Mem.head _ | apply List.Mem.tail | apply List.mem_append_right)) (by rw [in_load hkk, hidk, hnot]) rfl ?_)
    first
      | refine xo_not rfl rfl ?_
      | (refine xo_notOp rfl rfl rfl ?_)
    first
      | refine xo_not rfl rfl ?_
      | (first | refine xo_pickT rfl rfl rfl rfl ?_ | refine xo_pickF rfl rfl rfl rfl ?_)
    first | refine xo_pickT rfl rfl rfl rfl ?_ | refine xo_pickF rfl rfl rfl rfl ?_
    refine xo_asg rfl rfl rfl ?_
    with_reducible refine xo_nil ?_
    with_reducible repeat (first | refine xq_then ?_ | refine xq_blockN ?_ | refine xq_scopeN ?_)
    with_reducible repeat refine xc_seq ?_
    with_reducible refine xc_ret ?_
    with_reducible repeat (first | refine xq_thenR ?_ | refine xq_blockR ?_ | refine xq_scopeR ?_)
    exact xq_ret1 rfl rfl fun w' hw => ⟨rfl, hw.kx.below⟩
  · with_reducible repeat refine xc_seq ?_
    with_reducible refine xc_region ?_
    refine xo_mv rfl rfl rfl ?_
    refine xo_mv rfl rfl rfl ?_
    first
      | refine xo_not rfl rfl ?_
      | (refine xo_mv rfl rfl rfl ?_)
    first
      | refine xo_not rfl rfl ?_
      | (refine xo_mv rfl rfl rfl ?_)
    first
      | refine xo_not rfl rfl ?_
      | (refine xo_lenR T_ rfl rfl (fun h => by rw [h06 h]; rfl) rfl rfl ?_)
    first
      | refine xo_not rfl rfl ?_
      | (refine xo_geq rfl rfl rfl rfl ?_)
    refine xo_as (i := 206) rfl (congrArg Value.bool hc) ?_
    first
      | refine xo_not rfl rfl ?_
      | (refine xo_mv rfl rfl rfl ?_)
    first
      | refine xo_not rfl rfl ?_
      | (refine xo_mv rfl rfl rfl ?_)
    first
      | refine xo_not rfl rfl ?_
      | (refine xo_mv rfl rfl rfl ?_)
    first
      | refine xo_not rfl rfl ?_
      | (fail "NO RULE: Op.call -9")
    first
      | refine xo_not rfl rfl ?_
      | (refine xo_mv rfl rfl rfl ?_)
    first
      | refine xo_not rfl rfl ?_
      | (refine xo_ia T_ rfl rfl rfl rfl rfl ⟨by omega, by omega⟩ rfl ?_)
    first
      | refine xo_not rfl rfl ?_
      | (refine xo_loadR0 T_ rfl rfl rfl (by first | assumption | exact RO.fld (by assumption) rfl) rfl ?_)
    first
      | refine xo_not rfl rfl ?_
      | (refine xo_notOp rfl rfl rfl ?_)
    first
      | refine xo_not rfl rfl ?_
      | (first | refine xo_pickT rfl rfl rfl rfl ?_ | refine xo_pickF rfl rfl rfl rfl ?_)
    first | refine xo_pickT rfl rfl rfl rfl ?_ | refine xo_pickF rfl rfl rfl rfl ?_
    refine xo_asg rfl rfl rfl ?_
    with_reducible refine xo_nil ?_
    with_reducible repeat (first | refine xq_then ?_ | refine xq_blockN ?_ | refine xq_scopeN ?_)
    with_reducible repeat refine xc_seq ?_
    with_reducible refine xc_ret ?_
    with_reducible repeat (first | refine xq_thenR ?_ | refine xq_blockR ?_ | refine xq_scopeR ?_)
    exact xq_ret1 rfl rfl fun w' hw => ⟨rfl, hw.kx.below⟩
end Go.Proofs.YtcmepdamemnbkaaDoor
