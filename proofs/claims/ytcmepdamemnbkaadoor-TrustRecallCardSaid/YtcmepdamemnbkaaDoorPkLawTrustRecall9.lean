/- trust.Rests. / trust.Causes. / ref08.Twin: the walk. / law08.TrustHolds: the walk. / law08.alive: the chapter's examples come out. / law08.alive: the walk. / SX: a drawn region that writes slots which it also reads: the old values may be read by what the writer waits for. No program in sight. / The table trust.adds, as the rows' condition lays it, and the door's own heap, which meets that condition. / law08.TrustTakes: the walk. / law08: two letters more, one that withdraws and one that restores: what holds then (plain). / law08: letters and moves copied, more of them, parts of them; next ahead of what is known. / law08: letters in another order, with other numbers: the same is gone (plain). / ref08.Pieces, Recall answer what trust.Pieces, Recall answer. / law08: sums of moves: balances, any order (plain). / law08: lists that are numbered anew in place, one by one (plain). / ref08.Recall answers what trust.Recall answers; SameMoves. / law08: what is called back, and what a letter more calls back (plain). / law08: ledger; maps that are written to; bounds of sums. / law08: what TrustRecall's walk asks of sums (plain). / law08.TrustPieces: the walk. -/
import Derived.Test.YtcmepdamemnbkaaDoorPkLawTrustRecall8
import Derived.Test.YtcmepdamemnbkaaDoorPkLawTrustRecall7
import Derived.Test.YtcmepdamemnbkaaDoorPkLawTrustRecall5
import Derived.Test.YtcmepdamemnbkaaDoorPkLawTrustRecall3
import Derived.Test.YtcmepdamemnbkaaDoorRows
import Derived.Test.YtcmepdamemnbkaaDoorPkLawTrustRecall4
import Derived.LaidLaws
import Derived.LaidHandle
import Derived.LaidMore
import Derived.ChangeVars
import Derived.ChangeShapes
namespace Go.Proofs.YtcmepdamemnbkaaDoor
open Go.RowKit Go.Proofs.YtcmepdamemnbkaaDoorW.PrintWords
set_option linter.unusedVariables false
set_option linter.unusedSimpArgs false
theorem fewest_enters : ∀ args w, (callFunc 61 args).run Tryd.prog w = .ok (.enter 61 args) w := enters_of Tryd.func61 (by kernel_rfl) rfl
/-- the search over a row of a call's -/
theorem fewestR {w0 w : World} {X : Nat → Prop} {η : Hp} (hw : WOK w0 X η w) {rr : RowR} {xs : List Int} (h1 : RowAt 3 0 w rr xs) (p : List Int → Bool) (g : Nat) (cs : List Value) (eg : ∀ args w, (callFunc g args).run Tryd.prog w = .ok (.enter g args) w) (hp : AsksM Tryd.prog w g cs p)
    (hn : xs.Nodup) (hs : xs.Pairwise fun a b => decide (a ≤ b) = true) (hlen : xs.length ≤ 12) :
    Calls Tryd.prog 61 ([] ++ [valR rr xs.length, .func (.func g) #[] cs.toArray] ++ []).toArray w fun e w' => ∃ rr : RowR, e = .returned (valR rr (fewestF xs p).length) ∧ RowAt 3 w.heap.size w' rr (fewestF xs p) ∧ Below w.heap.size w w' := by
  obtain ⟨A, c, e1, _, hA⟩ := h1.C (by omega)
  rw [e1]
  exact fewest_calls p g cs eg A c xs w hA hp hn hs hlen
set_option maxHeartbeats 8000000 in
theorem trustRests_calls (A B : Option Addr) (c c' : Nat) (r : List RecT) (l : List LetT) (day id : Int) (w : World) (hr : Kd.C recK w A r.length r) (hl : Kd.C letK w B l.length l) (hk : Bytes r) (hkl : BytesL l) :
    Calls Tryd.prog 30 #[.slice A r.length c, .slice B l.length c', .int .i64 day, .int .i64 id] w fun e w' => ∃ rr : RowR, e = .returned (.tuple #[valR rr (refRestsR r l day id).length, .int .i64 (refRestsC r l day id)]) ∧ RowAt 3 w.heap.size w' rr (refRestsR r l day id) ∧ Below w.heap.size w w' := by
  refine x_calls (X := XNone) Tryd.func30 rfl rfl rfl ?_
  with_reducible repeat refine xc_seq ?_
  with_reducible refine xc_region ?_
  refine xo_box rfl rfl rfl rfl (fun b4 => ?_)
  refine xo_box rfl rfl rfl rfl (fun b7 => ?_)
  refine xo_asg rfl rfl rfl ?_
  refine xo_asg rfl rfl rfl ?_
  with_reducible refine xo_nil ?_
  with_reducible repeat (first | refine xq_then ?_ | refine xq_blockN ?_ | refine xq_scopeN ?_)
  by_cases ho : openF r l day [id] = 0
  rotate_left
  · have hd : (!decide (openF r l day [id] = 0)) = true := by simp [ho]
    have e1 : refRestsR r l day id = [] := by rw [refRestsR, if_neg (fun h => ho h.1)]
    have e2 : refRestsC r l day id = openF r l day [id] := by rw [refRestsC, if_neg ho]
    with_reducible repeat refine xc_seq ?_
    with_reducible refine xc_region ?_
    refine xo_load0 T_ rfl rfl rfl (by repeat (first | exact List.Mem.head _ | apply List.Mem.tail | apply List.mem_append_right)) rfl rfl ?_
    refine xo_mv rfl rfl rfl ?_
    refine xo_mv rfl rfl rfl ?_
    refine xo_load0 T_ rfl rfl rfl (by repeat (first | exact List.Mem.head _ | apply List.Mem.tail | apply List.mem_append_right)) rfl rfl ?_
    refine xo_bs1 T_ rfl rfl rfl rfl rfl rfl rfl rfl (fun b19 => ?_)
    refine xo_call (fs := []) (cs := []) rfl rfl rfl open_enters rfl (fun w1 hw1 => (open_calls A B (some ⟨b19, 0, none⟩) c c' 1 r l day [id] w1 (Kd.C_below hr hw1.kx.below) (Kd.C_below hl hw1.kx.below) (C_cel hw1 (xs := [id]) (List.Mem.head _) (by simp)) hk hkl).mono ?_)
    rintro e w2 ⟨sv, rfl, hb, hne, h0⟩
    obtain rfl := hne ho
    refine ⟨_, _, rfl, hw1.below hb, ?_⟩
    clear hb hne h0 hw1
    refine xo_mv rfl rfl rfl ?_
    refine xo_ext rfl rfl rfl rfl ?_
    refine xo_ext rfl rfl rfl rfl ?_
    refine xo_alloc T_ rfl rfl rfl rfl (fun b10 => ?_)
    refine xo_store T_ rfl rfl rfl rfl (by repeat (first | exact List.Mem.head _ | apply List.Mem.tail | apply List.mem_append_right)) rfl rfl rfl rfl (by repeat (first | exact Upd.head | apply Upd.tail | apply Upd.app)) rfl ?_
    refine xo_asg rfl rfl rfl ?_
    with_reducible refine xo_nil ?_
    with_reducible repeat (first | refine xq_then ?_ | refine xq_blockN ?_ | refine xq_scopeN ?_)
    with_reducible repeat refine xc_seq ?_
    with_reducible refine xc_region ?_
    refine xo_mv rfl rfl rfl ?_
    refine xo_neq rfl rfl rfl rfl ?_
    refine xo_as (i := 24) rfl (congrArg Value.bool hd) ?_
    with_reducible refine xo_nil ?_
    with_reducible repeat (first | refine xq_then ?_ | refine xq_blockN ?_ | refine xq_scopeN ?_)
    with_reducible repeat refine xc_seq ?_
    refine xc_condT rfl ?_
    with_reducible repeat refine xc_seq ?_
    with_reducible refine xc_region ?_
    refine xo_mv rfl rfl rfl ?_
    refine xo_asg rfl rfl rfl ?_
    refine xo_asg rfl rfl rfl ?_
    with_reducible refine xo_nil ?_
    with_reducible repeat (first | refine xq_then ?_ | refine xq_blockN ?_ | refine xq_scopeN ?_)
    with_reducible repeat refine xc_seq ?_
    with_reducible refine xc_ret ?_
    with_reducible repeat (first | refine xq_thenR ?_ | refine xq_blockR ?_ | refine xq_scopeR ?_)
    refine xq_ret2 rfl rfl rfl fun w' hw => ⟨none, by rw [e1, e2]; rfl, ?_, hw.kx.below⟩
    rw [e1]
    exact ⟨fun _ => rfl, fun p hp => by cases hp⟩
  have hd : (!decide (openF r l day [id] = 0)) = false := by simp [ho]
  obtain ⟨hok, hkn⟩ := refOpen_zero ho
  have hlen := recorded_len hok
  have hsrt := sorted_of hok
  have hsub := holdsF_sub hsrt (goneF r l day)
  have hll := holdsF_len r (goneF r l day)
  with_reducible repeat refine xc_seq ?_
  with_reducible refine xc_region ?_
  refine xo_load0 T_ rfl rfl rfl (by repeat (first | exact List.Mem.head _ | apply List.Mem.tail | apply List.mem_append_right)) rfl rfl ?_
  refine xo_mv rfl rfl rfl ?_
  refine xo_mv rfl rfl rfl ?_
  refine xo_load0 T_ rfl rfl rfl (by repeat (first | exact List.Mem.head _ | apply List.Mem.tail | apply List.mem_append_right)) rfl rfl ?_
  refine xo_bs1 T_ rfl rfl rfl rfl rfl rfl rfl rfl (fun b19 => ?_)
  refine xo_call (fs := []) (cs := []) rfl rfl rfl open_enters rfl (fun w1 hw1 => (open_calls A B (some ⟨b19, 0, none⟩) c c' 1 r l day [id] w1 (Kd.C_below hr hw1.kx.below) (Kd.C_below hl hw1.kx.below) (C_cel hw1 (xs := [id]) (List.Mem.head _) (by simp)) hk hkl).mono ?_)
  rintro e w2 ⟨sv, rfl, hb, hne, h0⟩
  obtain ⟨M, rfl, hM1, hM2⟩ := h0 ho
  obtain ⟨oM, hM3, hM4⟩ := hmap_of hM2
  refine ⟨_, _, rfl, hw1.more hb hM1 hM3 hM4, ?_⟩
  clear hb hM2 hM3 hM4 hne h0 hM1 hw1
  refine xo_mv rfl rfl rfl ?_
  refine xo_ext rfl rfl rfl rfl ?_
  refine xo_ext rfl rfl rfl rfl ?_
  refine xo_alloc T_ rfl rfl rfl rfl (fun b10 => ?_)
  refine xo_store T_ rfl rfl rfl rfl (by repeat (first | exact List.Mem.head _ | apply List.Mem.tail | apply List.mem_append_right)) rfl rfl rfl rfl (by repeat (first | exact Upd.head | apply Upd.tail | apply Upd.app)) rfl ?_
  refine xo_asg rfl rfl rfl ?_
  with_reducible refine xo_nil ?_
  with_reducible repeat (first | refine xq_then ?_ | refine xq_blockN ?_ | refine xq_scopeN ?_)
  with_reducible repeat refine xc_seq ?_
  with_reducible refine xc_region ?_
  refine xo_mv rfl rfl rfl ?_
  refine xo_neq rfl rfl rfl rfl ?_
  refine xo_as (i := 24) rfl (congrArg Value.bool hd) ?_
  with_reducible refine xo_nil ?_
  with_reducible repeat (first | refine xq_then ?_ | refine xq_blockN ?_ | refine xq_scopeN ?_)
  with_reducible repeat refine xc_seq ?_
  refine xc_condF rfl ?_
  with_reducible refine xc_skip ?_
  with_reducible repeat (first | refine xq_then ?_ | refine xq_blockN ?_ | refine xq_scopeN ?_)
  with_reducible repeat refine xc_seq ?_
  with_reducible refine xc_region ?_
  refine xo_loadN T_ rfl rfl rfl (by repeat (first | exact List.Mem.head _ | apply List.Mem.tail | apply List.mem_append_right)) rfl rfl ?_
  refine xo_fa T_ rfl rfl rfl rfl rfl ?_
  refine xo_load0 T_ rfl rfl rfl (by repeat (first | exact List.Mem.head _ | apply List.Mem.tail | apply List.mem_append_right)) rfl rfl ?_
  refine xo_holds rfl rfl rfl rfl (fun b2 b3 => ?_)
  refine xo_collect (r := r) hr (by omega) rfl rfl (by repeat (first | exact List.Mem.head _ | apply List.Mem.tail | apply List.mem_append_right)) (by repeat (first | exact List.Mem.head _ | apply List.Mem.tail | apply List.mem_append_right)) (by repeat (first | exact List.Mem.head _ | apply List.Mem.tail | apply List.mem_append_right)) (fun w1 hw1 => ne_of_nd hw1) rfl (fun rr hrr => ?_)
  refine xo_asg rfl rfl rfl ?_
  with_reducible refine xo_nil ?_
  with_reducible repeat (first | refine xq_then ?_ | refine xq_blockN ?_ | refine xq_scopeN ?_)
  with_reducible repeat refine xc_seq ?_
  with_reducible refine xc_region ?_
  refine xo_mv rfl rfl rfl ?_
  refine xo_load0 T_ rfl rfl rfl (by repeat (first | exact List.Mem.head _ | apply List.Mem.tail | apply List.mem_append_right)) rfl rfl ?_
  refine xo_callB (fs := []) (cs := []) rfl rfl rfl contains_enters rfl (fun w1 hw1 => containsR hw1 id (by omega) (hw1.rowAt hrr (fun p hp => by subst hp; exact (by repeat (first | exact List.Mem.head _ | exact List.mem_append_left _ (List.Mem.head _) | apply List.mem_append_right | apply List.Mem.tail))))) ?_
  refine xo_notOp rfl rfl rfl ?_
  with_reducible refine xo_nil ?_
  with_reducible repeat (first | refine xq_then ?_ | refine xq_blockN ?_ | refine xq_scopeN ?_)
  with_reducible repeat refine xc_seq ?_
  refine xc_cond rfl (fun hin => ?_) (fun hin => ?_)
  · have hin : id ∉ holdsF r (goneF r l day) := by simpa using hin
    have e1 : refRestsR r l day id = [] := by rw [refRestsR, if_neg (fun h => hin h.2)]
    have e2 : refRestsC r l day id = 8 := by rw [refRestsC, if_pos ho, if_neg hin]
    with_reducible repeat refine xc_seq ?_
    with_reducible refine xc_region ?_
    refine xo_asg rfl rfl rfl ?_
    refine xo_asg rfl rfl rfl ?_
    with_reducible refine xo_nil ?_
    with_reducible repeat (first | refine xq_then ?_ | refine xq_blockN ?_ | refine xq_scopeN ?_)
    with_reducible repeat refine xc_seq ?_
    with_reducible refine xc_ret ?_
    with_reducible repeat (first | refine xq_thenR ?_ | refine xq_blockR ?_ | refine xq_scopeR ?_)
    refine xq_ret2 rfl rfl rfl fun w' hw => ⟨none, by rw [e1, e2]; rfl, ?_, hw.kx.below⟩
    rw [e1]
    exact ⟨fun _ => rfl, fun p hp => by cases hp⟩
  have hin : id ∈ holdsF r (goneF r l day) := by simpa using hin
  have e1 := restsR_eq ho hin
  have e2 : refRestsC r l day id = 0 := by rw [refRestsC, if_pos ho, if_pos hin]
  with_reducible refine xc_skip ?_
  with_reducible repeat (first | refine xq_then ?_ | refine xq_blockN ?_ | refine xq_scopeN ?_)
  with_reducible repeat refine xc_seq ?_
  with_reducible refine xc_region ?_
  refine xo_mkf rfl rfl rfl rfl ?_
  refine xo_asg rfl rfl rfl ?_
  with_reducible refine xo_nil ?_
  with_reducible repeat (first | refine xq_then ?_ | refine xq_blockN ?_ | refine xq_scopeN ?_)
  with_reducible repeat refine xc_seq ?_
  with_reducible refine xc_region ?_
  refine xo_mv rfl rfl rfl ?_
  refine xo_mv rfl rfl rfl ?_
  refine xo_call (fs := []) (cs := []) rfl rfl rfl fewest_enters rfl (fun w1 hw1 => (fewestR hw1 (hw1.rowAt hrr (fun p hp => by subst hp; exact (by repeat (first | exact List.Mem.head _ | exact List.mem_append_left _ (List.Mem.head _) | apply List.mem_append_right | apply List.Mem.tail)))) (restP r id) 60 [.pointer (some ⟨b4, 0, none⟩), .pointer (some ⟨b7, 0, none⟩), .pointer (some ⟨b10, 0, none⟩)] rests1_enters (fun S M2 W hW hM2 hI hS => rests1_calls A c r id M b4 b7 b10 M2 S W (Kd.C_below hr (hw1.below hW).kx.below) (by omega) ((hw1.below hW).cell (by repeat (first | exact List.Mem.head _ | exact List.mem_append_left _ (List.Mem.head _) | apply List.mem_append_right | apply List.Mem.tail)) 0 rfl) ((hw1.below hW).cell (by repeat (first | exact List.Mem.head _ | exact List.mem_append_left _ (List.Mem.head _) | apply List.mem_append_right | apply List.Mem.tail)) 0 rfl) ((hw1.below hW).obj (by repeat (first | exact List.Mem.head _ | exact List.mem_append_left _ (List.Mem.head _) | apply List.mem_append_right | apply List.Mem.tail))) hI hS) (hsub.nodup (idsL_nodup hsrt)) (sub_le hsrt hsub) (by omega)).mono ?_)
  rintro e w2 ⟨r8, rfl, hrow, hb⟩
  have h08 := hrow.1
  refine ⟨_, _, rfl, hw1.row hb hrow, ?_⟩
  clear hrow hb hw1
  refine xo_asg rfl rfl rfl ?_
  refine xo_asg rfl rfl rfl ?_
  with_reducible refine xo_nil ?_
  with_reducible repeat (first | refine xq_then ?_ | refine xq_blockN ?_ | refine xq_scopeN ?_)
  with_reducible repeat refine xc_seq ?_
  with_reducible refine xc_ret ?_
  with_reducible repeat (first | refine xq_thenR ?_ | refine xq_blockR ?_ | refine xq_scopeR ?_)
  refine xq_ret2 rfl rfl rfl fun w' hw => ⟨r8, by rw [e1, e2], ?_, hw.kx.below⟩
  rw [e1]
  exact RowAt.of hw h08
theorem trustRests_enters : ∀ args w, (callFunc 30 args).run Tryd.prog w = .ok (.enter 30 args) w := enters_of Tryd.func30 (by kernel_rfl) rfl
end Go.Proofs.YtcmepdamemnbkaaDoor
namespace Go.Proofs.YtcmepdamemnbkaaDoor
open Go.RowKit Go.Proofs.YtcmepdamemnbkaaDoorW.PrintWords
set_option linter.unusedVariables false
set_option linter.unusedSimpArgs false
set_option maxHeartbeats 8000000 in
theorem trustCauses_calls (A B : Option Addr) (c c' : Nat) (r : List RecT) (l : List LetT) (day id : Int) (w : World) (hr : Kd.C recK w A r.length r) (hl : Kd.C letK w B l.length l) (hk : Bytes r) (hkl : BytesL l) :
    Calls Tryd.prog 31 #[.slice A r.length c, .slice B l.length c', .int .i64 day, .int .i64 id] w fun e w' => ∃ rr : RowR, e = .returned (.tuple #[valR rr (refCausesR r l day id).length, .int .i64 (refCausesC r l day id)]) ∧ RowAt 3 w.heap.size w' rr (refCausesR r l day id) ∧ Below w.heap.size w w' := by
  refine x_calls (X := XNone) Tryd.func31 rfl rfl rfl ?_
  with_reducible repeat refine xc_seq ?_
  with_reducible refine xc_region ?_
  refine xo_box rfl rfl rfl rfl (fun b7 => ?_)
  refine xo_asg rfl rfl rfl ?_
  refine xo_asg rfl rfl rfl ?_
  with_reducible refine xo_nil ?_
  with_reducible repeat (first | refine xq_then ?_ | refine xq_blockN ?_ | refine xq_scopeN ?_)
  by_cases ho : openF r l day [id] = 0
  rotate_left
  · have hd : (!decide (openF r l day [id] = 0)) = true := by simp [ho]
    have e1 : refCausesR r l day id = [] := by rw [refCausesR, if_neg (fun h => ho h.1)]
    have e2 : refCausesC r l day id = openF r l day [id] := by rw [refCausesC, if_neg ho]
    with_reducible repeat refine xc_seq ?_
    with_reducible refine xc_region ?_
    refine xo_mv rfl rfl rfl ?_
    refine xo_mv rfl rfl rfl ?_
    refine xo_mv rfl rfl rfl ?_
    refine xo_load0 T_ rfl rfl rfl (by repeat (first | exact List.Mem.head _ | apply List.Mem.tail | apply List.mem_append_right)) rfl rfl ?_
    refine xo_bs1 T_ rfl rfl rfl rfl rfl rfl rfl rfl (fun b18 => ?_)
    refine xo_call (fs := []) (cs := []) rfl rfl rfl open_enters rfl (fun w1 hw1 => (open_calls A B (some ⟨b18, 0, none⟩) c c' 1 r l day [id] w1 (Kd.C_below hr hw1.kx.below) (Kd.C_below hl hw1.kx.below) (C_cel hw1 (xs := [id]) (List.Mem.head _) (by simp)) hk hkl).mono ?_)
    rintro e w2 ⟨sv, rfl, hb, hne, h0⟩
    obtain rfl := hne ho
    refine ⟨_, _, rfl, hw1.below hb, ?_⟩
    clear hb hne h0 hw1
    refine xo_mv rfl rfl rfl ?_
    refine xo_ext rfl rfl rfl rfl ?_
    refine xo_ext rfl rfl rfl rfl ?_
    refine xo_alloc T_ rfl rfl rfl rfl (fun b10 => ?_)
    refine xo_store T_ rfl rfl rfl rfl (by repeat (first | exact List.Mem.head _ | apply List.Mem.tail | apply List.mem_append_right)) rfl rfl rfl rfl (by repeat (first | exact Upd.head | apply Upd.tail | apply Upd.app)) rfl ?_
    refine xo_asg rfl rfl rfl ?_
    with_reducible refine xo_nil ?_
    with_reducible repeat (first | refine xq_then ?_ | refine xq_blockN ?_ | refine xq_scopeN ?_)
    with_reducible repeat refine xc_seq ?_
    with_reducible refine xc_region ?_
    refine xo_mv rfl rfl rfl ?_
    refine xo_neq rfl rfl rfl rfl ?_
    refine xo_as (i := 23) rfl (congrArg Value.bool hd) ?_
    with_reducible refine xo_nil ?_
    with_reducible repeat (first | refine xq_then ?_ | refine xq_blockN ?_ | refine xq_scopeN ?_)
    with_reducible repeat refine xc_seq ?_
    refine xc_condT rfl ?_
    with_reducible repeat refine xc_seq ?_
    with_reducible refine xc_region ?_
    refine xo_mv rfl rfl rfl ?_
    refine xo_asg rfl rfl rfl ?_
    refine xo_asg rfl rfl rfl ?_
    with_reducible refine xo_nil ?_
    with_reducible repeat (first | refine xq_then ?_ | refine xq_blockN ?_ | refine xq_scopeN ?_)
    with_reducible repeat refine xc_seq ?_
    with_reducible refine xc_ret ?_
    with_reducible repeat (first | refine xq_thenR ?_ | refine xq_blockR ?_ | refine xq_scopeR ?_)
    refine xq_ret2 rfl rfl rfl fun w' hw => ⟨none, by rw [e1, e2]; rfl, ?_, hw.kx.below⟩
    rw [e1]
    exact ⟨fun _ => rfl, fun p hp => by cases hp⟩
  have hd : (!decide (openF r l day [id] = 0)) = false := by simp [ho]
  obtain ⟨hok, hkn⟩ := refOpen_zero ho
  have hlen := recorded_len hok
  have hsrt := sorted_of hok
  have hsub := holdsF_sub hsrt (goneF r l day)
  have hll := holdsF_len r (goneF r l day)
  with_reducible repeat refine xc_seq ?_
  with_reducible refine xc_region ?_
  refine xo_mv rfl rfl rfl ?_
  refine xo_mv rfl rfl rfl ?_
  refine xo_mv rfl rfl rfl ?_
  refine xo_load0 T_ rfl rfl rfl (by repeat (first | exact List.Mem.head _ | apply List.Mem.tail | apply List.mem_append_right)) rfl rfl ?_
  refine xo_bs1 T_ rfl rfl rfl rfl rfl rfl rfl rfl (fun b18 => ?_)
  refine xo_call (fs := []) (cs := []) rfl rfl rfl open_enters rfl (fun w1 hw1 => (open_calls A B (some ⟨b18, 0, none⟩) c c' 1 r l day [id] w1 (Kd.C_below hr hw1.kx.below) (Kd.C_below hl hw1.kx.below) (C_cel hw1 (xs := [id]) (List.Mem.head _) (by simp)) hk hkl).mono ?_)
  rintro e w2 ⟨sv, rfl, hb, hne, h0⟩
  obtain ⟨M, rfl, hM1, hM2⟩ := h0 ho
  obtain ⟨oM, hM3, hM4⟩ := hmap_of hM2
  refine ⟨_, _, rfl, hw1.more hb hM1 hM3 hM4, ?_⟩
  clear hb hM2 hM3 hM4 hne h0 hM1 hw1
  refine xo_mv rfl rfl rfl ?_
  refine xo_ext rfl rfl rfl rfl ?_
  refine xo_ext rfl rfl rfl rfl ?_
  refine xo_alloc T_ rfl rfl rfl rfl (fun b10 => ?_)
  refine xo_store T_ rfl rfl rfl rfl (by repeat (first | exact List.Mem.head _ | apply List.Mem.tail | apply List.mem_append_right)) rfl rfl rfl rfl (by repeat (first | exact Upd.head | apply Upd.tail | apply Upd.app)) rfl ?_
  refine xo_asg rfl rfl rfl ?_
  with_reducible refine xo_nil ?_
  with_reducible repeat (first | refine xq_then ?_ | refine xq_blockN ?_ | refine xq_scopeN ?_)
  with_reducible repeat refine xc_seq ?_
  with_reducible refine xc_region ?_
  refine xo_mv rfl rfl rfl ?_
  refine xo_neq rfl rfl rfl rfl ?_
  refine xo_as (i := 23) rfl (congrArg Value.bool hd) ?_
  with_reducible refine xo_nil ?_
  with_reducible repeat (first | refine xq_then ?_ | refine xq_blockN ?_ | refine xq_scopeN ?_)
  with_reducible repeat refine xc_seq ?_
  refine xc_condF rfl ?_
  with_reducible refine xc_skip ?_
  with_reducible repeat (first | refine xq_then ?_ | refine xq_blockN ?_ | refine xq_scopeN ?_)
  have hgsub := goneF_sub hsrt l day
  have hgn := hgsub.nodup (idsL_nodup hsrt)
  have hgl := hgsub.length_le
  have hgl2 : (idsL r).length = r.length := by simp [idsL]
  have hsort := sortF_id (sub_le hsrt hgsub)
  with_reducible repeat refine xc_seq ?_
  apply xc_drawE (fun g => [(3, .func (.func 70) #[] #[.pointer (some ⟨(g.getD 0 gv0).b, 0, none⟩), .pointer (some ⟨(g.getD 0 gv0).c, 0, none⟩)]), (4, valR (g.getD 1 gv0).rr (holdsF r (goneF r l day)).length)]) (fun (η0 : Hp) g => match g with | [] => (η0) | a0 :: [] => ((a0.c, true, cel [.map (some M)] 62) :: (a0.b, true, cel [.slice A r.length c, .map (some M)] 91) :: η0) | a0 :: a1 :: _ => (hpR 3 1 a1.rr (holdsF r (goneF r l day)).length ((holdsF r (goneF r l day)).map (.int .i64)) ++ ((a0.c, true, cel [.map (some M)] 62) :: (a0.b, true, cel [.slice A r.length c, .map (some M)] 91) :: η0))) (fun g => match g with | _ :: a1 :: _ => (a1.rr = none → holdsF r (goneF r l day) = []) | _ => True) [0, 0, 0, 1, 2, 0, 2] [3, 4] [[0, 2], [3, 3]] (by trivial)
  apply SameLen.cons
  apply SameLen.cons
  apply SameLen.cons
  apply SameLen.cons (c := undef)
  apply SameLen.cons (c := undef)
  apply SameLen.cons
  apply SameLen.cons
  exact SameLen.nil
  rotate_left 5
  case hH0 => rfl
  case hmix => exact T_.mixed
  case hbind => rfl
  case hdeps => rfl
  case hdist => rfl
  case hfresh => rfl
  case hE => rfl
  case hEn => decide
  · refine DrawE.pure 0 0 rfl (.inr (by decide)) (fun L g hg hd => Nat.zero_le _) (fun g hlo hhi hF τ => ?_) ?_
    · rcases g with _ | ⟨a0, _ | ⟨a1, _ | ⟨a2, g⟩⟩⟩
      all_goals first
        | (exfalso; simp only [List.length_cons, List.length_nil] at hlo hhi; omega)
        | (refine ⟨_, rfl, ?_⟩
           refine xo_loadN T_ rfl rfl rfl (by repeat (first | exact List.Mem.head _ | apply List.Mem.tail | apply List.mem_append_right)) rfl rfl ?_
           exact xo_fin rfl)
    refine DrawE.pure 0 2 rfl (.inl rfl) (fun L g hg hd => Nat.zero_le _) (fun g hlo hhi hF τ => ?_) ?_
    · rcases g with _ | ⟨a0, _ | ⟨a1, _ | ⟨a2, g⟩⟩⟩
      all_goals first
        | (exfalso; simp only [List.length_cons, List.length_nil] at hlo hhi; omega)
        | (refine ⟨_, rfl, ?_⟩
           refine xo_fa T_ rfl rfl rfl rfl rfl ?_
           exact xo_fin rfl)
    refine DrawE.pure 0 0 rfl (.inr (by decide)) (fun L g hg hd => Nat.zero_le _) (fun g hlo hhi hF τ => ?_) ?_
    · rcases g with _ | ⟨a0, _ | ⟨a1, _ | ⟨a2, g⟩⟩⟩
      all_goals first
        | (exfalso; simp only [List.length_cons, List.length_nil] at hlo hhi; omega)
        | (refine ⟨_, rfl, ?_⟩
           refine xo_load0 T_ rfl rfl rfl (by repeat (first | exact List.Mem.head _ | apply List.Mem.tail | apply List.mem_append_right)) rfl rfl ?_
           exact xo_fin rfl)
    refine DrawE.eff 0 rfl (by decide) rfl (fun j hj => hj) (fun j g a hj => ?_) (fun L g hg hd => Nat.zero_le _) (fun g hgl hF τ => ?_) ?_
    · rcases j with _ | _ | _ | _ | _ | _ | _ | j
      all_goals first | rfl | (rcases g with _ | ⟨a0, _ | ⟨a1, _ | ⟨a2, g⟩⟩⟩ <;> first | rfl | exact absurd hj (by decide) | exact absurd hj (by simp [List.getD]))
    · obtain rfl : g = [] := by
        rcases g with _ | ⟨a0, g⟩ <;> first | rfl | (exfalso; simp only [List.length_cons, List.length_nil] at hgl; omega)
      refine xo_holds rfl rfl rfl rfl (fun b2 b3 => ?_)
      exact xo_finE ⟨b2, b3, none⟩ rfl trivial
    refine DrawE.eff 1 rfl (by decide) rfl (fun j hj => hj) (fun j g a hj => ?_) (fun L g hg hd => hg.2.1 3 (hd 3 (by decide))) (fun g hgl hF τ => ?_) ?_
    · rcases j with _ | _ | _ | _ | _ | _ | _ | j
      all_goals first | rfl | (rcases g with _ | ⟨a0, _ | ⟨a1, _ | ⟨a2, g⟩⟩⟩ <;> first | rfl | exact absurd hj (by decide) | exact absurd hj (by simp [List.getD]))
    · obtain ⟨a0, rfl⟩ : ∃ a0, g = [a0] := by
        rcases g with _ | ⟨a0, _ | ⟨a1, _ | ⟨a2, g⟩⟩⟩ <;> first | exact ⟨_, rfl⟩ | rfl | (exfalso; simp only [List.length_cons, List.length_nil] at hgl; omega)
      refine xo_collect (r := r) hr (by omega) rfl rfl (by repeat (first | exact List.Mem.head _ | apply List.Mem.tail | apply List.mem_append_right)) (by repeat (first | exact List.Mem.head _ | apply List.Mem.tail | apply List.mem_append_right)) (by repeat (first | exact List.Mem.head _ | apply List.Mem.tail | apply List.mem_append_right)) (fun w1 hw1 => ne_of_nd hw1) rfl (fun rr hrr => ?_)
      exact xo_finE ⟨0, 0, rr⟩ rfl hrr
    refine DrawE.pure 0 2 rfl (.inl rfl) (fun L g hg hd => Nat.zero_le _) (fun g hlo hhi hF τ => ?_) ?_
    · rcases g with _ | ⟨a0, _ | ⟨a1, _ | ⟨a2, g⟩⟩⟩
      all_goals first
        | (exfalso; simp only [List.length_cons, List.length_nil] at hlo hhi; omega)
        | (refine ⟨_, rfl, ?_⟩
           refine xo_load0 T_ rfl rfl rfl (by repeat (first | exact List.Mem.head _ | apply List.Mem.tail | apply List.mem_append_right)) rfl rfl ?_
           exact xo_fin rfl)
    refine DrawE.pure 2 2 rfl (.inl rfl) (fun L g hg hd => hg.2.1 4 (hd 4 (by decide))) (fun g hlo hhi hF τ => ?_) ?_
    · rcases g with _ | ⟨a0, _ | ⟨a1, _ | ⟨a2, g⟩⟩⟩
      all_goals first
        | (exfalso; simp only [List.length_cons, List.length_nil] at hlo hhi; omega)
        | (refine ⟨_, rfl, ?_⟩
           refine xo_callB (fs := []) (cs := []) rfl rfl rfl contains_enters rfl (fun w1 hw1 => containsR hw1 id (by omega) (hw1.rowAt (rr := a1.rr) hF (fun p hp => List.mem_append_left _ (by rw [hp]; exact List.Mem.head _)))) ?_
           exact xo_fin rfl)
    exact DrawE.nil
  intro g hgl hF
  obtain ⟨a0, a1, rfl⟩ : ∃ a0 a1, g = [a0, a1] := by
    rcases g with _ | ⟨a0, _ | ⟨a1, _ | ⟨a2, g⟩⟩⟩ <;> first | exact ⟨_, _, rfl⟩ | (exfalso; simp only [List.length_cons, List.length_nil] at hgl; omega)
  with_reducible repeat (first | refine xq_then ?_ | refine xq_blockN ?_ | refine xq_scopeN ?_)
  generalize a1.rr = rr at *
  with_reducible repeat refine xc_seq ?_
  refine xc_cond rfl (fun hin => ?_) (fun hin => ?_)
  · have hin : id ∈ holdsF r (goneF r l day) := by simpa using hin
    have e1 : refCausesR r l day id = [] := by rw [refCausesR, if_neg (fun h => h.2 hin)]
    have e2 : refCausesC r l day id = 8 := by rw [refCausesC, if_pos ho, if_pos hin]
    with_reducible repeat refine xc_seq ?_
    with_reducible refine xc_region ?_
    refine xo_asg rfl rfl rfl ?_
    refine xo_asg rfl rfl rfl ?_
    with_reducible refine xo_nil ?_
    with_reducible repeat (first | refine xq_then ?_ | refine xq_blockN ?_ | refine xq_scopeN ?_)
    with_reducible repeat refine xc_seq ?_
    with_reducible refine xc_ret ?_
    with_reducible repeat (first | refine xq_thenR ?_ | refine xq_blockR ?_ | refine xq_scopeR ?_)
    refine xq_ret2 rfl rfl rfl fun w' hw => ⟨none, by rw [e1, e2]; rfl, ?_, hw.kx.below⟩
    rw [e1]
    exact ⟨fun _ => rfl, fun p hp => by cases hp⟩
  have hin : id ∉ holdsF r (goneF r l day) := by simpa using hin
  have e1 := causesR_eq ho hin
  have e2 : refCausesC r l day id = 0 := by rw [refCausesC, if_pos ho, if_neg hin]
  with_reducible refine xc_skip ?_
  with_reducible repeat (first | refine xq_then ?_ | refine xq_blockN ?_ | refine xq_scopeN ?_)
  with_reducible repeat refine xc_seq ?_
  with_reducible refine xc_region ?_
  refine xo_mkf rfl rfl rfl rfl ?_
  refine xo_asg rfl rfl rfl ?_
  with_reducible refine xo_nil ?_
  with_reducible repeat (first | refine xq_then ?_ | refine xq_blockN ?_ | refine xq_scopeN ?_)
  with_reducible repeat refine xc_seq ?_
  with_reducible refine xc_region ?_
  refine xo_fa T_ rfl rfl rfl rfl rfl ?_
  refine xo_load0 T_ rfl rfl rfl (by repeat (first | exact List.Mem.head _ | apply List.Mem.tail | apply List.mem_append_right)) rfl rfl ?_
  refine xo_call (fs := []) (cs := []) rfl rfl rfl keys_enters rfl (fun w1 hw1 => (keys_calls M w1).mono ?_)
  rintro e w2 ⟨BK, rfl, hB1, hB2, hb⟩
  refine ⟨_, _, rfl, hw1.more (φ := cel [.map (some M)] 62) hb hB1 hB2 rfl, ?_⟩
  clear hB1 hB2 hb hw1
  refine xo_call (fs := []) (cs := []) rfl rfl rfl sorted_enters rfl (fun w1 hw1 => (sorted_calls 78 [.pointer (some ⟨BK, 0, none⟩)] keysIter_enters (fun k => k = BK ∨ k = M) (goneF r l day) (goneF r l day).length w1 (iter_keys (goneF r l day) M BK w1 (hw1.obj (wr := true) (cs := [.map (some M)]) (by repeat (first | exact List.Mem.head _ | exact List.mem_append_left _ (List.Mem.head _) | apply List.mem_append_right | apply List.Mem.tail))) (hw1.imap (wr := true) (by repeat (first | exact List.Mem.head _ | exact List.mem_append_left _ (List.Mem.head _) | apply List.mem_append_right | apply List.Mem.tail)))) (fun k hk => hk.elim (fun e => e ▸ hw1.lt (e := (BK, true, cel [.map (some M)] 62)) (by repeat (first | exact List.Mem.head _ | exact List.mem_append_left _ (List.Mem.head _) | apply List.mem_append_right | apply List.Mem.tail))) (fun e => e ▸ hw1.lt (e := (M, true, hmap (setV (goneF r l day)))) (by repeat (first | exact List.Mem.head _ | exact List.mem_append_left _ (List.Mem.head _) | apply List.mem_append_right | apply List.Mem.tail)))) (by omega) (by omega)).mono ?_)
  rintro e w2 ⟨r11, rfl, hrw, hb⟩
  rw [hsort] at hrw ⊢
  have h11 := hrw.1
  refine ⟨_, _, rfl, hw1.row hb hrw, ?_⟩
  clear hrw hb hw1
  refine xo_mv rfl rfl rfl ?_
  refine xo_call (fs := []) (cs := []) rfl rfl rfl fewest_enters rfl (fun w1 hw1 => (fewestR hw1 (hw1.rowAt h11 (fun p hp => by subst hp; exact (by repeat (first | exact List.Mem.head _ | exact List.mem_append_left _ (List.Mem.head _) | apply List.mem_append_right | apply List.Mem.tail)))) (causeP r (goneF r l day) id) 62 [.pointer (some ⟨b10, 0, none⟩), .pointer (some ⟨b7, 0, none⟩)] causes1_enters (fun S M2 W hW hM2 hI hS => causes1_calls A c r (goneF r l day) id M b10 b7 M2 S W (Kd.C_below hr (hw1.below hW).kx.below) (by omega) ((hw1.below hW).cell (by repeat (first | exact List.Mem.head _ | exact List.mem_append_left _ (List.Mem.head _) | apply List.mem_append_right | apply List.Mem.tail)) 0 rfl) ((hw1.below hW).obj (by repeat (first | exact List.Mem.head _ | exact List.mem_append_left _ (List.Mem.head _) | apply List.mem_append_right | apply List.Mem.tail))) ((hw1.below hW).imap (by repeat (first | exact List.Mem.head _ | exact List.mem_append_left _ (List.Mem.head _) | apply List.mem_append_right | apply List.Mem.tail))) hgn hI hS) hgn (sub_le hsrt hgsub) (by omega)).mono ?_)
  rintro e w2 ⟨r8, rfl, hrow, hb⟩
  have h08 := hrow.1
  refine ⟨_, _, rfl, hw1.row hb hrow, ?_⟩
  clear hrow hb hw1
  refine xo_asg rfl rfl rfl ?_
  refine xo_asg rfl rfl rfl ?_
  with_reducible refine xo_nil ?_
  with_reducible repeat (first | refine xq_then ?_ | refine xq_blockN ?_ | refine xq_scopeN ?_)
  with_reducible repeat refine xc_seq ?_
  with_reducible refine xc_ret ?_
  with_reducible repeat (first | refine xq_thenR ?_ | refine xq_blockR ?_ | refine xq_scopeR ?_)
  refine xq_ret2 rfl rfl rfl fun w' hw => ⟨r8, by rw [e1, e2], ?_, hw.kx.below⟩
  rw [e1]
  exact RowAt.of hw h08
theorem trustCauses_enters : ∀ args w, (callFunc 31 args).run Tryd.prog w = .ok (.enter 31 args) w := enters_of Tryd.func31 (by kernel_rfl) rfl
end Go.Proofs.YtcmepdamemnbkaaDoor
namespace Go.Proofs.YtcmepdamemnbkaaDoor
open Go.RowKit Go.Proofs.YtcmepdamemnbkaaDoorW.PrintWords
set_option linter.unusedVariables false
set_option linter.unusedSimpArgs false
end Go.Proofs.YtcmepdamemnbkaaDoor
namespace Go.Proofs.YtcmepdamemnbkaaDoor
open Go.RowKit Go.Proofs.YtcmepdamemnbkaaDoorW.PrintWords
set_option linter.unusedVariables false
set_option linter.unusedSimpArgs false
theorem trustTakes_enters : ∀ args w, (callFunc 29 args).run Tryd.prog w = .ok (.enter 29 args) w := enters_of Tryd.func29 (by kernel_rfl) rfl
theorem trustHolds_enters : ∀ args w, (callFunc 28 args).run Tryd.prog w = .ok (.enter 28 args) w := enters_of Tryd.func28 (by kernel_rfl) rfl
theorem u8_of {n : Int} (h : (Lit.int .u8 n).wf = true) : 0 ≤ n ∧ n ≤ 255 := by
  simp only [Lit.wf, Bool.and_eq_true, decide_eq_true_eq] at h
  exact h
end Go.Proofs.YtcmepdamemnbkaaDoor
namespace Go.Proofs.YtcmepdamemnbkaaDoor
open Go.RowKit Go.Proofs.YtcmepdamemnbkaaDoorW.PrintWords
set_option linter.unusedVariables false
set_option linter.unusedSimpArgs false
theorem is_calls (A : Option Addr) (c : Nat) (xs : List Int) (B : Option Addr) (c2 : Nat) (w : World) (h1 : Kd.C (Kd.int .i64) w A xs.length xs) (h2 : Kd.C (Kd.int .i64) w B xs.length xs) :
    Calls Tryd.prog 27 #[.slice A xs.length c, .int .i64 0, .slice B xs.length c2] w fun e w' => e = .returned (.bool true) ∧ Below w.heap.size w w' := by
  have h0 : decide ((0 : Int) = 0) = true := rfl
  refine x_calls (X := XNone) Tryd.func27 rfl rfl rfl ?_
  with_reducible repeat refine xc_seq ?_
  with_reducible refine xc_region ?_
  refine xo_asg rfl rfl rfl ?_
  with_reducible refine xo_nil ?_
  with_reducible repeat (first | refine xq_then ?_ | refine xq_blockN ?_ | refine xq_scopeN ?_)
  with_reducible repeat refine xc_seq ?_
  with_reducible refine xc_region ?_
  refine xo_mv rfl rfl rfl ?_
  refine xo_eql rfl rfl rfl rfl ?_
  refine xo_mv rfl rfl rfl ?_
  refine xo_as (i := 9) rfl (congrArg Value.bool h0) ?_
  first
    | refine xo_not rfl rfl ?_
    | (refine xo_mv rfl rfl rfl ?_)
  first
    | refine xo_not rfl rfl ?_
    | (refine xo_mv rfl rfl rfl ?_)
  first
    | refine xo_not rfl rfl ?_
    | (refine xo_callB (fs := []) (cs := []) rfl rfl rfl sameInts_enters rfl (fun w1 hw1 => sameInts_calls A B c c2 xs w1 (Kd.C_below h1 hw1.kx.below) (Kd.C_below h2 hw1.kx.below)) ?_)
  first | refine xo_pickT rfl rfl rfl rfl ?_ | refine xo_pickF rfl rfl rfl rfl ?_
  refine xo_asg rfl rfl rfl ?_
  with_reducible refine xo_nil ?_
  with_reducible repeat (first | refine xq_then ?_ | refine xq_blockN ?_ | refine xq_scopeN ?_)
  with_reducible repeat refine xc_seq ?_
  with_reducible refine xc_ret ?_
  with_reducible repeat (first | refine xq_thenR ?_ | refine xq_blockR ?_ | refine xq_scopeR ?_)
  exact xq_ret1 rfl rfl fun w' hw => ⟨rfl, hw.kx.below⟩
theorem is_enters : ∀ args w, (callFunc 27 args).run Tryd.prog w = .ok (.enter 27 args) w := enters_of Tryd.func27 (by kernel_rfl) rfl
theorem isR_calls {w0 w : World} {X : Nat → Prop} {η : Hp} (hw : WOK w0 X η w) {rr : RowR} {xs : List Int} (hl : xs.length ≤ 1000000) (h1 : RowAt 3 0 w rr xs) (B : Option Addr) (c2 : Nat) (h2 : Kd.C (Kd.int .i64) w B xs.length xs) :
    Calls Tryd.prog 27 ([] ++ [valR rr xs.length, .int .i64 0, .slice B xs.length c2] ++ []).toArray w fun e w' => e = .returned (.bool true) ∧ Below w.heap.size w w' := by
  obtain ⟨A, c, e1, _, hA⟩ := h1.C (by omega)
  rw [e1]
  exact is_calls A c xs B c2 w hA h2
theorem byE : Bytes recsE := by unfold Bytes recsE; decide
theorem byLE : BytesL letsE := by unfold BytesL letsE; decide
theorem byME : BytesM movsE := by unfold BytesM movsE; decide
theorem onE_calls (day : Int) (want : List Int) (B : Option Addr) (c2 : Nat) (w : World) (hB : Kd.C (Kd.int .i64) w B want.length want) (hl : want.length ≤ 100) (h1 : openF recsE letsE day [] = 0) (h2 : holdsR recsE letsE day = want) :
    Calls Tryd.prog 20 #[.int .i64 day, .slice B want.length c2] w fun e w' => e = .returned (.bool true) ∧ Below w.heap.size w w' := by
  refine x_calls (X := XNone) Tryd.func20 rfl rfl rfl ?_
  with_reducible repeat refine xc_seq ?_
  with_reducible refine xc_region ?_
  refine xo_asg rfl rfl rfl ?_
  with_reducible refine xo_nil ?_
  with_reducible repeat (first | refine xq_then ?_ | refine xq_blockN ?_ | refine xq_scopeN ?_)
  with_reducible repeat refine xc_seq ?_
  with_reducible refine xc_region ?_
  refine xo_call (fs := []) (cs := []) rfl rfl rfl recordsE_enters rfl (fun w1 hw1 => (recordsE_calls w1).mono ?_)
  rintro e w2 ⟨ζr, br, rfl, hz, hR⟩
  refine ⟨_, _, rfl, hw1.join hz hR.1, ?_⟩
  clear hz hw1
  refine xo_call (fs := []) (cs := []) rfl rfl rfl letters_enters rfl (fun w1 hw1 => (letters_calls w1).mono ?_)
  rintro e w2 ⟨ζl, bl, rfl, hz, hL⟩
  refine ⟨_, _, rfl, hw1.join hz hL.1, ?_⟩
  clear hz hw1
  refine xo_mv rfl rfl rfl ?_
  refine xo_call (fs := []) (cs := []) rfl rfl rfl trustHolds_enters rfl (fun w1 hw1 => (trustHolds_calls (some ⟨br, 0, none⟩) (some ⟨bl, 0, none⟩) 7 3 recsE letsE day w1 (hR.2 _ _ _ _ hw1 (fun e he => by repeat (first | exact he | exact List.mem_append_left _ he | apply List.mem_append_right | apply List.Mem.tail))) (hL.2 _ _ _ _ hw1 (fun e he => by repeat (first | exact he | exact List.mem_append_left _ he | apply List.mem_append_right | apply List.Mem.tail))) byE byLE).mono ?_)
  rw [h1, h2]
  rintro e w2 ⟨rr, rfl, hrow, hb⟩
  have hrr := hrow.1
  refine ⟨_, _, rfl, hw1.row hb hrow, ?_⟩
  clear hrow hb hw1
  refine xo_mv rfl rfl rfl ?_
  refine xo_ext rfl rfl rfl rfl ?_
  refine xo_ext rfl rfl rfl rfl ?_
  refine xo_asg rfl rfl rfl ?_
  refine xo_asg rfl rfl rfl ?_
  with_reducible refine xo_nil ?_
  with_reducible repeat (first | refine xq_then ?_ | refine xq_blockN ?_ | refine xq_scopeN ?_)
  with_reducible repeat refine xc_seq ?_
  with_reducible refine xc_region ?_
  refine xo_mv rfl rfl rfl ?_
  refine xo_mv rfl rfl rfl ?_
  refine xo_mv rfl rfl rfl ?_
  refine xo_callB (fs := []) (cs := []) rfl rfl rfl is_enters rfl (fun w1 hw1 => isR_calls hw1 (by omega) (hw1.rowAt hrr (fun p hp => by subst hp; exact (by repeat (first | exact List.Mem.head _ | exact List.mem_append_left _ (List.Mem.head _) | apply List.mem_append_right | apply List.Mem.tail)))) B c2 (Kd.C_below hB hw1.kx.below)) ?_
  refine xo_asg rfl rfl rfl ?_
  with_reducible refine xo_nil ?_
  with_reducible repeat (first | refine xq_then ?_ | refine xq_blockN ?_ | refine xq_scopeN ?_)
  with_reducible repeat refine xc_seq ?_
  with_reducible refine xc_ret ?_
  with_reducible repeat (first | refine xq_thenR ?_ | refine xq_blockR ?_ | refine xq_scopeR ?_)
  exact xq_ret1 rfl rfl fun w' hw => ⟨rfl, hw.kx.below⟩
theorem onE_enters : ∀ args w, (callFunc 20 args).run Tryd.prog w = .ok (.enter 20 args) w := enters_of Tryd.func20 (by kernel_rfl) rfl
theorem takesE_calls (day id : Int) (want : List Int) (B : Option Addr) (c2 : Nat) (w : World) (hB : Kd.C (Kd.int .i64) w B want.length want) (hl : want.length ≤ 100) (h1 : openF recsE letsE day [id] = 0) (h2 : takesR recsE letsE day id = want) :
    Calls Tryd.prog 21 #[.int .i64 day, .int .i64 id, .slice B want.length c2] w fun e w' => e = .returned (.bool true) ∧ Below w.heap.size w w' := by
  refine x_calls (X := XNone) Tryd.func21 rfl rfl rfl ?_
  with_reducible repeat refine xc_seq ?_
  with_reducible refine xc_region ?_
  refine xo_asg rfl rfl rfl ?_
  with_reducible refine xo_nil ?_
  with_reducible repeat (first | refine xq_then ?_ | refine xq_blockN ?_ | refine xq_scopeN ?_)
  with_reducible repeat refine xc_seq ?_
  with_reducible refine xc_region ?_
  refine xo_call (fs := []) (cs := []) rfl rfl rfl recordsE_enters rfl (fun w1 hw1 => (recordsE_calls w1).mono ?_)
  rintro e w2 ⟨ζr, br, rfl, hz, hR⟩
  refine ⟨_, _, rfl, hw1.join hz hR.1, ?_⟩
  clear hz hw1
  refine xo_call (fs := []) (cs := []) rfl rfl rfl letters_enters rfl (fun w1 hw1 => (letters_calls w1).mono ?_)
  rintro e w2 ⟨ζl, bl, rfl, hz, hL⟩
  refine ⟨_, _, rfl, hw1.join hz hL.1, ?_⟩
  clear hz hw1
  refine xo_mv rfl rfl rfl ?_
  refine xo_mv rfl rfl rfl ?_
  refine xo_call (fs := []) (cs := []) rfl rfl rfl trustTakes_enters rfl (fun w1 hw1 => (trustTakes_calls (some ⟨br, 0, none⟩) (some ⟨bl, 0, none⟩) 7 3 recsE letsE day id w1 (hR.2 _ _ _ _ hw1 (fun e he => by repeat (first | exact he | exact List.mem_append_left _ he | apply List.mem_append_right | apply List.Mem.tail))) (hL.2 _ _ _ _ hw1 (fun e he => by repeat (first | exact he | exact List.mem_append_left _ he | apply List.mem_append_right | apply List.Mem.tail))) byE byLE).mono ?_)
  rw [h1, h2]
  rintro e w2 ⟨rr, rfl, hrow, hb⟩
  have hrr := hrow.1
  refine ⟨_, _, rfl, hw1.row hb hrow, ?_⟩
  clear hrow hb hw1
  refine xo_mv rfl rfl rfl ?_
  refine xo_ext rfl rfl rfl rfl ?_
  refine xo_ext rfl rfl rfl rfl ?_
  refine xo_asg rfl rfl rfl ?_
  refine xo_asg rfl rfl rfl ?_
  with_reducible refine xo_nil ?_
  with_reducible repeat (first | refine xq_then ?_ | refine xq_blockN ?_ | refine xq_scopeN ?_)
  with_reducible repeat refine xc_seq ?_
  with_reducible refine xc_region ?_
  refine xo_mv rfl rfl rfl ?_
  refine xo_mv rfl rfl rfl ?_
  refine xo_mv rfl rfl rfl ?_
  refine xo_callB (fs := []) (cs := []) rfl rfl rfl is_enters rfl (fun w1 hw1 => isR_calls hw1 (by omega) (hw1.rowAt hrr (fun p hp => by subst hp; exact (by repeat (first | exact List.Mem.head _ | exact List.mem_append_left _ (List.Mem.head _) | apply List.mem_append_right | apply List.Mem.tail)))) B c2 (Kd.C_below hB hw1.kx.below)) ?_
  refine xo_asg rfl rfl rfl ?_
  with_reducible refine xo_nil ?_
  with_reducible repeat (first | refine xq_then ?_ | refine xq_blockN ?_ | refine xq_scopeN ?_)
  with_reducible repeat refine xc_seq ?_
  with_reducible refine xc_ret ?_
  with_reducible repeat (first | refine xq_thenR ?_ | refine xq_blockR ?_ | refine xq_scopeR ?_)
  exact xq_ret1 rfl rfl fun w' hw => ⟨rfl, hw.kx.below⟩
theorem takesE_enters : ∀ args w, (callFunc 21 args).run Tryd.prog w = .ok (.enter 21 args) w := enters_of Tryd.func21 (by kernel_rfl) rfl
theorem restsE_calls (day id : Int) (want : List Int) (B : Option Addr) (c2 : Nat) (w : World) (hB : Kd.C (Kd.int .i64) w B want.length want) (hl : want.length ≤ 100) (h1 : refRestsC recsE letsE day id = 0) (h2 : refRestsR recsE letsE day id = want) :
    Calls Tryd.prog 22 #[.int .i64 day, .int .i64 id, .slice B want.length c2] w fun e w' => e = .returned (.bool true) ∧ Below w.heap.size w w' := by
  refine x_calls (X := XNone) Tryd.func22 rfl rfl rfl ?_
  with_reducible repeat refine xc_seq ?_
  with_reducible refine xc_region ?_
  refine xo_asg rfl rfl rfl ?_
  with_reducible refine xo_nil ?_
  with_reducible repeat (first | refine xq_then ?_ | refine xq_blockN ?_ | refine xq_scopeN ?_)
  with_reducible repeat refine xc_seq ?_
  with_reducible refine xc_region ?_
  refine xo_call (fs := []) (cs := []) rfl rfl rfl recordsE_enters rfl (fun w1 hw1 => (recordsE_calls w1).mono ?_)
  rintro e w2 ⟨ζr, br, rfl, hz, hR⟩
  refine ⟨_, _, rfl, hw1.join hz hR.1, ?_⟩
  clear hz hw1
  refine xo_call (fs := []) (cs := []) rfl rfl rfl letters_enters rfl (fun w1 hw1 => (letters_calls w1).mono ?_)
  rintro e w2 ⟨ζl, bl, rfl, hz, hL⟩
  refine ⟨_, _, rfl, hw1.join hz hL.1, ?_⟩
  clear hz hw1
  refine xo_mv rfl rfl rfl ?_
  refine xo_mv rfl rfl rfl ?_
  refine xo_call (fs := []) (cs := []) rfl rfl rfl trustRests_enters rfl (fun w1 hw1 => (trustRests_calls (some ⟨br, 0, none⟩) (some ⟨bl, 0, none⟩) 7 3 recsE letsE day id w1 (hR.2 _ _ _ _ hw1 (fun e he => by repeat (first | exact he | exact List.mem_append_left _ he | apply List.mem_append_right | apply List.Mem.tail))) (hL.2 _ _ _ _ hw1 (fun e he => by repeat (first | exact he | exact List.mem_append_left _ he | apply List.mem_append_right | apply List.Mem.tail))) byE byLE).mono ?_)
  rw [h1, h2]
  rintro e w2 ⟨rr, rfl, hrow, hb⟩
  have hrr := hrow.1
  refine ⟨_, _, rfl, hw1.row hb hrow, ?_⟩
  clear hrow hb hw1
  refine xo_mv rfl rfl rfl ?_
  refine xo_ext rfl rfl rfl rfl ?_
  refine xo_ext rfl rfl rfl rfl ?_
  refine xo_asg rfl rfl rfl ?_
  refine xo_asg rfl rfl rfl ?_
  with_reducible refine xo_nil ?_
  with_reducible repeat (first | refine xq_then ?_ | refine xq_blockN ?_ | refine xq_scopeN ?_)
  with_reducible repeat refine xc_seq ?_
  with_reducible refine xc_region ?_
  refine xo_mv rfl rfl rfl ?_
  refine xo_mv rfl rfl rfl ?_
  refine xo_mv rfl rfl rfl ?_
  refine xo_callB (fs := []) (cs := []) rfl rfl rfl is_enters rfl (fun w1 hw1 => isR_calls hw1 (by omega) (hw1.rowAt hrr (fun p hp => by subst hp; exact (by repeat (first | exact List.Mem.head _ | exact List.mem_append_left _ (List.Mem.head _) | apply List.mem_append_right | apply List.Mem.tail)))) B c2 (Kd.C_below hB hw1.kx.below)) ?_
  refine xo_asg rfl rfl rfl ?_
  with_reducible refine xo_nil ?_
  with_reducible repeat (first | refine xq_then ?_ | refine xq_blockN ?_ | refine xq_scopeN ?_)
  with_reducible repeat refine xc_seq ?_
  with_reducible refine xc_ret ?_
  with_reducible repeat (first | refine xq_thenR ?_ | refine xq_blockR ?_ | refine xq_scopeR ?_)
  exact xq_ret1 rfl rfl fun w' hw => ⟨rfl, hw.kx.below⟩
theorem restsE_enters : ∀ args w, (callFunc 22 args).run Tryd.prog w = .ok (.enter 22 args) w := enters_of Tryd.func22 (by kernel_rfl) rfl
theorem causesE_calls (day id : Int) (want : List Int) (B : Option Addr) (c2 : Nat) (w : World) (hB : Kd.C (Kd.int .i64) w B want.length want) (hl : want.length ≤ 100) (h1 : refCausesC recsE letsE day id = 0) (h2 : refCausesR recsE letsE day id = want) :
    Calls Tryd.prog 23 #[.int .i64 day, .int .i64 id, .slice B want.length c2] w fun e w' => e = .returned (.bool true) ∧ Below w.heap.size w w' := by
  refine x_calls (X := XNone) Tryd.func23 rfl rfl rfl ?_
  with_reducible repeat refine xc_seq ?_
  with_reducible refine xc_region ?_
  refine xo_asg rfl rfl rfl ?_
  with_reducible refine xo_nil ?_
  with_reducible repeat (first | refine xq_then ?_ | refine xq_blockN ?_ | refine xq_scopeN ?_)
  with_reducible repeat refine xc_seq ?_
  with_reducible refine xc_region ?_
  refine xo_call (fs := []) (cs := []) rfl rfl rfl recordsE_enters rfl (fun w1 hw1 => (recordsE_calls w1).mono ?_)
  rintro e w2 ⟨ζr, br, rfl, hz, hR⟩
  refine ⟨_, _, rfl, hw1.join hz hR.1, ?_⟩
  clear hz hw1
  refine xo_call (fs := []) (cs := []) rfl rfl rfl letters_enters rfl (fun w1 hw1 => (letters_calls w1).mono ?_)
  rintro e w2 ⟨ζl, bl, rfl, hz, hL⟩
  refine ⟨_, _, rfl, hw1.join hz hL.1, ?_⟩
  clear hz hw1
  refine xo_mv rfl rfl rfl ?_
  refine xo_mv rfl rfl rfl ?_
  refine xo_call (fs := []) (cs := []) rfl rfl rfl trustCauses_enters rfl (fun w1 hw1 => (trustCauses_calls (some ⟨br, 0, none⟩) (some ⟨bl, 0, none⟩) 7 3 recsE letsE day id w1 (hR.2 _ _ _ _ hw1 (fun e he => by repeat (first | exact he | exact List.mem_append_left _ he | apply List.mem_append_right | apply List.Mem.tail))) (hL.2 _ _ _ _ hw1 (fun e he => by repeat (first | exact he | exact List.mem_append_left _ he | apply List.mem_append_right | apply List.Mem.tail))) byE byLE).mono ?_)
  rw [h1, h2]
  rintro e w2 ⟨rr, rfl, hrow, hb⟩
  have hrr := hrow.1
  refine ⟨_, _, rfl, hw1.row hb hrow, ?_⟩
  clear hrow hb hw1
  refine xo_mv rfl rfl rfl ?_
  refine xo_ext rfl rfl rfl rfl ?_
  refine xo_ext rfl rfl rfl rfl ?_
  refine xo_asg rfl rfl rfl ?_
  refine xo_asg rfl rfl rfl ?_
  with_reducible refine xo_nil ?_
  with_reducible repeat (first | refine xq_then ?_ | refine xq_blockN ?_ | refine xq_scopeN ?_)
  with_reducible repeat refine xc_seq ?_
  with_reducible refine xc_region ?_
  refine xo_mv rfl rfl rfl ?_
  refine xo_mv rfl rfl rfl ?_
  refine xo_mv rfl rfl rfl ?_
  refine xo_callB (fs := []) (cs := []) rfl rfl rfl is_enters rfl (fun w1 hw1 => isR_calls hw1 (by omega) (hw1.rowAt hrr (fun p hp => by subst hp; exact (by repeat (first | exact List.Mem.head _ | exact List.mem_append_left _ (List.Mem.head _) | apply List.mem_append_right | apply List.Mem.tail)))) B c2 (Kd.C_below hB hw1.kx.below)) ?_
  refine xo_asg rfl rfl rfl ?_
  with_reducible refine xo_nil ?_
  with_reducible repeat (first | refine xq_then ?_ | refine xq_blockN ?_ | refine xq_scopeN ?_)
  with_reducible repeat refine xc_seq ?_
  with_reducible refine xc_ret ?_
  with_reducible repeat (first | refine xq_thenR ?_ | refine xq_blockR ?_ | refine xq_scopeR ?_)
  exact xq_ret1 rfl rfl fun w' hw => ⟨rfl, hw.kx.below⟩
theorem causesE_enters : ∀ args w, (callFunc 23 args).run Tryd.prog w = .ok (.enter 23 args) w := enters_of Tryd.func23 (by kernel_rfl) rfl
/-! ### what the examples answer -/
theorem e_o10 : openF recsE letsE 10 [] = 0 := by decide
theorem e_h10 : holdsR recsE letsE 10 = [2, 4, 5, 6, 7] := by decide
theorem e_o20 : openF recsE letsE 20 [] = 0 := by decide
theorem e_h20 : holdsR recsE letsE 20 = [1, 2, 3, 6] := by decide
theorem e_o104 : openF recsE letsE 10 [4] = 0 := by decide
theorem e_t104 : takesR recsE letsE 10 4 = [4, 5, 6, 7] := by decide
theorem e_rc56 : refRestsC recsE letsE 5 6 = 0 := by decide
theorem e_cc103 : refCausesC recsE letsE 10 3 = 0 := by decide
theorem e_p2 : piecesR recsE movsE 2 = ⟨80, 5, 3, 50, 0, 32⟩ := by rw [← stEq_iff]; decide
theorem e_pc2 : piecesC recsE movsE 2 = 0 := by decide
theorem e_rec10 : recallR recsE letsE movsE 10 = [3] := by decide
theorem e_recn10 : recallN recsE letsE movsE 10 = 15 := by decide
theorem e_recc10 : recallC recsE letsE movsE 10 = 0 := by decide
end Go.Proofs.YtcmepdamemnbkaaDoor
namespace Go.Proofs.YtcmepdamemnbkaaDoor
open Go.RowKit Go.Proofs.YtcmepdamemnbkaaDoorW.PrintWords
set_option linter.unusedVariables false
set_option linter.unusedSimpArgs false
set_option maxRecDepth 100000 in
theorem e_r56 : refRestsR recsE letsE 5 6 = [1, 2, 3, 6] := by decide +kernel
set_option maxRecDepth 100000 in
theorem e_c103 : refCausesR recsE letsE 10 3 = [1] := by decide +kernel
theorem ints_cel {w0 : World} {X : Nat → Prop} {η : Hp} {w : World} (hw : WOK w0 X η w) (b : Nat) (xs : List Int) {vs : List Value} (hm : (b, true, cel vs 3) ∈ η) (hv : vs = xs.map (.int .i64)) (hl : xs.length ≤ 100) : Kd.C (Kd.int .i64) w (some ⟨b, 0, none⟩) xs.length xs := by
  subst hv
  exact C_cel hw hm (by omega)
set_option maxHeartbeats 16000000 in
theorem alive_calls (w : World) (hglob : GlobOK w) : Calls Tryd.prog 19 #[] w fun e w' => e = .returned (.bool true) ∧ Below w.heap.size w w' := by
  have h10 : decide ((0 : Int) = 0) = true := rfl
  have hst : stEq ⟨80, 5, 3, 50, 0, 32⟩ ⟨80, 5, 3, 50, 0, 32⟩ = true := stEq_iff.2 rfl
  refine x_calls (X := XNone) Tryd.func19 rfl rfl rfl ?_
  with_reducible repeat refine xc_seq ?_
  with_reducible refine xc_region ?_
  refine xo_asg rfl rfl rfl ?_
  with_reducible refine xo_nil ?_
  with_reducible repeat (first | refine xq_then ?_ | refine xq_blockN ?_ | refine xq_scopeN ?_)
  with_reducible repeat refine xc_seq ?_
  with_reducible refine xc_region ?_
  refine xo_call (fs := []) (cs := []) rfl rfl rfl recordsE_enters rfl (fun w1 hw1 => (recordsE_calls w1).mono ?_)
  rintro e w2 ⟨ζr, br, rfl, hz, hR⟩
  refine ⟨_, _, rfl, hw1.join hz hR.1, ?_⟩
  clear hz hw1
  refine xo_call (fs := []) (cs := []) rfl rfl rfl movesE_enters rfl (fun w1 hw1 => (movesE_calls w1).mono ?_)
  rintro e w2 ⟨ζm, bm, rfl, hz, hM⟩
  refine ⟨_, _, rfl, hw1.join hz hM.1, ?_⟩
  clear hz hw1
  refine xo_callB (v := .tuple #[.agg (stV ⟨80, 5, 3, 50, 0, 32⟩).toArray, .int .i64 0]) (fs := []) (cs := []) rfl rfl rfl pieces_enters rfl (fun w1 hw1 => by rw [← e_p2, ← e_pc2]; exact pieces_calls (some ⟨br, 0, none⟩) (some ⟨bm, 0, none⟩) 7 6 recsE movsE 2 w1 (hR.2 _ _ _ _ hw1 (fun e he => by repeat (first | exact he | exact List.mem_append_left _ he | apply List.mem_append_right | apply List.Mem.tail))) (hM.2 _ _ _ _ hw1 (fun e he => by repeat (first | exact he | exact List.mem_append_left _ he | apply List.mem_append_right | apply List.Mem.tail))) byE byME (hglob.below hw1.kx.below)) ?_
  refine xo_mv rfl rfl rfl ?_
  refine xo_ext rfl rfl rfl rfl ?_
  refine xo_ext rfl rfl rfl rfl ?_
  refine xo_alloc T_ rfl rfl rfl rfl (fun b1 => ?_)
  refine xo_store T_ rfl rfl rfl rfl (by repeat (first | exact List.Mem.head _ | apply List.Mem.tail | apply List.mem_append_right)) rfl rfl rfl rfl (by repeat (first | exact Upd.head | apply Upd.tail | apply Upd.app)) rfl ?_
  refine xo_asg rfl rfl rfl ?_
  with_reducible refine xo_nil ?_
  with_reducible repeat (first | refine xq_then ?_ | refine xq_blockN ?_ | refine xq_scopeN ?_)
  with_reducible repeat refine xc_seq ?_
  with_reducible refine xc_region ?_
  refine xo_call (fs := []) (cs := []) rfl rfl rfl recordsE_enters rfl (fun w1 hw1 => (recordsE_calls w1).mono ?_)
  rintro e w2 ⟨ζr2, br2, rfl, hz, hR2⟩
  refine ⟨_, _, rfl, hw1.join hz hR2.1, ?_⟩
  clear hz hw1
  refine xo_call (fs := []) (cs := []) rfl rfl rfl letters_enters rfl (fun w1 hw1 => (letters_calls w1).mono ?_)
  rintro e w2 ⟨ζl, bl, rfl, hz, hL⟩
  refine ⟨_, _, rfl, hw1.join hz hL.1, ?_⟩
  clear hz hw1
  refine xo_call (fs := []) (cs := []) rfl rfl rfl movesE_enters rfl (fun w1 hw1 => (movesE_calls w1).mono ?_)
  rintro e w2 ⟨ζm2, bm2, rfl, hz, hM2⟩
  refine ⟨_, _, rfl, hw1.join hz hM2.1, ?_⟩
  clear hz hw1
  refine xo_call (fs := []) (cs := []) rfl rfl rfl recall_enters rfl (fun w1 hw1 => (recall_calls (some ⟨br2, 0, none⟩) (some ⟨bl, 0, none⟩) (some ⟨bm2, 0, none⟩) 7 3 6 recsE letsE movsE 10 w1 (hR2.2 _ _ _ _ hw1 (fun e he => by repeat (first | exact he | exact List.mem_append_left _ he | apply List.mem_append_right | apply List.Mem.tail))) (hL.2 _ _ _ _ hw1 (fun e he => by repeat (first | exact he | exact List.mem_append_left _ he | apply List.mem_append_right | apply List.Mem.tail))) (hM2.2 _ _ _ _ hw1 (fun e he => by repeat (first | exact he | exact List.mem_append_left _ he | apply List.mem_append_right | apply List.Mem.tail))) byE byLE byME (hglob.below hw1.kx.below)).mono ?_)
  rw [e_rec10, e_recn10, e_recc10]
  rintro e w2 ⟨rr, rfl, hrow, hb⟩
  have hrr := hrow.1
  refine ⟨_, _, rfl, hw1.row hb hrow, ?_⟩
  clear hrow hb hw1
  refine xo_mv rfl rfl rfl ?_
  refine xo_ext rfl rfl rfl rfl ?_
  refine xo_ext rfl rfl rfl rfl ?_
  refine xo_ext rfl rfl rfl rfl ?_
  refine xo_asg rfl rfl rfl ?_
  refine xo_asg rfl rfl rfl ?_
  refine xo_asg rfl rfl rfl ?_
  with_reducible refine xo_nil ?_
  with_reducible repeat (first | refine xq_then ?_ | refine xq_blockN ?_ | refine xq_scopeN ?_)
  with_reducible repeat refine xc_seq ?_
  with_reducible refine xc_region ?_
  refine xo_bsG T_ 1 rfl rfl rfl rfl rfl rfl rfl rfl rfl rfl (fun b20 => ?_)
  refine xo_callB (fs := []) (cs := []) rfl rfl rfl onE_enters rfl (fun w1 hw1 => onE_calls 10 [2, 4, 5, 6, 7] (some ⟨b20, 0, none⟩) 5 w1 (ints_cel hw1 b20 [2, 4, 5, 6, 7] (by repeat (first | exact List.Mem.head _ | apply List.Mem.tail | apply List.mem_append_right)) rfl (by decide)) (by decide) e_o10 e_h10) ?_
  refine xo_mv rfl rfl rfl ?_
  first
    | refine xo_not rfl rfl ?_
    | (refine xo_bsG T_ 1 rfl rfl rfl rfl rfl rfl rfl rfl rfl rfl (fun b23 => ?_))
  first
    | refine xo_not rfl rfl ?_
    | (refine xo_callB (fs := []) (cs := []) rfl rfl rfl onE_enters rfl (fun w1 hw1 => onE_calls 20 [1, 2, 3, 6] (some ⟨b23, 0, none⟩) 4 w1 (ints_cel hw1 b23 [1, 2, 3, 6] (by repeat (first | exact List.Mem.head _ | apply List.Mem.tail | apply List.mem_append_right)) rfl (by decide)) (by decide) e_o20 e_h20) ?_)
  first | refine xo_pickT rfl rfl rfl rfl ?_ | refine xo_pickF rfl rfl rfl rfl ?_
  refine xo_mv rfl rfl rfl ?_
  first
    | refine xo_not rfl rfl ?_
    | (refine xo_bsG T_ 1 rfl rfl rfl rfl rfl rfl rfl rfl rfl rfl (fun b27 => ?_))
  first
    | refine xo_not rfl rfl ?_
    | (refine xo_callB (fs := []) (cs := []) rfl rfl rfl takesE_enters rfl (fun w1 hw1 => takesE_calls 10 4 [4, 5, 6, 7] (some ⟨b27, 0, none⟩) 4 w1 (ints_cel hw1 b27 [4, 5, 6, 7] (by repeat (first | exact List.Mem.head _ | apply List.Mem.tail | apply List.mem_append_right)) rfl (by decide)) (by decide) e_o104 e_t104) ?_)
  first | refine xo_pickT rfl rfl rfl rfl ?_ | refine xo_pickF rfl rfl rfl rfl ?_
  refine xo_mv rfl rfl rfl ?_
  first
    | refine xo_not rfl rfl ?_
    | (refine xo_bsG T_ 1 rfl rfl rfl rfl rfl rfl rfl rfl rfl rfl (fun b31 => ?_))
  first
    | refine xo_not rfl rfl ?_
    | (refine xo_callB (fs := []) (cs := []) rfl rfl rfl restsE_enters rfl (fun w1 hw1 => restsE_calls 5 6 [1, 2, 3, 6] (some ⟨b31, 0, none⟩) 4 w1 (ints_cel hw1 b31 [1, 2, 3, 6] (by repeat (first | exact List.Mem.head _ | apply List.Mem.tail | apply List.mem_append_right)) rfl (by decide)) (by decide) e_rc56 e_r56) ?_)
  first | refine xo_pickT rfl rfl rfl rfl ?_ | refine xo_pickF rfl rfl rfl rfl ?_
  refine xo_mv rfl rfl rfl ?_
  first
    | refine xo_not rfl rfl ?_
    | (refine xo_bs1 T_ rfl rfl rfl rfl rfl rfl rfl rfl (fun b35 => ?_))
  first
    | refine xo_not rfl rfl ?_
    | (refine xo_callB (fs := []) (cs := []) rfl rfl rfl causesE_enters rfl (fun w1 hw1 => causesE_calls 10 3 [1] (some ⟨b35, 0, none⟩) 1 w1 (ints_cel hw1 b35 [1] (by repeat (first | exact List.Mem.head _ | apply List.Mem.tail | apply List.mem_append_right)) rfl (by decide)) (by decide) e_cc103 e_c103) ?_)
  first | refine xo_pickT rfl rfl rfl rfl ?_ | refine xo_pickF rfl rfl rfl rfl ?_
  refine xo_mv rfl rfl rfl ?_
  first
    | refine xo_not rfl rfl ?_
    | (refine xo_mv rfl rfl rfl ?_)
  first
    | refine xo_not rfl rfl ?_
    | (refine xo_eql rfl rfl rfl rfl ?_)
  refine xo_as (i := 40) rfl (congrArg Value.bool h10) ?_
  first | refine xo_pickT rfl rfl rfl rfl ?_ | refine xo_pickF rfl rfl rfl rfl ?_
  refine xo_mv rfl rfl rfl ?_
  first
    | refine xo_not rfl rfl ?_
    | (refine xo_loadN T_ rfl rfl rfl (by repeat (first | exact List.Mem.head _ | exact List.mem_append_left _ (List.Mem.head _) | apply List.mem_append_right | apply List.Mem.tail)) rfl rfl ?_)
  first
    | refine xo_not rfl rfl ?_
    | (refine xo_build TB_ rfl rfl rfl rfl rfl ?_)
  first
    | refine xo_not rfl rfl ?_
    | (refine xo_eqlSt (a := ⟨80, 5, 3, 50, 0, 32⟩) (b := ⟨80, 5, 3, 50, 0, 32⟩) rfl rfl rfl rfl ?_)
  refine xo_as (i := 45) rfl (congrArg Value.bool hst) ?_
  first | refine xo_pickT rfl rfl rfl rfl ?_ | refine xo_pickF rfl rfl rfl rfl ?_
  refine xo_mv rfl rfl rfl ?_
  first
    | refine xo_not rfl rfl ?_
    | (refine xo_mv rfl rfl rfl ?_)
  first
    | refine xo_not rfl rfl ?_
    | (refine xo_mv rfl rfl rfl ?_)
  first
    | refine xo_not rfl rfl ?_
    | (refine xo_bs1 T_ rfl rfl rfl rfl rfl rfl rfl rfl (fun b50 => ?_))
  first
    | refine xo_not rfl rfl ?_
    | (refine xo_callB (fs := []) (cs := []) rfl rfl rfl is_enters rfl (fun w1 hw1 => isR_calls (xs := [3]) hw1 (by decide) (hw1.rowAt hrr (fun p hp => by subst hp; exact (by repeat (first | exact List.Mem.head _ | exact List.mem_append_left _ (List.Mem.head _) | apply List.mem_append_right | apply List.Mem.tail)))) (some ⟨b50, 0, none⟩) 1 (ints_cel hw1 b50 [3] (by repeat (first | exact List.Mem.head _ | apply List.Mem.tail | apply List.mem_append_right)) rfl (by decide))) ?_)
  first | refine xo_pickT rfl rfl rfl rfl ?_ | refine xo_pickF rfl rfl rfl rfl ?_
  refine xo_mv rfl rfl rfl ?_
  first
    | refine xo_not rfl rfl ?_
    | (refine xo_mv rfl rfl rfl ?_)
  first
    | refine xo_not rfl rfl ?_
    | (refine xo_eql rfl rfl rfl rfl ?_)
  first | refine xo_pickT rfl rfl rfl rfl ?_ | refine xo_pickF rfl rfl rfl rfl ?_
  refine xo_asg rfl rfl rfl ?_
  with_reducible refine xo_nil ?_
  with_reducible repeat (first | refine xq_then ?_ | refine xq_blockN ?_ | refine xq_scopeN ?_)
  with_reducible repeat refine xc_seq ?_
  with_reducible refine xc_ret ?_
  with_reducible repeat (first | refine xq_thenR ?_ | refine xq_blockR ?_ | refine xq_scopeR ?_)
  exact xq_ret1 rfl rfl fun w' hw => ⟨rfl, hw.kx.below⟩
theorem alive_enters : ∀ args w, (callFunc 19 args).run Tryd.prog w = .ok (.enter 19 args) w := enters_of Tryd.func19 (by kernel_rfl) rfl
end Go.Proofs.YtcmepdamemnbkaaDoor
namespace Go.Proofs.YtcmepdamemnbkaaDoor
open Go.RowKit
set_option linter.unusedVariables false
set_option linter.unusedSimpArgs false
/-- what the i-th may read of the old values: their writers wait for it -/
def volB (ops : List Oper) (i k : Nat) : Bool := ops.any fun o => (o.dst == some k) && (depOf o).contains i
def volS (ops : List Oper) (i : Nat) (ρ : Slots) : Slots := ρ.filter fun p => volB ops i p.1
section
variable {P : Program} {ro : Option Nat} {n N : Nat} {ds : List Deferred} {w0 : World} {X : Nat → Prop} {Q : Exit → Act → World → Prop} {σ : Slots} {η : Hp}
def DrawV (P : Program) (ro : Option Nat) (n N : Nat) (ds : List Deferred) (w0 : World) (X : Nat → Prop) (ops : List Oper) (vs : List Value) (ρ σ : Slots) (η : Hp) : Nat → List Oper → List Value → Prop
  | i, o :: r, v :: vr => (∀ τ, XO P ro n N ds w0 X (OnePost N ds w0 X η (putS o.dst v (flatS ops vs (depOf o) σ ++ (volS ops i ρ ++ τ)))) ops (flatS ops vs (depOf o) σ ++ (volS ops i ρ ++ τ)) η [o]) ∧ DrawV P ro n N ds w0 X ops vs ρ σ η (i + 1) r vr
  | _, _, _ => True
theorem DrawV.nil {ops : List Oper} {vs : List Value} {ρ : Slots} {i : Nat} : DrawV P ro n N ds w0 X ops vs ρ σ η i [] [] := trivial
theorem DrawV.cons {ops : List Oper} {vs : List Value} {ρ : Slots} {i : Nat} {o : Oper} {r : List Oper} {v : Value} {vr : List Value} (h : ∀ τ, XO P ro n N ds w0 X (OnePost N ds w0 X η (putS o.dst v (flatS ops vs (depOf o) σ ++ (volS ops i ρ ++ τ)))) ops (flatS ops vs (depOf o) σ ++ (volS ops i ρ ++ τ)) η [o])
    (t : DrawV P ro n N ds w0 X ops vs ρ σ η (i + 1) r vr) : DrawV P ro n N ds w0 X ops vs ρ σ η i (o :: r) (v :: vr) := ⟨h, t⟩
end
end Go.Proofs.YtcmepdamemnbkaaDoor
namespace Go.Proofs.YtcmepdamemnbkaaDoor
open Go.ChangeShapes Go.WideShapes Go.RowKit
set_option linter.unusedVariables false
set_option linter.unusedSimpArgs false
def laidL : List (String × DataW Unit) := [("cottonpad/trust.adds", Rows.laid_cottonpad_trust_adds)]
theorem gAdds : Tryd.prog.globalNamed "cottonpad/trust.adds" = some 0 := by kernel_rfl
theorem tAdds : (Tryd.prog.globals[0]?).map (·.type) = some 107 := by kernel_rfl
theorem door_met (os : Os) (args : Array Value) : laidMetH Tryd.prog laidL ((World.doorLaid Tryd.prog 400 os).forCall (fun _ _ => 0) ⟨#[], args, []⟩).memory :=
  laidMetH_of_parts3 (fuel := 8) (laidMet_of_run' 8 (by kernel_rfl) (by kernel_rfl)) (by kernel_rfl) (by kernel_rfl)
theorem trod_six {P : Program} {H : Type} {enc : TypeId × Value → H} {w : World} {fuel : Nat} {t te : TypeId} {a0 a1 a2 a3 a4 a5 : Value} {d : DataW H} {ps : List MemPlace}
    (ht : P.underlying t = some (.array 6 te)) (hE : P.cellsOf te = 1)
    (h : DataW.trod enc P w 0 (fun _ => true) true (fuel + 1) t [a0, a1, a2, a3, a4, a5] = some (d, ps)) :
    ∃ x0 x1 x2 x3 x4 x5, DataW.trod enc P w 0 (fun _ => true) true fuel te [a1] = some x1 ∧ DataW.trod enc P w 0 (fun _ => true) true fuel te [a2] = some x2 ∧ DataW.trod enc P w 0 (fun _ => true) true fuel te [a3] = some x3 ∧ DataW.trod enc P w 0 (fun _ => true) true fuel te [a4] = some x4 ∧ DataW.trod enc P w 0 (fun _ => true) true fuel te [a5] = some x5 ∧
      d = .agg [x0, x1.1, x2.1, x3.1, x4.1, x5.1] := by
  unfold DataW.trod at h
  rw [ht] at h
  simp only [List.length_cons, List.length_nil] at h
  split at h
  · simp only [show List.range 6 = [0, 1, 2, 3, 4, 5] from rfl, List.mapM_cons, List.mapM_nil, hE, Nat.mul_one, List.drop_zero, List.take_succ_cons, List.take_zero, List.drop_succ_cons, Option.map_eq_some_iff] at h
    obtain ⟨xs, h, e'⟩ := h
    cases h0 : DataW.trod enc P w 0 (fun _ => true) true fuel te [a0] with
    | none => simp [h0] at h
    | some x0 =>
      cases h1 : DataW.trod enc P w 0 (fun _ => true) true fuel te [a1] with
      | none => simp [h0, h1] at h
      | some x1 =>
        cases h2 : DataW.trod enc P w 0 (fun _ => true) true fuel te [a2] with
        | none => simp [h0, h1, h2] at h
        | some x2 =>
          cases h3 : DataW.trod enc P w 0 (fun _ => true) true fuel te [a3] with
          | none => simp [h0, h1, h2, h3] at h
          | some x3 =>
            cases h4 : DataW.trod enc P w 0 (fun _ => true) true fuel te [a4] with
            | none => simp [h0, h1, h2, h3, h4] at h
            | some x4 =>
              cases h5 : DataW.trod enc P w 0 (fun _ => true) true fuel te [a5] with
              | none => simp [h0, h1, h2, h3, h4, h5] at h
              | some x5 =>
                simp [h0, h1, h2, h3, h4, h5] at h
                subst h
                simp at e'
                exact ⟨x0.1, x1, x2, x3, x4, x5, rfl, rfl, rfl, rfl, rfl, e'.1.symm⟩
  · simp at h
theorem trod_len {P : Program} {H : Type} {enc : TypeId × Value → H} {w : World} {fuel : Nat} {t te : TypeId} {n : Nat} {l : List Value} {x : DataW H × List MemPlace}
    (ht : P.underlying t = some (.array n te)) (h : DataW.trod enc P w 0 (fun _ => true) true fuel t l = some x) : l.length = P.cellsOf t := by
  cases fuel with
  | zero => simp [DataW.trod] at h
  | succ m =>
    by_cases hl : l.length = P.cellsOf t
    · exact hl
    · exfalso
      unfold DataW.trod at h
      rw [ht] at h
      simp [hl] at h
set_option maxRecDepth 100000 in
theorem glob_of_laid {W : World} (h : laidMetH Tryd.prog laidL W) : GlobOK W := by
  obtain ⟨g, t, cs, fuel, p, hg, ht, hv, hd⟩ := h.funcs (n := "cottonpad/trust.adds") (List.mem_cons_self ..)
  obtain rfl := Option.some.inj (gAdds.symm.trans hg)
  obtain rfl := Option.some.inj (tAdds.symm.trans ht)
  have hd' : DataW.trod (funcToken Tryd.prog) Tryd.prog W 0 (fun _ => true) true fuel 107 cs.toList = some (.agg [.nil, DataW.held [99, 111, 116, 116, 111, 110, 112, 97, 100, 47, 116, 114, 117, 115, 116, 46, 97, 100, 100, 115, 36, 49], DataW.held [99, 111, 116, 116, 111, 110, 112, 97, 100, 47, 116, 114, 117, 115, 116, 46, 97, 100, 100, 115, 36, 50], DataW.held [99, 111, 116, 116, 111, 110, 112, 97, 100, 47, 116, 114, 117, 115, 116, 46, 97, 100, 100, 115, 36, 51], DataW.held [99, 111, 116, 116, 111, 110, 112, 97, 100, 47, 116, 114, 117, 115, 116, 46, 97, 100, 100, 115, 36, 52], DataW.held [99, 111, 116, 116, 111, 110, 112, 97, 100, 47, 116, 114, 117, 115, 116, 46, 97, 100, 100, 115, 36, 53]], p) := hd
  have hlen : cs.toList.length = 6 := (trod_len Tryd.underlying107 hd').trans (by kernel_rfl)
  obtain ⟨l⟩ := cs
  match l, hlen with
  | [a0, a1, a2, a3, a4, a5], _ =>
    cases fuel with
    | zero => simp [DataW.trod] at hd'
    | succ n =>
      obtain ⟨x0, x1, x2, x3, x4, x5, h1, h2, h3, h4, h5, e⟩ := trod_six (te := 106) Tryd.underlying107 (by kernel_rfl) hd'
      simp only [DataW.agg.injEq, List.cons.injEq, and_true] at e
      obtain ⟨_, e1, e2, e3, e4, e5⟩ := e
      obtain ⟨x1d, x1p⟩ := x1
      obtain ⟨x2d, x2p⟩ := x2
      obtain ⟨x3d, x3p⟩ := x3
      obtain ⟨x4d, x4p⟩ := x4
      obtain ⟨x5d, x5p⟩ := x5
      simp only at e1 e2 e3 e4 e5
      subst e1 e2 e3 e4 e5
      obtain rfl := func_of_trod (f0 := 122) Tryd.underlying106 (by kernel_rfl) h1
      obtain rfl := func_of_trod (f0 := 123) Tryd.underlying106 (by kernel_rfl) h2
      obtain rfl := func_of_trod (f0 := 124) Tryd.underlying106 (by kernel_rfl) h3
      obtain rfl := func_of_trod (f0 := 125) Tryd.underlying106 (by kernel_rfl) h4
      obtain rfl := func_of_trod (f0 := 126) Tryd.underlying106 (by kernel_rfl) h5
      unfold World.var? at hv
      rw [gAdds] at hv
      simp only [Option.bind_some] at hv
      cases hh : W.heap[0]? with
      | none => simp [hh] at hv
      | some o =>
        cases o <;> simp [hh] at hv
        subst hv
        intro k hk1 hk2
        have hc : ∀ i (v : Value), [a0, .func (.func 122) #[] #[], .func (.func 123) #[] #[], .func (.func 124) #[] #[], .func (.func 125) #[] #[], .func (.func 126) #[] #[]][i]? = some v → W.cell? ⟨0, i, none⟩ = some v := fun i v h => by
          unfold World.cell?
          rw [hh]
          simpa using h
        rcases (show k = 1 ∨ k = 2 ∨ k = 3 ∨ k = 4 ∨ k = 5 by omega) with rfl | rfl | rfl | rfl | rfl
        all_goals exact hc _ _ rfl
end Go.Proofs.YtcmepdamemnbkaaDoor
namespace Go.Proofs.YtcmepdamemnbkaaDoor
open Go.RowKit Go.Proofs.YtcmepdamemnbkaaDoorW.PrintWords
set_option linter.unusedVariables false
set_option linter.unusedSimpArgs false
theorem setR_calls {w0 w : World} {X : Nat → Prop} {η : Hp} (hw : WOK w0 X η w) {rr : RowR} {xs : List Int} (hl : xs.length ≤ 1000000) (h1 : RowAt 3 0 w rr xs) (hs : xs.Pairwise fun a b => a < b) :
    Calls Tryd.prog 35 ([] ++ [valR rr xs.length] ++ []).toArray w fun e w' => ∃ M, e = .returned (.tuple #[.map (some M), .bool true]) ∧ WOK w XNone [(M, true, hmap (setV xs))] w' := by
  obtain ⟨A, c, e1, _, hA⟩ := h1.C (by omega)
  rw [e1]
  exact set_calls A c xs w hA hs
theorem u32_of {n : Int} (h : (Lit.int .u32 n).wf = true) : 0 ≤ n ∧ n ≤ 4294967295 := by
  simp only [Lit.wf, Bool.and_eq_true, decide_eq_true_eq] at h
  exact h
/-- what is asked once records and letters are ready: a day, a record -/
theorem open_ok {r : List RecT} {l : List LetT} {d : Int} (h : checkF r l = 0) (hd : 0 ≤ d ∧ d ≤ 100000) : openF r l d [] = 0 := by
  rw [openF_day h, if_pos (by simp [inF, hd.1, hd.2])]
theorem open_ok1 {r : List RecT} {l : List LetT} {d id : Int} (h : checkF r l = 0) (hd : 0 ≤ d ∧ d ≤ 100000) (hid : knownF r id = true) : openF r l d [id] = 0 := by
  rw [openF, if_pos h, if_pos (by simp [inF, hd.1, hd.2]), if_pos (by simp [hid])]
end Go.Proofs.YtcmepdamemnbkaaDoor
namespace Go.Proofs.YtcmepdamemnbkaaDoor
open Go.RowKit Go.Proofs.YtcmepdamemnbkaaDoorW.PrintWords
def oneL (l : List LetT) (d id : Int) : List LetT := l ++ [⟨nextN l, d, id, 1⟩]
theorem more_check1 {r : List RecT} {l : List LetT} {d id : Int} (h : checkF r l = 0) (hd : 0 ≤ d ∧ d ≤ 100000) (hid : knownF r id = true) (hn : nextB l = true) : checkF r (oneL l d id) = 0 := check_more h hn hd hid ⟨by decide, by decide⟩
end Go.Proofs.YtcmepdamemnbkaaDoor
namespace Go.Proofs.YtcmepdamemnbkaaDoor
open Go.RowKit Go.Proofs.YtcmepdamemnbkaaDoorW.PrintWords
set_option linter.unusedVariables false
set_option linter.unusedSimpArgs false
section
variable {P : Program} {ro : Option Nat} {n N : Nat} {ds : List Deferred} {w0 : World} {X : Nat → Prop} {Q : Exit → Act → World → Prop} {σ : Slots} {η : Hp} {ops rest : List Oper} {d : Option Tmp} {ty : TypeId} {pos : String} {aft : Array Edge} {g : Option (Nat × Bool)} {x y : Operand} {t t' : TypeId}
/-- a list behind an own one -/
theorem xo_cat {α : Type} (f : α → List Value) {sz : Nat} (hf : ∀ x, (f x).length = sz) (hone : ∀ x, ∀ u ∈ f x, u.oneCell' = true) (l0 l : List α) (T : TysR P) {t e : TypeId} {s x : Operand} {z : Value} {by_ c b0 cap0 : Nat} {A : Option Addr} {η0 : Hp} (hg : gS ops σ g = some true) (ht : look t T.el = some e) (hi : look e T.inf = some (z, sz, by_)) (hzs : z.cells.toList.length = sz) (hsz : Nat.blt 0 sz = true)
    (hs : ev σ s = some (.slice (some ⟨b0, 0, none⟩) l0.length cap0)) (hx : ev σ x = some (.slice A l.length c)) (hη : η = (b0, true, orow e sz l0.length cap0 (l0.map f).flatten) :: η0) (hA : A = none → l.length = 0) (hnews : ∀ p, A = some p → ∀ w, WOK w0 X η w → ∀ j u, (l.map f).flatten[j]? = some u → w.cell? (p.add j) = some u)
    (hb : (l0.length + l.length) * by_ ≤ 140737488355328) (hb0 : Nat.blt 0 by_ = true) (hN : dstOK N d = true)
    (h : ∀ b cap, XO P ro n N ds w0 X Q ops (putS d (.slice (some ⟨b, 0, none⟩) (l0 ++ l).length cap) σ) ((b, true, orow e sz (l0 ++ l).length cap ((l0 ++ l).map f).flatten) :: η0) rest) :
    XO P ro n N ds w0 X Q ops σ η (⟨d, .call { callee := .builtin .append, args := #[s, x], argTypes := #[t, t] }, ty, pos, aft, g⟩ :: rest) := by
  refine xo_appN T (r := some (b0, cap0)) (m := l0.length) (xs := (l0.map f).flatten) (news := (l.map f).flatten) (η0 := η0) hg ht hi hzs hsz hs hx hη (flat_map_len f sz hf l0) (flat_map_len f sz hf l) hA hnews (fun u hu => by
    obtain ⟨c, hc, hu⟩ := List.mem_flatten.1 hu
    obtain ⟨q, _, rfl⟩ := List.mem_map.1 hc
    exact hone q u hu) (fun q => by cases q) hb hb0 hN fun r' hr' => ?_
  rcases r' with _ | ⟨b, cap⟩
  · exact absurd (hr' rfl).1 (by simp)
  · have := h b cap
    rw [List.length_append, List.map_append, List.flatten_append] at this
    exact this
theorem xo_cpy {α : Type} (f : α → List Value) {sz : Nat} (hf : ∀ x, (f x).length = sz) (hone : ∀ x, ∀ u ∈ f x, u.oneCell' = true) (l : List α) (T : TysR P) {t e : TypeId} {s x : Operand} {z : Value} {by_ c b0 : Nat} {A : Option Addr} {η0 : Hp} (hg : gS ops σ g = some true) (ht : look t T.el = some e) (hi : look e T.inf = some (z, sz, by_)) (hzs : z.cells.toList.length = sz) (hsz : Nat.blt 0 sz = true)
    (hs : ev σ s = some (.slice (some ⟨b0, 0, none⟩) 0 0)) (hx : ev σ x = some (.slice A l.length c)) (hη : η = (b0, true, orow e sz 0 0 []) :: η0) (hA : A = none → l.length = 0) (hnews : ∀ p, A = some p → ∀ w, WOK w0 X η w → ∀ j u, (l.map f).flatten[j]? = some u → w.cell? (p.add j) = some u)
    (hb : l.length * by_ ≤ 140737488355328) (hb0 : Nat.blt 0 by_ = true) (hN : dstOK N d = true)
    (h : ∀ b cap, XO P ro n N ds w0 X Q ops (putS d (.slice (some ⟨b, 0, none⟩) l.length cap) σ) ((b, true, orow e sz l.length cap (l.map f).flatten) :: η0) rest) :
    XO P ro n N ds w0 X Q ops σ η (⟨d, .call { callee := .builtin .append, args := #[s, x], argTypes := #[t, t] }, ty, pos, aft, g⟩ :: rest) :=
  xo_cat f hf hone [] l T hg ht hi hzs hsz hs hx hη hA hnews (by rw [List.length_nil, Nat.zero_add]; exact hb) hb0 hN h
/-- one more -/
theorem xo_one {α : Type} (f : α → List Value) {sz : Nat} (hf : ∀ x, (f x).length = sz) (l : List α) (q : α) (hone : (f q).all (·.oneCell') = true) (T : TysR P) {t e : TypeId} {s x : Operand} {z : Value} {by_ b0 b1 cap0 : Nat} {wr : Bool} {η0 : Hp} (hg : gS ops σ g = some true) (ht : look t T.el = some e) (hi : look e T.inf = some (z, sz, by_)) (hzs : z.cells.toList.length = sz) (hsz : Nat.blt 0 sz = true)
    (hs : ev σ s = some (.slice (some ⟨b0, 0, none⟩) l.length cap0)) (hx : ev σ x = some (.slice (some ⟨b1, 0, none⟩) 1 1)) (hη : η = (b1, wr, cel (f q) e) :: (b0, true, orow e sz l.length cap0 (l.map f).flatten) :: η0)
    (hb : (l.length + 1) * by_ ≤ 140737488355328) (hb0 : Nat.blt 0 by_ = true) (hN : dstOK N d = true)
    (h : ∀ b cap, XO P ro n N ds w0 X Q ops (putS d (.slice (some ⟨b, 0, none⟩) (l ++ [q]).length cap) σ) ((b, true, orow e sz (l ++ [q]).length cap ((l ++ [q]).map f).flatten) :: η0) rest) :
    XO P ro n N ds w0 X Q ops σ η (⟨d, .call { callee := .builtin .append, args := #[s, x], argTypes := #[t, t] }, ty, pos, aft, g⟩ :: rest) := by
  refine xo_app T (r := some (b0, cap0)) (m := l.length) (xs := (l.map f).flatten) (news := f q) (η0 := η0) hg ht hi hzs hsz hs hx hη (flat_map_len f sz hf l) (hf q) hone (fun q => by cases q) hb hb0 hN fun r' hr' => ?_
  rcases r' with _ | ⟨b, cap⟩
  · exact absurd rfl hr'
  · have := h b cap
    rw [List.length_append, List.map_append, List.flatten_append] at this
    simp only [List.map_cons, List.map_nil, List.flatten_cons, List.flatten_nil, List.append_nil] at this
    exact this
end
theorem cells_map {α : Type} {f : α → List Value} {cells : List (List Value)} {l : List α} (hl : cells.length = l.length) (h : ∀ (j : Nat) (x : α) (c : List Value), l[j]? = some x → cells[j]? = some c → c = f x) : cells = l.map f := by
  apply List.ext_getElem?
  intro i
  rw [List.getElem?_map]
  by_cases hi : i < l.length
  · rw [List.getElem?_eq_getElem (show i < cells.length by omega), List.getElem?_eq_getElem hi, Option.map_some]
    exact congrArg some (h i _ _ (List.getElem?_eq_getElem hi) (List.getElem?_eq_getElem (by omega)))
  · rw [List.getElem?_eq_none (by omega), List.getElem?_eq_none (by omega)]
    rfl
theorem let_news {w : World} {p : Addr} {l : List LetT} (h : Kd.C letK w (some p) l.length l) : ∀ (j : Nat) (u : Value), (l.map letV).flatten[j]? = some u → w.cell? (p.add j) = some u := by
  obtain ⟨cells, h1, _, h3, h4⟩ := C_cells h (by decide)
  obtain rfl := cells_map h1 fun j x c hx hc => k52_open (h3 j x c hx hc)
  exact h4 p rfl
theorem C_none {α : Type} {d : Kd α} {w : World} {A : Option Addr} {l : List α} (h : Kd.C d w A l.length l) (e : A = none) : l.length = 0 := by
  subst e
  by_cases h0 : l.length = 0
  · exact h0
  · obtain ⟨ad, e, _⟩ := h.2.2 (by omega)
    cases e
theorem let_one (x : LetT) : ∀ u ∈ letV x, u.oneCell' = true := by simp [letV, Value.oneCell']
theorem let_read {w0 w : World} {X : Nat → Prop} {η : Hp} (hw : WOK w0 X η w) {b cap : Nat} {l : List LetT} (hm : (b, true, orow 52 4 l.length cap (l.map letV).flatten) ∈ η) (hlen : l.length ≤ 1000000) : Kd.C letK w (some ⟨b, 0, none⟩) l.length l := by
  obtain ⟨o, h1, h2⟩ := hw.bl _ hm
  refine C_row (d := letK) (cells := l.map letV) (cap := cap) h1 (e := 52) (by rw [List.length_map]; exact h2) (by simp) (fun c hc => by obtain ⟨x, _, rfl⟩ := List.mem_map.1 hc; rfl) (fun j x c hx hcx => ?_) (by omega)
  rw [List.getElem?_map, hx] at hcx
  cases hcx
  exact k52_mk w x
end Go.Proofs.YtcmepdamemnbkaaDoor
namespace Go.Proofs.YtcmepdamemnbkaaDoor
open Go.RowKit Go.Proofs.YtcmepdamemnbkaaDoorW.PrintWords
end Go.Proofs.YtcmepdamemnbkaaDoor
namespace Go.Proofs.YtcmepdamemnbkaaDoor
open Go.RowKit Go.Proofs.YtcmepdamemnbkaaDoorW.PrintWords
set_option linter.unusedVariables false
set_option linter.unusedSimpArgs false
end Go.Proofs.YtcmepdamemnbkaaDoor
namespace Go.Proofs.YtcmepdamemnbkaaDoor
open Go.RowKit Go.Proofs.YtcmepdamemnbkaaDoorW.PrintWords
end Go.Proofs.YtcmepdamemnbkaaDoor
namespace Go.Proofs.YtcmepdamemnbkaaDoor
open Go.RowKit Go.Proofs.YtcmepdamemnbkaaDoorW.PrintWords
theorem ad4 (b i j : Nat) : (Addr.add (Addr.add ⟨b, 0, none⟩ ((i : Int).toNat * szN 4)) j) = ⟨b, i * 4 + j, none⟩ := by
  rw [Addr.add_lit, Addr.add_lit, show szN 4 = 4 from rfl]
  simp
end Go.Proofs.YtcmepdamemnbkaaDoor
namespace Go.Proofs.YtcmepdamemnbkaaDoor
open Go.RowKit Go.Proofs.YtcmepdamemnbkaaDoorW.PrintWords
set_option linter.unusedVariables false
set_option linter.unusedSimpArgs false
theorem outF_none {r : List RecT} (hs : SortedIds r) {m : List MovT} (hcf : countF r m = true) {k : Nat} (hk : k < r.length) (h3 : ¬ (r.getD k zRec).f1 = 3) : outF m (idAt r k) = 0 := by
  have hb := batch_mem hs hk
  rw [decide_eq_false h3, decide_eq_false_iff_not] at hb
  rw [countF, Bool.and_eq_true] at hcf
  rw [outF, storeF_none (fun x hx e => hb (by rw [show (r.getD k zRec).f0 = idAt r k from rfl, ← e]; exact (movesL_mem m _ _ hcf.1 x hx).1))]
  rfl
theorem held_all {r : List RecT} (hs : SortedIds r) {m : List MovT} (hcf : countF r m = true) (H : List Int) :
    ((idsL r).filter fun n => !decide (n ∈ H) && decide (0 < outF m n)) = ((batchesF r).filter fun n => !decide (n ∈ H)).filter fun n => decide (0 < outF m n) := by
  rw [idsL, batchesF, List.filter_filter, List.filter_map, List.filter_map, List.filter_filter]
  congr 1
  refine List.filter_congr fun x hx => ?_
  obtain ⟨k, hk, rfl⟩ := List.getElem_of_mem hx
  have e1 : r[k] = r.getD k zRec := by simp [List.getD_eq_getElem?_getD, List.getElem?_eq_getElem hk]
  by_cases h3 : (r.getD k zRec).f1 = 3
  · rw [e1]
    simp only [Function.comp, h3, decide_true, Bool.and_true]
    exact Bool.and_comm _ _
  · have h0 := outF_none hs hcf hk h3
    rw [e1]
    simp only [Function.comp, h3, decide_false, Bool.and_false]
    have h0' : outF m (r.getD k zRec).f0 = 0 := h0
    rw [h0']
    simp
theorem eqMov (d : Nat) (w : World) (x y : MovT) :
    (Op.equalIn (d + 2) 54 (.agg (movV x).toArray) (.agg (movV y).toArray)).run Tryd.prog w = .ok (x.f0 == y.f0 && (x.f1 == y.f1 && (x.f2 == y.f2 && (x.f3 == y.f3)))) w := by
  refine eqA_of Tryd.underlying54 (by kernel_rfl) ?_
  refine eqf_cons (by rfl) (by go_simp; rfl) (by go_simp; rfl) (by go_simp) ?_
  refine eqf_cons (by rfl) (by go_simp; rfl) (by go_simp; rfl) (by go_simp) ?_
  refine eqf_cons (by rfl) (by go_simp; rfl) (by go_simp; rfl) (by go_simp) ?_
  exact eqf_last (by rfl) (by go_simp; rfl) (by go_simp; rfl) (by go_simp)
section
variable {ro : Option Nat} {n N : Nat} {ds : List Deferred} {w0 : World} {X : Nat → Prop} {Q : Exit → Act → World → Prop} {σ : Slots} {η : Hp} {ops rest : List Oper} {d : Option Tmp} {ty pos aft} {g : Option (Nat × Bool)}
attribute [local go_sem high] eqMov
end
end Go.Proofs.YtcmepdamemnbkaaDoor
namespace Go.Proofs.YtcmepdamemnbkaaDoor
open Go.RowKit Go.Proofs.YtcmepdamemnbkaaDoorW.PrintWords
theorem recall_set {r : List RecT} {l : List LetT} {m : List MovT} {d : Int} (hck : checkF r l = 0) (hcf : countF r m = true) (hd : 0 ≤ d ∧ d ≤ 100000) :
    recallC r l m d = 0 ∧ recallR r l m d = (idsL r).filter fun n => !decide (n ∈ holdsF r (goneF r l d)) && decide (0 < outF m n) := by
  have hs := sorted_of (check_split hck).1
  have e1 : recallC r l m d = 0 := by
    rw [recallC, if_pos hck, if_pos hcf, openF, if_pos hck, if_pos (by simp [inF, hd.1, hd.2])]
    rfl
  exact ⟨e1, by rw [recallR, if_pos e1, held_all hs hcf]; rfl⟩
theorem recall_in {r : List RecT} {l : List LetT} {m : List MovT} {d : Int} (hck : checkF r l = 0) (hcf : countF r m = true) (hd : 0 ≤ d ∧ d ≤ 100000) {n : Int} (hn : n ∈ idsL r) :
    decide (n ∈ recallR r l m d) = (!decide (n ∈ holdsF r (goneF r l d)) && decide (0 < outF m n)) := by
  rw [(recall_set hck hcf hd).2, Bool.eq_iff_iff, decide_eq_true_iff, List.mem_filter]
  exact ⟨fun h => h.2, fun h => ⟨hn, h⟩⟩
/-- a sum over those that are asked for -/
def sumI (f : Int → Int) (p : Int → Bool) (xs : List Int) : Int := (xs.map fun n => if p n then f n else 0).sum
theorem sumI_filter (f : Int → Int) (p : Int → Bool) : ∀ xs : List Int, ((xs.filter p).map f).sum = sumI f p xs
  | [] => rfl
  | x :: xs => by
    rw [sumI, List.map_cons, List.sum_cons, List.filter_cons]
    have ih := sumI_filter f p xs
    rw [sumI] at ih
    cases h : p x
    · rw [if_neg (by simp), if_neg (by simp), ih, Int.zero_add]
    · rw [if_pos rfl, if_pos rfl, List.map_cons, List.sum_cons, ih]
theorem sumI_snoc (f : Int → Int) (p : Int → Bool) (xs : List Int) (n : Int) : sumI f p (xs ++ [n]) = sumI f p xs + if p n then f n else 0 := by
  simp [sumI]
theorem idsL_snoc {r : List RecT} {k : Nat} (hk : k < r.length) : idsL (r.take (k + 1)) = idsL (r.take k) ++ [idAt r k] := by
  have h1 : r.getD k zRec = r[k] := by simp [List.getD_eq_getElem?_getD, List.getElem?_eq_getElem hk]
  rw [idsL, List.take_succ_eq_append_getElem hk, List.map_append, ← h1]
  rfl
theorem sumI_congr {f g : Int → Int} {p q : Int → Bool} {xs : List Int} (h : ∀ n ∈ xs, (if p n then f n else 0) = if q n then g n else 0) : sumI f p xs = sumI g q xs := by
  unfold sumI
  rw [List.map_congr_left h]
theorem sumI_cons (f : Int → Int) (p : Int → Bool) (x : Int) (xs : List Int) : sumI f p (x :: xs) = (if p x = true then f x else 0) + sumI f p xs := by simp [sumI]
theorem sumI_add (f : Int → Int) (p q : Int → Bool) : ∀ (xs : List Int), (∀ n ∈ xs, ¬ (p n = true ∧ q n = true)) → sumI f p xs + sumI f q xs = sumI f (fun n => p n || q n) xs
  | [], _ => rfl
  | x :: xs, h => by
    have ih := sumI_add f p q xs fun n hn => h n (List.mem_cons_of_mem _ hn)
    have h1 := h x List.mem_cons_self
    rw [sumI_cons, sumI_cons, sumI_cons, ← ih]
    by_cases hp : p x = true
    · have hq : ¬ q x = true := fun e => h1 ⟨hp, e⟩
      rw [if_pos hp, if_neg hq, if_pos (by simp [hp])]
      omega
    · by_cases hq : q x = true
      · rw [if_neg hp, if_pos hq, if_pos (by simp [hq])]
        omega
      · rw [if_neg hp, if_neg hq, if_neg (by simp [hp, hq])]
        omega
def posI (x : Int) : Int := if 0 < x then x else 0
theorem recall_sum {r : List RecT} {l : List LetT} {m : List MovT} {d : Int} (hck : checkF r l = 0) (hcf : countF r m = true) (hd : 0 ≤ d ∧ d ≤ 100000) :
    recallN r l m d = sumI (fun n => posI (outF m n)) (fun n => !decide (n ∈ holdsF r (goneF r l d))) (idsL r) := by
  rw [recallN, (recall_set hck hcf hd).2, sumI_filter]
  refine sumI_congr fun n _ => ?_
  unfold posI
  by_cases h1 : n ∈ holdsF r (goneF r l d) <;> by_cases h2 : 0 < outF m n <;> simp [h1, h2]
/-- what falls is called back more -/
theorem recall_more {r : List RecT} {l : List LetT} {m : List MovT} {d id : Int} (hck : checkF r l = 0) (hcf : countF r m = true) (hd : 0 ≤ d ∧ d ≤ 100000) (hid : knownF r id = true) (hn : nextB l = true) :
    recallN r (oneL l d id) m d = recallN r l m d + ((takesF r (goneF r l d) id).map fun n => posI (outF m n)).sum := by
  have hok := (check_split hck).1
  have hs := sorted_of hok
  rw [recall_sum (more_check1 hck hd hid hn) hcf hd, recall_sum hck hcf hd, oneL, holds_more hok l _ d rfl rfl]
  have h1 : (takesF r (goneF r l d) id) = (idsL r).filter fun n => decide (n ∈ holdsF r (goneF r l d)) && !decide (n ∈ holdsF r (insN id (goneF r l d))) := by
    rw [takesF, ← filter_sub (holdsF_sub hs (goneF r l d)) (idsL_nodup hs), List.filter_filter, filter_sub (holdsF_sub hs (goneF r l d)) (idsL_nodup hs)]
    exact List.filter_congr fun n _ => Bool.and_comm _ _
  rw [h1, sumI_filter, sumI_add]
  · refine sumI_congr fun n _ => ?_
    have h2 : n ∈ holdsF r (insN id (goneF r l d)) → n ∈ holdsF r (goneF r l d) := holdsF_mono hok (fun q hq => mem_insN.2 (.inr hq)) n
    by_cases a : n ∈ holdsF r (goneF r l d) <;> by_cases b : n ∈ holdsF r (insN id (goneF r l d))
    · simp [a, b]
    · simp [a, b]
    · exact absurd (h2 b) a
    · simp [a, b]
  · rintro n _ ⟨h2, h3⟩
    simp only [Bool.not_eq_true', decide_eq_false_iff_not, Bool.and_eq_true, decide_eq_true_eq] at h2 h3
    exact h2 h3.1
theorem out_B {r : List RecT} {m : List MovT} (hcf : countF r m = true) (id : Int) : -8000000 ≤ outF m id ∧ outF m id ≤ 8000000 := by
  have := count_B hcf id
  unfold StB at this
  unfold outF
  omega
theorem sumI_B {f : Int → Int} {p : Int → Bool} (hf : ∀ n, -8000000 ≤ f n ∧ f n ≤ 8000000) : ∀ xs : List Int, -8000000 * (xs.length : Int) ≤ sumI f p xs ∧ sumI f p xs ≤ 8000000 * (xs.length : Int)
  | [] => by simp [sumI]
  | x :: xs => by
    have ih := sumI_B (p := p) hf xs
    have := hf x
    unfold sumI at *
    simp only [List.map_cons, List.sum_cons, List.length_cons]
    split <;> omega
/-- the law's own sums of what is out, move by move -/
theorem out_take {m : List MovT} {k : Nat} (hk : k < m.length) (id : Int) : outF (m.take (k + 1)) id = if (m.getD k zMov).f1 = id then (if (m.getD k zMov).f2 = 4 then outF (m.take k) id + (m.getD k zMov).f3 else if (m.getD k zMov).f2 = 2 then outF (m.take k) id - (m.getD k zMov).f3 else outF (m.take k) id) else outF (m.take k) id := by
  rw [outF, storeF_succ hk, outF]
  by_cases h : (m.getD k zMov).f1 = id
  · rw [if_pos h, if_pos h]
    generalize (m.getD k zMov).f2 = q
    generalize (m.getD k zMov).f3 = n
    generalize storeF (m.take k) id = s
    unfold stStep
    by_cases h1 : q = 1
    · subst h1; simp
    by_cases h2 : q = 2
    · subst h2; simp; omega
    by_cases h3 : q = 3
    · subst h3; simp
    by_cases h4 : q = 4
    · subst h4; simp; omega
    simp [h1, h2, h3, h4]
  · rw [if_neg h, if_neg h]
end Go.Proofs.YtcmepdamemnbkaaDoor
namespace Go.Proofs.YtcmepdamemnbkaaDoor
open Go.RowKit Go.Proofs.YtcmepdamemnbkaaDoorW.PrintWords
set_option linter.unusedVariables false
set_option linter.unusedSimpArgs false
theorem imGet_set {β : Type} (n k : Int) (v : β) : ∀ l : List (Int × β), imGet n (imSet k v l) = if n = k then some v else imGet n l
  | [] => by
    unfold imSet imGet
    by_cases e : n = k
    · rw [if_pos e, if_pos e.symm]
    · rw [if_neg e, if_neg (fun q => e q.symm)]; rfl
  | p :: l => by
    unfold imSet
    by_cases h : p.1 = k
    · rw [if_pos h]
      simp only [imGet]
      by_cases e : n = k
      · rw [if_pos e, if_pos e.symm]
      · rw [if_neg e, if_neg (fun q => e q.symm), if_neg (fun q => e (q.symm.trans h))]
    · rw [if_neg h]
      simp only [imGet]
      rw [imGet_set n k v l]
      by_cases e : p.1 = n
      · rw [if_pos e, if_pos e, if_neg (fun q => h (e.trans q))]
      · rw [if_neg e, if_neg e]
theorem nil_let (w : World) : Kd.C letK w none ([] : List LetT).length ([] : List LetT) := ⟨rfl, by simp, fun h => absurd h (by simp)⟩
theorem ledger_calls (A C : Option Addr) (c c2 : Nat) (r : List RecT) (m : List MovT) (w : World) (hr : Kd.C recK w A r.length r) (hm : Kd.C movK w C m.length m) (hk : Bytes r) (hkm : BytesM m) :
    Calls Tryd.prog 39 #[.slice A r.length c, .slice C m.length c2] w fun e w' => ∃ b, e = .returned (.bool b) ∧ Below w.heap.size w w' ∧ (b = true → Small r ∧ m.length ≤ 60 ∧ recordedF r = true ∧ countF r m = true) := by
  refine x_calls (X := XNone) Tryd.func39 rfl rfl rfl ?_
  with_reducible repeat refine xc_seq ?_
  with_reducible refine xc_region ?_
  refine xo_asg rfl rfl rfl ?_
  with_reducible refine xo_nil ?_
  with_reducible repeat (first | refine xq_then ?_ | refine xq_blockN ?_ | refine xq_scopeN ?_)
  with_reducible repeat refine xc_seq ?_
  with_reducible refine xc_region ?_
  refine xo_mv rfl rfl rfl ?_
  refine xo_mv rfl rfl rfl ?_
  refine xo_call (fs := []) (cs := []) rfl rfl rfl great_enters rfl (fun w1 hw1 => (great_calls A none C c 0 c2 m.length r [] w1 (Kd.C_below hr hw1.kx.below) (nil_let w1)).mono ?_)
  rintro e w2 ⟨gb, rfl, hb, hgr⟩
  refine ⟨_, _, rfl, hw1.below hb, ?_⟩
  clear hb hw1
  cases gb
  rotate_left
  · refine xo_notOp rfl rfl rfl ?_
    refine xo_mv rfl rfl rfl ?_
    first
      | refine xo_not rfl rfl ?_
      | (refine xo_mv rfl rfl rfl ?_)
    first
      | refine xo_not rfl rfl ?_
      | (fail "NO RULE: Op.call -6")
    first | refine xo_pickT rfl rfl rfl rfl ?_ | refine xo_pickF rfl rfl rfl rfl ?_
    refine xo_mv rfl rfl rfl ?_
    first
      | refine xo_not rfl rfl ?_
      | (refine xo_mv rfl rfl rfl ?_)
    first
      | refine xo_not rfl rfl ?_
      | (refine xo_mv rfl rfl rfl ?_)
    first
      | refine xo_not rfl rfl ?_
      | (fail "NO RULE: Op.call -11")
    first | refine xo_pickT rfl rfl rfl rfl ?_ | refine xo_pickF rfl rfl rfl rfl ?_
    refine xo_asg rfl rfl rfl ?_
    with_reducible refine xo_nil ?_
    with_reducible repeat (first | refine xq_then ?_ | refine xq_blockN ?_ | refine xq_scopeN ?_)
    with_reducible repeat refine xc_seq ?_
    with_reducible refine xc_ret ?_
    with_reducible repeat (first | refine xq_thenR ?_ | refine xq_blockR ?_ | refine xq_scopeR ?_)
    exact xq_ret1 rfl rfl fun w' hw => ⟨false, rfl, hw.kx.below, fun h => by cases h⟩
  cases hrec : recordedF r
  · refine xo_notOp rfl rfl rfl ?_
    refine xo_mv rfl rfl rfl ?_
    first
      | refine xo_not rfl rfl ?_
      | (refine xo_mv rfl rfl rfl ?_)
    first
      | refine xo_not rfl rfl ?_
      | (refine xo_callB (fs := []) (cs := []) rfl rfl rfl records_enters rfl (fun w1 hw1 => records_calls A c r w1 (Kd.C_below hr hw1.kx.below) hk) ?_
         rw [hrec])
    first | refine xo_pickT rfl rfl rfl rfl ?_ | refine xo_pickF rfl rfl rfl rfl ?_
    refine xo_mv rfl rfl rfl ?_
    first
      | refine xo_not rfl rfl ?_
      | (refine xo_mv rfl rfl rfl ?_)
    first
      | refine xo_not rfl rfl ?_
      | (refine xo_mv rfl rfl rfl ?_)
    first
      | refine xo_not rfl rfl ?_
      | (fail "NO RULE: Op.call -11")
    first | refine xo_pickT rfl rfl rfl rfl ?_ | refine xo_pickF rfl rfl rfl rfl ?_
    refine xo_asg rfl rfl rfl ?_
    with_reducible refine xo_nil ?_
    with_reducible repeat (first | refine xq_then ?_ | refine xq_blockN ?_ | refine xq_scopeN ?_)
    with_reducible repeat refine xc_seq ?_
    with_reducible refine xc_ret ?_
    with_reducible repeat (first | refine xq_thenR ?_ | refine xq_blockR ?_ | refine xq_scopeR ?_)
    exact xq_ret1 rfl rfl fun w' hw => ⟨false, rfl, hw.kx.below, fun h => by cases h⟩
  cases hcf : countF r m
  · refine xo_notOp rfl rfl rfl ?_
    refine xo_mv rfl rfl rfl ?_
    first
      | refine xo_not rfl rfl ?_
      | (refine xo_mv rfl rfl rfl ?_)
    first
      | refine xo_not rfl rfl ?_
      | (refine xo_callB (fs := []) (cs := []) rfl rfl rfl records_enters rfl (fun w1 hw1 => records_calls A c r w1 (Kd.C_below hr hw1.kx.below) hk) ?_
         rw [hrec])
    first | refine xo_pickT rfl rfl rfl rfl ?_ | refine xo_pickF rfl rfl rfl rfl ?_
    refine xo_mv rfl rfl rfl ?_
    first
      | refine xo_not rfl rfl ?_
      | (refine xo_mv rfl rfl rfl ?_)
    first
      | refine xo_not rfl rfl ?_
      | (refine xo_mv rfl rfl rfl ?_)
    first
      | refine xo_not rfl rfl ?_
      | (refine xo_callB (fs := []) (cs := []) rfl rfl rfl moves_enters rfl (fun w1 hw1 => moves_calls A C c c2 r m w1 (Kd.C_below hr hw1.kx.below) (Kd.C_below hm hw1.kx.below) hkm (sorted_of hrec)) ?_
         rw [hcf])
    first | refine xo_pickT rfl rfl rfl rfl ?_ | refine xo_pickF rfl rfl rfl rfl ?_
    refine xo_asg rfl rfl rfl ?_
    with_reducible refine xo_nil ?_
    with_reducible repeat (first | refine xq_then ?_ | refine xq_blockN ?_ | refine xq_scopeN ?_)
    with_reducible repeat refine xc_seq ?_
    with_reducible refine xc_ret ?_
    with_reducible repeat (first | refine xq_thenR ?_ | refine xq_blockR ?_ | refine xq_scopeR ?_)
    exact xq_ret1 rfl rfl fun w' hw => ⟨false, rfl, hw.kx.below, fun h => by cases h⟩
  · refine xo_notOp rfl rfl rfl ?_
    refine xo_mv rfl rfl rfl ?_
    first
      | refine xo_not rfl rfl ?_
      | (refine xo_mv rfl rfl rfl ?_)
    first
      | refine xo_not rfl rfl ?_
      | (refine xo_callB (fs := []) (cs := []) rfl rfl rfl records_enters rfl (fun w1 hw1 => records_calls A c r w1 (Kd.C_below hr hw1.kx.below) hk) ?_
         rw [hrec])
    first | refine xo_pickT rfl rfl rfl rfl ?_ | refine xo_pickF rfl rfl rfl rfl ?_
    refine xo_mv rfl rfl rfl ?_
    first
      | refine xo_not rfl rfl ?_
      | (refine xo_mv rfl rfl rfl ?_)
    first
      | refine xo_not rfl rfl ?_
      | (refine xo_mv rfl rfl rfl ?_)
    first
      | refine xo_not rfl rfl ?_
      | (refine xo_callB (fs := []) (cs := []) rfl rfl rfl moves_enters rfl (fun w1 hw1 => moves_calls A C c c2 r m w1 (Kd.C_below hr hw1.kx.below) (Kd.C_below hm hw1.kx.below) hkm (sorted_of hrec)) ?_
         rw [hcf])
    first | refine xo_pickT rfl rfl rfl rfl ?_ | refine xo_pickF rfl rfl rfl rfl ?_
    refine xo_asg rfl rfl rfl ?_
    with_reducible refine xo_nil ?_
    with_reducible repeat (first | refine xq_then ?_ | refine xq_blockN ?_ | refine xq_scopeN ?_)
    with_reducible repeat refine xc_seq ?_
    with_reducible refine xc_ret ?_
    with_reducible repeat (first | refine xq_thenR ?_ | refine xq_blockR ?_ | refine xq_scopeR ?_)
    exact xq_ret1 rfl rfl fun w' hw => ⟨true, rfl, hw.kx.below, fun _ => ⟨(hgr rfl).1, (hgr rfl).2.2, rfl, rfl⟩⟩
theorem ledger_enters : ∀ args w, (callFunc 39 args).run Tryd.prog w = .ok (.enter 39 args) w := enters_of Tryd.func39 (by kernel_rfl) rfl
end Go.Proofs.YtcmepdamemnbkaaDoor
namespace Go.Proofs.YtcmepdamemnbkaaDoor
open Go.RowKit Go.Proofs.YtcmepdamemnbkaaDoorW.PrintWords
theorem recall_sorted {r : List RecT} {l : List LetT} {m : List MovT} {d : Int} (hck : checkF r l = 0) (hcf : countF r m = true) (hd : 0 ≤ d ∧ d ≤ 100000) : (recallR r l m d).Pairwise fun a b => a < b := by
  rw [(recall_set hck hcf hd).2]
  exact (idsL_lt (sorted_of (check_split hck).1)).sublist List.filter_sublist
theorem recallN_in {r : List RecT} {l : List LetT} {m : List MovT} {d : Int} (hck : checkF r l = 0) (hcf : countF r m = true) (hd : 0 ≤ d ∧ d ≤ 100000) : recallN r l m d = sumI (outF m) (fun n => decide (n ∈ recallR r l m d)) (idsL r) := by
  rw [recallN]
  conv => lhs; rw [(recall_set hck hcf hd).2]
  rw [sumI_filter]
  refine sumI_congr fun n hn => ?_
  rw [recall_in hck hcf hd hn]
theorem out_takeB {r : List RecT} {m : List MovT} (hcf : countF r m = true) (k : Nat) (id : Int) : -8000000 ≤ outF (m.take k) id ∧ outF (m.take k) id ≤ 8000000 := by
  rw [countF, Bool.and_eq_true] at hcf
  have h1 := movesL_mem m _ _ hcf.1
  have h2 : (m.take k).length ≤ 40 := by
    rw [List.length_take]
    rcases movesL_len m _ _ hcf.1 with h | rfl
    · omega
    · simp
  have := storeF_B (fun x hx => (h1 x (List.mem_of_mem_take hx)).2.2) id (m := m.take k)
  unfold StB at this
  unfold outF
  omega
def sumT (m : List MovT) (T : List Int) (k : Nat) : Int := ((T.take k).map fun n => posI (outF m n)).sum
theorem sumT_succ {m : List MovT} {T : List Int} {k : Nat} (hk : k < T.length) : sumT m T (k + 1) = sumT m T k + posI (outF m (T.getD k 0)) := by
  have h1 : T.getD k 0 = T[k] := by simp [List.getD_eq_getElem?_getD, List.getElem?_eq_getElem hk]
  rw [sumT, sumT, List.take_succ_eq_append_getElem hk, List.map_append, List.sum_append, h1]
  simp
theorem sumT_B {r : List RecT} {m : List MovT} (hcf : countF r m = true) (T : List Int) : ∀ k, 0 ≤ sumT m T k ∧ sumT m T k ≤ 8000000 * (k : Int)
  | 0 => by simp [sumT]
  | k + 1 => by
    have ih := sumT_B hcf T k
    by_cases hk : k < T.length
    · rw [sumT_succ hk]
      have := out_B hcf (T.getD k 0)
      unfold posI
      split <;> omega
    · have : sumT m T (k + 1) = sumT m T k := by rw [sumT, sumT, List.take_of_length_le (by omega), List.take_of_length_le (by omega)]
      rw [this]
      omega
theorem sumT_full (m : List MovT) (T : List Int) : sumT m T T.length = (T.map fun n => posI (outF m n)).sum := by rw [sumT, List.take_length]
end Go.Proofs.YtcmepdamemnbkaaDoor
namespace Go.Proofs.YtcmepdamemnbkaaDoor
open Go.RowKit Go.Proofs.YtcmepdamemnbkaaDoorW.PrintWords
set_option linter.unusedVariables false
set_option linter.unusedSimpArgs false
theorem recall_len (r : List RecT) (l : List LetT) (m : List MovT) (day : Int) : (recallR r l m day).length ≤ r.length := by
  unfold recallR
  split
  · refine Nat.le_trans (List.length_filter_le _ _) (Nat.le_trans (List.length_filter_le _ _) ?_)
    have := (batches_sub r).length_le
    simpa using this
  · simp
end Go.Proofs.YtcmepdamemnbkaaDoor
