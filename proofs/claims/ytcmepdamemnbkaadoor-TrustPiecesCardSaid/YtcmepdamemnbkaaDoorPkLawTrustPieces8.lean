/- ref08.Pieces, Recall answer what trust.Pieces, Recall answer. / trust.fewest: the walk. / what holds depends on what is gone by membership alone. Plain Lean. / trust.Rests$1: what the search for what a record rests on asks of a set. / trust.Causes$1: what the search for causes asks of a set. / who is withdrawn, in order; what the searches of the code and of the reference find is the same. Plain Lean. / ref08.Recall answers what trust.Recall answers; SameMoves. / ref08.Twin: the walk. / law08.TrustHolds: the walk. / law08.TrustPieces: the walk. / The table trust.adds, as the rows' condition lays it, and the door's own heap, which meets that condition. -/
import Derived.Test.YtcmepdamemnbkaaDoorPkLawTrustPieces7
import Derived.Test.YtcmepdamemnbkaaDoorPkLawTrustPieces4
import Derived.Test.YtcmepdamemnbkaaDoorPkLawTrustPieces3
import Derived.Test.YtcmepdamemnbkaaDoorRows
import Derived.LaidLaws
import Derived.LaidHandle
import Derived.LaidMore
import Derived.ChangeVars
import Derived.ChangeShapes
namespace Go.Proofs.YtcmepdamemnbkaaDoor
open Go.RowKit Go.Proofs.YtcmepdamemnbkaaDoorW.PrintWords
set_option linter.unusedVariables false
set_option linter.unusedSimpArgs false
def sumL (m : List MovT) (C : List Int) : StT → List RecT → StT
  | s, [] => s
  | s, x :: r => sumL m C (if decide (x.f0 ∈ C) then addS s (storeF m x.f0) else s) r
theorem pieces_sum {r : List RecT} (hs : SortedIds r) (m : List MovT) (id : Int) : ∀ (j k : Nat) (s : StT), j + k = r.length → piecesL m id (cmF r id k) s (r.drop k) = sumL m (comesF r id) s (r.drop k)
  | 0, k, s, h => by rw [List.drop_of_length_le (by omega)]; rfl
  | j + 1, k, s, h => by
    have hc := comes_at hs id (show k < r.length by omega)
    rw [drop_at r zRec k (by omega), piecesL, sumL, show (r.getD k zRec).f0 = idAt r k from rfl, hc]
    have hcs := cmF_succ id (show k < r.length by omega)
    rw [show (fromF id (cmF r id k) (r.getD k zRec) && decide ((r.getD k zRec).f1 = 3)) = condF r id k from rfl]
    by_cases q : condF r id k = true
    · rw [if_pos q] at hcs ⊢
      rw [if_pos q, ← hcs]
      exact pieces_sum hs m id j (k + 1) _ (by omega)
    · rw [if_neg q] at hcs ⊢
      rw [if_neg q, ← hcs]
      exact pieces_sum hs m id j (k + 1) _ (by omega)
theorem pieces_sum0 {r : List RecT} (hs : SortedIds r) (m : List MovT) (id : Int) : piecesL m id [] st0 r = sumL m (comesF r id) st0 r := pieces_sum hs m id r.length 0 st0 (by omega)
set_option maxHeartbeats 16000000 in
theorem refPieces_calls (A B : Option Addr) (c c' : Nat) (r : List RecT) (m : List MovT) (id : Int) (w : World) (hr : Kd.C recK w A r.length r) (hm : Kd.C movK w B m.length m) (hk : Bytes r) (hkm : BytesM m) :
    Calls Tryd.prog 14 #[.slice A r.length c, .slice B m.length c', .int .i64 id] w fun e w' => e = .returned (.tuple #[.agg (stV (piecesR r m id)).toArray, .int .i64 (piecesC r m id)]) ∧ Below w.heap.size w w' := by
  refine x_calls (X := XNone) Tryd.func14 rfl rfl rfl ?_
  with_reducible repeat refine xc_seq ?_
  with_reducible refine xc_region ?_
  refine xo_alloc T_ rfl rfl rfl rfl (fun b6 => ?_)
  refine xo_asg rfl rfl rfl ?_
  with_reducible refine xo_nil ?_
  with_reducible repeat (first | refine xq_then ?_ | refine xq_blockN ?_ | refine xq_scopeN ?_)
  with_reducible repeat refine xc_seq ?_
  with_reducible refine xc_region ?_
  refine xo_mv rfl rfl rfl ?_
  refine xo_callB (fs := []) (cs := []) rfl rfl rfl records_enters rfl (fun w1 hw1 => records_calls A c r w1 (Kd.C_below hr hw1.kx.below) hk) ?_
  refine xo_notOp rfl rfl rfl ?_
  with_reducible refine xo_nil ?_
  with_reducible repeat (first | refine xq_then ?_ | refine xq_blockN ?_ | refine xq_scopeN ?_)
  with_reducible repeat refine xc_seq ?_
  refine xc_cond rfl (fun hrec => ?_) (fun hrec => ?_)
  · simp only [Bool.not_eq_true'] at hrec
    have e1 : piecesC r m id = 80 := by rw [piecesC, hrec]; rfl
    have e2 : piecesR r m id = st0 := by rw [piecesR, e1]; rfl
    with_reducible repeat refine xc_seq ?_
    with_reducible refine xc_region ?_
    refine xo_build TB_ rfl rfl rfl rfl rfl ?_
    refine xo_store T_ rfl rfl rfl rfl (by repeat (first | exact List.Mem.head _ | apply List.Mem.tail | apply List.mem_append_right)) rfl rfl rfl rfl (by repeat (first | exact Upd.head | apply Upd.tail | apply Upd.app)) rfl ?_
    refine xo_asg rfl rfl rfl ?_
    with_reducible refine xo_nil ?_
    with_reducible repeat (first | refine xq_then ?_ | refine xq_blockN ?_ | refine xq_scopeN ?_)
    with_reducible repeat refine xc_seq ?_
    with_reducible refine xc_ret ?_
    with_reducible repeat (first | refine xq_thenR ?_ | refine xq_blockR ?_ | refine xq_scopeR ?_)
    exact xq_retC1 T_ rfl rfl rfl rfl (by repeat (first | exact List.Mem.head _ | apply List.Mem.tail | apply List.mem_append_right)) rfl fun w' hw => ⟨by rw [e1, e2]; rfl, hw.kx.below⟩
  simp only [Bool.not_eq_false'] at hrec
  have hs := sorted_of hrec
  have hlen := recorded_len hrec
  with_reducible refine xc_skip ?_
  with_reducible repeat (first | refine xq_then ?_ | refine xq_blockN ?_ | refine xq_scopeN ?_)
  with_reducible repeat refine xc_seq ?_
  with_reducible refine xc_region ?_
  refine xo_mv rfl rfl rfl ?_
  refine xo_mv rfl rfl rfl ?_
  refine xo_callB (fs := []) (cs := []) rfl rfl rfl moves_enters rfl (fun w1 hw1 => moves_calls A B c c' r m w1 (Kd.C_below hr hw1.kx.below) (Kd.C_below hm hw1.kx.below) hkm hs) ?_
  refine xo_notOp rfl rfl rfl ?_
  with_reducible refine xo_nil ?_
  with_reducible repeat (first | refine xq_then ?_ | refine xq_blockN ?_ | refine xq_scopeN ?_)
  with_reducible repeat refine xc_seq ?_
  refine xc_cond rfl (fun hcf => ?_) (fun hcf => ?_)
  · simp only [Bool.not_eq_true'] at hcf
    have e1 : piecesC r m id = 82 := by rw [piecesC, hrec, hcf]; rfl
    have e2 : piecesR r m id = st0 := by rw [piecesR, e1]; rfl
    with_reducible repeat refine xc_seq ?_
    with_reducible refine xc_region ?_
    refine xo_build TB_ rfl rfl rfl rfl rfl ?_
    refine xo_store T_ rfl rfl rfl rfl (by repeat (first | exact List.Mem.head _ | apply List.Mem.tail | apply List.mem_append_right)) rfl rfl rfl rfl (by repeat (first | exact Upd.head | apply Upd.tail | apply Upd.app)) rfl ?_
    refine xo_asg rfl rfl rfl ?_
    with_reducible refine xo_nil ?_
    with_reducible repeat (first | refine xq_then ?_ | refine xq_blockN ?_ | refine xq_scopeN ?_)
    with_reducible repeat refine xc_seq ?_
    with_reducible refine xc_ret ?_
    with_reducible repeat (first | refine xq_thenR ?_ | refine xq_blockR ?_ | refine xq_scopeR ?_)
    exact xq_retC1 T_ rfl rfl rfl rfl (by repeat (first | exact List.Mem.head _ | apply List.Mem.tail | apply List.mem_append_right)) rfl fun w' hw => ⟨by rw [e1, e2]; rfl, hw.kx.below⟩
  simp only [Bool.not_eq_false'] at hcf
  have hpm : ∀ x ∈ m, 1 ≤ x.f3 ∧ x.f3 ≤ 100000 := fun x hx => by
    rw [countF, Bool.and_eq_true] at hcf
    exact (movesL_mem m _ _ hcf.1 x hx).2.2
  have hml : m.length ≤ 40 := by
    by_cases h : 40 < m.length
    · rw [countF_long h] at hcf; cases hcf
    · omega
  with_reducible refine xc_skip ?_
  with_reducible repeat (first | refine xq_then ?_ | refine xq_blockN ?_ | refine xq_scopeN ?_)
  with_reducible repeat refine xc_seq ?_
  with_reducible refine xc_region ?_
  refine xo_mv rfl rfl rfl ?_
  refine xo_mv rfl rfl rfl ?_
  refine xo_callB (fs := []) (cs := []) rfl rfl rfl at_enters rfl (fun w1 hw1 => at_calls _ _ _ _ w1 (Kd.C_below hr hw1.kx.below)) ?_
  refine xo_lss rfl rfl rfl rfl ?_
  with_reducible refine xo_nil ?_
  with_reducible repeat (first | refine xq_then ?_ | refine xq_blockN ?_ | refine xq_scopeN ?_)
  with_reducible repeat refine xc_seq ?_
  refine xc_cond rfl (fun hkn => ?_) (fun hkn => ?_)
  · rw [atF_neg] at hkn
    simp only [Bool.not_eq_true'] at hkn
    have e1 : piecesC r m id = 6 := by rw [piecesC, hrec, hcf, hkn]; rfl
    have e2 : piecesR r m id = st0 := by rw [piecesR, e1]; rfl
    with_reducible repeat refine xc_seq ?_
    with_reducible refine xc_region ?_
    refine xo_build TB_ rfl rfl rfl rfl rfl ?_
    refine xo_store T_ rfl rfl rfl rfl (by repeat (first | exact List.Mem.head _ | apply List.Mem.tail | apply List.mem_append_right)) rfl rfl rfl rfl (by repeat (first | exact Upd.head | apply Upd.tail | apply Upd.app)) rfl ?_
    refine xo_asg rfl rfl rfl ?_
    with_reducible refine xo_nil ?_
    with_reducible repeat (first | refine xq_then ?_ | refine xq_blockN ?_ | refine xq_scopeN ?_)
    with_reducible repeat refine xc_seq ?_
    with_reducible refine xc_ret ?_
    with_reducible repeat (first | refine xq_thenR ?_ | refine xq_blockR ?_ | refine xq_scopeR ?_)
    exact xq_retC1 T_ rfl rfl rfl rfl (by repeat (first | exact List.Mem.head _ | apply List.Mem.tail | apply List.mem_append_right)) rfl fun w' hw => ⟨by rw [e1, e2]; rfl, hw.kx.below⟩
  rw [atF_neg] at hkn
  simp only [Bool.not_eq_false'] at hkn
  have e1 : piecesC r m id = 0 := by rw [piecesC, hrec, hcf, hkn]; rfl
  have e2 : piecesR r m id = sumL m (comesF r id) st0 r := by rw [piecesR, if_pos e1, pieces_sum0 hs]
  with_reducible refine xc_skip ?_
  with_reducible repeat (first | refine xq_then ?_ | refine xq_blockN ?_ | refine xq_scopeN ?_)
  with_reducible repeat refine xc_seq ?_
  with_reducible refine xc_region ?_
  refine xo_alloc T_ rfl rfl rfl rfl (fun b8 => ?_)
  with_reducible refine xo_nil ?_
  with_reducible repeat (first | refine xq_then ?_ | refine xq_blockN ?_ | refine xq_scopeN ?_)
  with_reducible repeat refine xc_seq ?_
  with_reducible refine xc_region ?_
  refine xo_mv rfl rfl rfl ?_
  refine xo_mv rfl rfl rfl ?_
  refine xo_call (fs := []) (cs := []) rfl rfl rfl comes_enters rfl (fun w1 hw1 => (comes_calls A c r id w1 (Kd.C_below hr hw1.kx.below) hrec).mono ?_)
  rintro e w3 ⟨bh, oh, rfl, hb, hge, h1, h2⟩
  refine ⟨_, _, rfl, hw1.more hb hge h1 h2, ?_⟩
  clear hb hge h1 h2 hw1
  refine xo_asg rfl rfl rfl ?_
  with_reducible refine xo_nil ?_
  with_reducible repeat (first | refine xq_then ?_ | refine xq_blockN ?_ | refine xq_scopeN ?_)
  with_reducible repeat refine xc_seq ?_
  with_reducible refine xc_region ?_
  refine xo_asg rfl rfl rfl ?_
  with_reducible refine xo_nil ?_
  with_reducible repeat (first | refine xq_then ?_ | refine xq_blockN ?_ | refine xq_scopeN ?_)
  with_reducible repeat refine xc_seq ?_
  with_reducible refine xc_block ?_
  refine xc_loop (γ := Nat × StT) (fun q => q.1 ≤ r.length ∧ StB q.2 (4000000 * (q.1 : Int)) ∧ sumL m (comesF r id) st0 r = sumL m (comesF r id) q.2 (r.drop q.1)) (fun q => [(0, .slice A r.length c), (1, .slice B m.length c'), (6, .pointer (some ⟨b6, 0, none⟩)), (8, .pointer (some ⟨b8, 0, none⟩)), (9, .slice (some ⟨bh, 0, none⟩) r.length r.length), (10, .int .i64 (q.1 : Int))])
    (fun q => [(bh, true, cel ((inB r (comesF r id)).map .bool) 4), (b8, true, cel (stV q.2) 27), (b6, true, cel (stV st0) 27)]) (fun q => r.length - q.1) (0, st0) ⟨Nat.zero_le _, by unfold StB st0; simp, rfl⟩ ⟨rfl, rfl, rfl, rfl, rfl, rfl, trivial⟩ (by repeat (first | exact List.Sublist.refl _ | apply List.Sublist.cons_cons | apply List.Sublist.cons | exact List.nil_sublist _)) ?_
  rintro ⟨k, sum⟩ ⟨hk1, hsB, hpl⟩
  simp only at hk1 hsB hpl ⊢
  with_reducible repeat refine xc_seq ?_
  with_reducible refine xc_region ?_
  refine xo_mv rfl rfl rfl ?_
  refine xo_mv rfl rfl rfl ?_
  refine xo_len T_ rfl rfl rfl rfl ?_
  refine xo_lss rfl rfl rfl rfl ?_
  with_reducible refine xo_nil ?_
  with_reducible repeat (first | refine xq_then ?_ | refine xq_blockN ?_ | refine xq_scopeN ?_)
  with_reducible repeat refine xc_seq ?_
  refine xc_cond rfl (fun h => ?_) (fun h => ?_)
  · have hlt : k < r.length := by have := of_decide_eq_true h; omega
    obtain ⟨ad, A2, c2, rfl, r1, hc2, hw2⟩ := rec_at hr k hlt
    have hB2 := count_B hcf (idAt r k)
    have hsB' := (hsB.add hB2).mono (show 4000000 * (k : Int) + 4000000 ≤ 4000000 * ((k + 1 : Nat) : Int) by omega)
    have hsB2 := hsB
    unfold StB at hsB hB2
    rw [drop_at r zRec k hlt, sumL] at hpl
    have hld : ((inB r (comesF r id)).map Value.bool)[0 + (k : Int).toNat * szN 0]? = some (.bool (decide (idAt r k ∈ comesF r id))) := by
      rw [show 0 + (k : Int).toNat * szN 0 = k by simp [szN]]
      have := inB_get (H := comesF r id) hlt
      have hl : k < (inB r (comesF r id)).length := by rw [inB_len]; exact hlt
      simp only [List.getElem?_map, List.getElem?_eq_getElem hl, Option.map_some]
      rw [List.getD_eq_getElem?_getD, List.getElem?_eq_getElem hl] at this
      exact congrArg (fun b => some (Value.bool b)) this
    rw [show (r.getD k zRec).f0 = idAt r k from rfl] at hpl
    have hid : (r.getD k zRec).f0 = idAt r k := rfl
    generalize r.getD k zRec = x at *
    generalize hcb : decide (idAt r k ∈ comesF r id) = cb at *
    with_reducible refine xc_skip ?_
    with_reducible repeat (first | refine xq_then ?_ | refine xq_blockN ?_ | refine xq_scopeN ?_)
    with_reducible repeat refine xc_seq ?_
    with_reducible refine xc_block ?_
    with_reducible repeat refine xc_seq ?_
    with_reducible refine xc_region ?_
    refine xo_mv rfl rfl rfl ?_
    refine xo_mv rfl rfl rfl ?_
    refine xo_ia T_ rfl rfl rfl rfl rfl ⟨by omega, by omega⟩ rfl ?_
    refine xo_loadI T_ rfl rfl rfl (by repeat (first | exact List.Mem.head _ | apply List.Mem.tail | apply List.mem_append_right)) hld rfl ?_
    refine xo_notOp rfl rfl rfl ?_
    with_reducible refine xo_nil ?_
    with_reducible repeat (first | refine xq_then ?_ | refine xq_blockN ?_ | refine xq_scopeN ?_)
    with_reducible repeat refine xc_seq ?_
    refine xc_cond rfl (fun hcc => ?_) (fun hcc => ?_)
    · simp only [Bool.not_eq_true'] at hcc
      rw [hcc, if_neg (by simp)] at hpl
      with_reducible refine xc_exit ?_
      with_reducible repeat (first | refine xq_blockX ?_ | refine xq_thenE ?_ | refine xq_blockE rfl ?_ | refine xq_scopeE ?_)
      with_reducible repeat (first | refine xq_then ?_ | refine xq_blockN ?_ | refine xq_scopeN ?_)
      with_reducible repeat refine xc_seq ?_
      with_reducible refine xc_region ?_
      refine xo_mv rfl rfl rfl ?_
      refine xo_add rfl rfl rfl (by omega) rfl ?_
      refine xo_asg rfl rfl rfl ?_
      with_reducible refine xo_nil ?_
      with_reducible repeat (first | refine xq_then ?_ | refine xq_blockN ?_ | refine xq_scopeN ?_)
      exact xq_again _ _ _ _ _ (k + 1, sum) ⟨hlt, hsB2.mono (by simp only; omega), hpl⟩ (by first | omega | (simp only; omega)) ⟨rfl, rfl, rfl, rfl, rfl, rfl, trivial⟩ (by repeat (first | exact List.Sublist.refl _ | apply List.Sublist.cons_cons | apply List.Sublist.cons | exact List.nil_sublist _))
    simp only [Bool.not_eq_false'] at hcc
    rw [hcc, if_pos rfl, ← hid] at hpl
    rw [← hid] at hB2 hsB'
    with_reducible refine xc_skip ?_
    with_reducible repeat (first | refine xq_then ?_ | refine xq_blockN ?_ | refine xq_scopeN ?_)
    with_reducible repeat refine xc_seq ?_
    with_reducible refine xc_region ?_
    refine xo_mv rfl rfl rfl ?_
    refine xo_mv rfl rfl rfl ?_
    refine xo_mv rfl rfl rfl ?_
    refine xo_ia T_ rfl rfl rfl rfl rfl ⟨by omega, by omega⟩ rfl ?_
    refine xo_faR T_ rfl rfl rfl rfl rfl ?_
    refine xo_loadR0 T_ rfl rfl rfl (by first | assumption | exact RO.fld (by assumption) rfl) rfl ?_
    refine xo_callB (fs := []) (cs := []) rfl rfl rfl store_enters rfl (fun w1 hw1 => store_calls _ _ m x.f0 w1 (Kd.C_below hm hw1.kx.below) hpm (by omega)) ?_
    refine xo_alloc T_ rfl rfl rfl rfl (fun b11 => ?_)
    refine xo_store T_ rfl rfl rfl rfl (by repeat (first | exact List.Mem.head _ | apply List.Mem.tail | apply List.mem_append_right)) rfl rfl rfl rfl (by repeat (first | exact Upd.head | apply Upd.tail | apply Upd.app)) rfl ?_
    with_reducible refine xo_nil ?_
    with_reducible repeat (first | refine xq_then ?_ | refine xq_blockN ?_ | refine xq_scopeN ?_)
    with_reducible repeat refine xc_seq ?_
    with_reducible refine xc_region ?_
    refine xo_fa T_ rfl rfl rfl rfl rfl ?_
    refine xo_load0 T_ rfl rfl rfl (by repeat (first | exact List.Mem.head _ | apply List.Mem.tail | apply List.mem_append_right)) rfl rfl ?_
    refine xo_fa T_ rfl rfl rfl rfl rfl ?_
    refine xo_load0 T_ rfl rfl rfl (by repeat (first | exact List.Mem.head _ | apply List.Mem.tail | apply List.mem_append_right)) rfl rfl ?_
    refine xo_add rfl rfl rfl (by omega) rfl ?_
    refine xo_fa T_ rfl rfl rfl rfl rfl ?_
    refine xo_load0 T_ rfl rfl rfl (by repeat (first | exact List.Mem.head _ | apply List.Mem.tail | apply List.mem_append_right)) rfl rfl ?_
    refine xo_fa T_ rfl rfl rfl rfl rfl ?_
    refine xo_load0 T_ rfl rfl rfl (by repeat (first | exact List.Mem.head _ | apply List.Mem.tail | apply List.mem_append_right)) rfl rfl ?_
    refine xo_add rfl rfl rfl (by omega) rfl ?_
    refine xo_fa T_ rfl rfl rfl rfl rfl ?_
    refine xo_load0 T_ rfl rfl rfl (by repeat (first | exact List.Mem.head _ | apply List.Mem.tail | apply List.mem_append_right)) rfl rfl ?_
    refine xo_fa T_ rfl rfl rfl rfl rfl ?_
    refine xo_load0 T_ rfl rfl rfl (by repeat (first | exact List.Mem.head _ | apply List.Mem.tail | apply List.mem_append_right)) rfl rfl ?_
    refine xo_add rfl rfl rfl (by omega) rfl ?_
    refine xo_fa T_ rfl rfl rfl rfl rfl ?_
    refine xo_load0 T_ rfl rfl rfl (by repeat (first | exact List.Mem.head _ | apply List.Mem.tail | apply List.mem_append_right)) rfl rfl ?_
    refine xo_fa T_ rfl rfl rfl rfl rfl ?_
    refine xo_load0 T_ rfl rfl rfl (by repeat (first | exact List.Mem.head _ | apply List.Mem.tail | apply List.mem_append_right)) rfl rfl ?_
    refine xo_add rfl rfl rfl (by omega) rfl ?_
    refine xo_fa T_ rfl rfl rfl rfl rfl ?_
    refine xo_load0 T_ rfl rfl rfl (by repeat (first | exact List.Mem.head _ | apply List.Mem.tail | apply List.mem_append_right)) rfl rfl ?_
    refine xo_fa T_ rfl rfl rfl rfl rfl ?_
    refine xo_load0 T_ rfl rfl rfl (by repeat (first | exact List.Mem.head _ | apply List.Mem.tail | apply List.mem_append_right)) rfl rfl ?_
    refine xo_add rfl rfl rfl (by omega) rfl ?_
    refine xo_fa T_ rfl rfl rfl rfl rfl ?_
    refine xo_load0 T_ rfl rfl rfl (by repeat (first | exact List.Mem.head _ | apply List.Mem.tail | apply List.mem_append_right)) rfl rfl ?_
    refine xo_fa T_ rfl rfl rfl rfl rfl ?_
    refine xo_load0 T_ rfl rfl rfl (by repeat (first | exact List.Mem.head _ | apply List.Mem.tail | apply List.mem_append_right)) rfl rfl ?_
    refine xo_add rfl rfl rfl (by omega) rfl ?_
    refine xo_build TB_ rfl rfl rfl rfl rfl ?_
    refine xo_store T_ rfl rfl rfl rfl (by repeat (first | exact List.Mem.head _ | apply List.Mem.tail | apply List.mem_append_right)) rfl rfl rfl rfl (by repeat (first | exact Upd.head | apply Upd.tail | apply Upd.app)) rfl ?_
    with_reducible refine xo_nil ?_
    with_reducible repeat (first | refine xq_then ?_ | refine xq_blockN ?_ | refine xq_scopeN ?_)
    with_reducible repeat refine xc_seq ?_
    with_reducible refine xc_region ?_
    refine xo_mv rfl rfl rfl ?_
    refine xo_add rfl rfl rfl (by omega) rfl ?_
    refine xo_asg rfl rfl rfl ?_
    with_reducible refine xo_nil ?_
    with_reducible repeat (first | refine xq_then ?_ | refine xq_blockN ?_ | refine xq_scopeN ?_)
    exact xq_again _ _ _ _ _ (k + 1, addS sum (storeF m x.f0)) ⟨hlt, hsB', hpl⟩ (by first | omega | (simp only; omega)) ⟨rfl, rfl, rfl, rfl, rfl, rfl, trivial⟩ (by repeat (first | exact List.Sublist.refl _ | apply List.Sublist.cons_cons | apply List.Sublist.cons | exact List.nil_sublist _))
  have hge : ¬ k < r.length := by have := of_decide_eq_false h; omega
  rw [List.drop_of_length_le (by omega), sumL] at hpl
  with_reducible refine xc_exit ?_
  with_reducible repeat (first | refine xq_blockX ?_ | refine xq_thenE ?_ | refine xq_blockE rfl ?_ | refine xq_scopeE ?_)
  with_reducible repeat (first | refine xq_then ?_ | refine xq_blockN ?_ | refine xq_scopeN ?_)
  with_reducible repeat refine xc_seq ?_
  with_reducible refine xc_region ?_
  refine xo_loadN T_ rfl rfl rfl (by repeat (first | exact List.Mem.head _ | apply List.Mem.tail | apply List.mem_append_right)) rfl rfl ?_
  refine xo_store T_ rfl rfl rfl rfl (by repeat (first | exact List.Mem.head _ | apply List.Mem.tail | apply List.mem_append_right)) rfl rfl rfl rfl (by repeat (first | exact Upd.head | apply Upd.tail | apply Upd.app)) rfl ?_
  refine xo_asg rfl rfl rfl ?_
  with_reducible refine xo_nil ?_
  with_reducible repeat (first | refine xq_then ?_ | refine xq_blockN ?_ | refine xq_scopeN ?_)
  with_reducible repeat refine xc_seq ?_
  with_reducible refine xc_ret ?_
  with_reducible repeat (first | refine xq_thenR ?_ | refine xq_blockR ?_ | refine xq_scopeR ?_)
  exact xq_retC1 T_ rfl rfl rfl rfl (by repeat (first | exact List.Mem.head _ | apply List.Mem.tail | apply List.mem_append_right)) rfl fun w' hw => ⟨by rw [e1, e2, hpl]; rfl, hw.kx.below⟩
theorem refPieces_enters : ∀ args w, (callFunc 14 args).run Tryd.prog w = .ok (.enter 14 args) w := enters_of Tryd.func14 (by kernel_rfl) rfl
end Go.Proofs.YtcmepdamemnbkaaDoor
namespace Go.Proofs.YtcmepdamemnbkaaDoor
open Go.RowKit Go.Proofs.YtcmepdamemnbkaaDoorW.PrintWords
set_option linter.unusedVariables false
set_option linter.unusedSimpArgs false
end Go.Proofs.YtcmepdamemnbkaaDoor
namespace Go.Proofs.YtcmepdamemnbkaaDoor
open Go.RowKit Go.Proofs.YtcmepdamemnbkaaDoorW.PrintWords
set_option linter.unusedVariables false
set_option linter.unusedSimpArgs false
end Go.Proofs.YtcmepdamemnbkaaDoor
namespace Go.Proofs.YtcmepdamemnbkaaDoor
open Go.RowKit Go.Proofs.YtcmepdamemnbkaaDoorW.PrintWords
set_option linter.unusedVariables false
set_option linter.unusedSimpArgs false
end Go.Proofs.YtcmepdamemnbkaaDoor
namespace Go.Proofs.YtcmepdamemnbkaaDoor
open Go.RowKit Go.Proofs.YtcmepdamemnbkaaDoorW.PrintWords
set_option linter.unusedVariables false
set_option linter.unusedSimpArgs false
end Go.Proofs.YtcmepdamemnbkaaDoor
namespace Go.Proofs.YtcmepdamemnbkaaDoor
open Go.RowKit Go.Proofs.YtcmepdamemnbkaaDoorW.PrintWords
set_option linter.unusedVariables false
set_option linter.unusedSimpArgs false
end Go.Proofs.YtcmepdamemnbkaaDoor
namespace Go.Proofs.YtcmepdamemnbkaaDoor
open Go.RowKit Go.Proofs.YtcmepdamemnbkaaDoorW.PrintWords
set_option linter.unusedVariables false
set_option linter.unusedSimpArgs false
theorem outF_none {r : List RecT} (hs : SortedIds r) {m : List MovT} (hcf : countF r m = true) {k : Nat} (hk : k < r.length) (h3 : ¬ (r.getD k zRec).f1 = 3) : outF m (idAt r k) = 0 := by
  have hb := batch_mem hs hk
  rw [decide_eq_false h3, decide_eq_false_iff_not] at hb
  rw [countF, Bool.and_eq_true] at hcf
  rw [outF, storeF_none (fun x hx e => hb (by rw [show (r.getD k zRec).f0 = idAt r k from rfl, ← e]; exact (movesL_mem m _ _ hcf.1 x hx).1))]
  rfl
theorem held_all {r : List RecT} (hs : SortedIds r) {m : List MovT} (hcf : countF r m = true) (H : List Int) :
    ((idsL r).filter fun n => !decide (n ∈ H) && decide (0 < outF m n)) = ((batchesF r).filter fun n => !decide (n ∈ H)).filter fun n => decide (0 < outF m n) := by
  rw [idsL, batchesF, List.filter_filter, List.filter_map, List.filter_map, List.filter_filter]
  congr 1
  refine List.filter_congr fun x hx => ?_
  obtain ⟨k, hk, rfl⟩ := List.getElem_of_mem hx
  have e1 : r[k] = r.getD k zRec := by simp [List.getD_eq_getElem?_getD, List.getElem?_eq_getElem hk]
  by_cases h3 : (r.getD k zRec).f1 = 3
  · rw [e1]
    simp only [Function.comp, h3, decide_true, Bool.and_true]
    exact Bool.and_comm _ _
  · have h0 := outF_none hs hcf hk h3
    rw [e1]
    simp only [Function.comp, h3, decide_false, Bool.and_false]
    have h0' : outF m (r.getD k zRec).f0 = 0 := h0
    rw [h0']
    simp
set_option maxHeartbeats 16000000 in
theorem refRecall_calls (A B C : Option Addr) (c c' c2 : Nat) (r : List RecT) (l : List LetT) (m : List MovT) (day : Int) (w : World) (hr : Kd.C recK w A r.length r) (hl : Kd.C letK w B l.length l) (hm : Kd.C movK w C m.length m) (hk : Bytes r) (hkl : BytesL l) (hkm : BytesM m) :
    Calls Tryd.prog 16 #[.slice A r.length c, .slice B l.length c', .slice C m.length c2, .int .i64 day] w fun e w' => ∃ rr : RowR, e = .returned (.tuple #[valR rr (recallR r l m day).length, .int .i64 (recallN r l m day), .int .i64 (recallC r l m day)]) ∧ RowAt 3 w.heap.size w' rr (recallR r l m day) ∧ Below w.heap.size w w' := by
  refine x_calls (X := XNone) Tryd.func16 rfl rfl rfl ?_
  with_reducible repeat refine xc_seq ?_
  with_reducible refine xc_region ?_
  refine xo_asg rfl rfl rfl ?_
  refine xo_asg rfl rfl rfl ?_
  refine xo_asg rfl rfl rfl ?_
  with_reducible refine xo_nil ?_
  with_reducible repeat (first | refine xq_then ?_ | refine xq_blockN ?_ | refine xq_scopeN ?_)
  with_reducible repeat refine xc_seq ?_
  with_reducible refine xc_region ?_
  refine xo_mv rfl rfl rfl ?_
  refine xo_mv rfl rfl rfl ?_
  refine xo_callB (fs := []) (cs := []) rfl rfl rfl refCheck_enters rfl (fun w1 hw1 => refCheck_calls A B c c' r l w1 (Kd.C_below hr hw1.kx.below) (Kd.C_below hl hw1.kx.below) hk hkl) ?_
  refine xo_asg rfl rfl rfl ?_
  with_reducible refine xo_nil ?_
  with_reducible repeat (first | refine xq_then ?_ | refine xq_blockN ?_ | refine xq_scopeN ?_)
  with_reducible repeat refine xc_seq ?_
  with_reducible refine xc_region ?_
  refine xo_mv rfl rfl rfl ?_
  refine xo_neq rfl rfl rfl rfl ?_
  with_reducible refine xo_nil ?_
  with_reducible repeat (first | refine xq_then ?_ | refine xq_blockN ?_ | refine xq_scopeN ?_)
  with_reducible repeat refine xc_seq ?_
  refine xc_cond rfl (fun hck => ?_) (fun hck => ?_)
  · have hck : ¬ checkF r l = 0 := by simpa using hck
    have e1 : recallC r l m day = checkF r l := by rw [recallC, if_neg hck]
    have e2 : recallR r l m day = [] := by rw [recallR, e1, if_neg hck]
    have e3 : recallN r l m day = 0 := by rw [recallN, e2]; rfl
    with_reducible repeat refine xc_seq ?_
    with_reducible refine xc_region ?_
    refine xo_mv rfl rfl rfl ?_
    refine xo_asg rfl rfl rfl ?_
    refine xo_asg rfl rfl rfl ?_
    refine xo_asg rfl rfl rfl ?_
    with_reducible refine xo_nil ?_
    with_reducible repeat (first | refine xq_then ?_ | refine xq_blockN ?_ | refine xq_scopeN ?_)
    with_reducible repeat refine xc_seq ?_
    with_reducible refine xc_ret ?_
    with_reducible repeat (first | refine xq_thenR ?_ | refine xq_blockR ?_ | refine xq_scopeR ?_)
    refine xq_ret3 rfl rfl rfl rfl fun w' hw => ⟨none, by rw [e1, e2, e3]; rfl, ?_, hw.kx.below⟩
    rw [e2]
    exact ⟨fun _ => rfl, fun p hp => by cases hp⟩
  have hck : checkF r l = 0 := by simpa using hck
  have hrec := check_zero hck
  have hs := sorted_of hrec
  have hlen := recorded_len hrec
  with_reducible refine xc_skip ?_
  with_reducible repeat (first | refine xq_then ?_ | refine xq_blockN ?_ | refine xq_scopeN ?_)
  with_reducible repeat refine xc_seq ?_
  with_reducible refine xc_region ?_
  refine xo_mv rfl rfl rfl ?_
  refine xo_mv rfl rfl rfl ?_
  refine xo_callB (fs := []) (cs := []) rfl rfl rfl moves_enters rfl (fun w1 hw1 => moves_calls A C c c2 r m w1 (Kd.C_below hr hw1.kx.below) (Kd.C_below hm hw1.kx.below) hkm hs) ?_
  refine xo_notOp rfl rfl rfl ?_
  with_reducible refine xo_nil ?_
  with_reducible repeat (first | refine xq_then ?_ | refine xq_blockN ?_ | refine xq_scopeN ?_)
  with_reducible repeat refine xc_seq ?_
  refine xc_cond rfl (fun hcf => ?_) (fun hcf => ?_)
  · simp only [Bool.not_eq_true'] at hcf
    have e1 : recallC r l m day = 82 := by rw [recallC, if_pos hck, hcf]; rfl
    have e2 : recallR r l m day = [] := by rw [recallR, e1]; rfl
    have e3 : recallN r l m day = 0 := by rw [recallN, e2]; rfl
    with_reducible repeat refine xc_seq ?_
    with_reducible refine xc_region ?_
    refine xo_asg rfl rfl rfl ?_
    refine xo_asg rfl rfl rfl ?_
    refine xo_asg rfl rfl rfl ?_
    with_reducible refine xo_nil ?_
    with_reducible repeat (first | refine xq_then ?_ | refine xq_blockN ?_ | refine xq_scopeN ?_)
    with_reducible repeat refine xc_seq ?_
    with_reducible refine xc_ret ?_
    with_reducible repeat (first | refine xq_thenR ?_ | refine xq_blockR ?_ | refine xq_scopeR ?_)
    refine xq_ret3 rfl rfl rfl rfl fun w' hw => ⟨none, by rw [e1, e2, e3]; rfl, ?_, hw.kx.below⟩
    rw [e2]
    exact ⟨fun _ => rfl, fun p hp => by cases hp⟩
  simp only [Bool.not_eq_false'] at hcf
  have hpm : ∀ x ∈ m, 1 ≤ x.f3 ∧ x.f3 ≤ 100000 := fun x hx => by
    rw [countF, Bool.and_eq_true] at hcf
    exact (movesL_mem m _ _ hcf.1 x hx).2.2
  have hml : m.length ≤ 40 := by
    by_cases h : 40 < m.length
    · rw [countF_long h] at hcf; cases hcf
    · omega
  have e0 : recallC r l m day = if inF 0 100000 day then 0 else 2 := by rw [recallC, if_pos hck, hcf, ← openF_day hck]; rfl
  with_reducible refine xc_skip ?_
  with_reducible repeat (first | refine xq_then ?_ | refine xq_blockN ?_ | refine xq_scopeN ?_)
  with_reducible repeat refine xc_seq ?_
  with_reducible refine xc_region ?_
  refine xo_mv rfl rfl rfl ?_
  refine xo_callB (fs := []) (cs := []) rfl rfl rfl within_enters rfl (fun w1 hw1 => within_calls _ _ _ w1) ?_
  refine xo_notOp rfl rfl rfl ?_
  with_reducible refine xo_nil ?_
  with_reducible repeat (first | refine xq_then ?_ | refine xq_blockN ?_ | refine xq_scopeN ?_)
  with_reducible repeat refine xc_seq ?_
  refine xc_cond rfl (fun hd => ?_) (fun hd => ?_)
  · simp only [Bool.not_eq_true'] at hd
    rw [hd] at e0
    have e2 : recallR r l m day = [] := by rw [recallR, e0]; rfl
    have e3 : recallN r l m day = 0 := by rw [recallN, e2]; rfl
    with_reducible repeat refine xc_seq ?_
    with_reducible refine xc_region ?_
    refine xo_asg rfl rfl rfl ?_
    refine xo_asg rfl rfl rfl ?_
    refine xo_asg rfl rfl rfl ?_
    with_reducible refine xo_nil ?_
    with_reducible repeat (first | refine xq_then ?_ | refine xq_blockN ?_ | refine xq_scopeN ?_)
    with_reducible repeat refine xc_seq ?_
    with_reducible refine xc_ret ?_
    with_reducible repeat (first | refine xq_thenR ?_ | refine xq_blockR ?_ | refine xq_scopeR ?_)
    refine xq_ret3 rfl rfl rfl rfl fun w' hw => ⟨none, by rw [e0, e2, e3]; rfl, ?_, hw.kx.below⟩
    rw [e2]
    exact ⟨fun _ => rfl, fun p hp => by cases hp⟩
  simp only [Bool.not_eq_false'] at hd
  rw [hd, if_pos rfl] at e0
  have e2 : recallR r l m day = (idsL r).filter fun n => !decide (n ∈ holdsF r (goneF r l day)) && decide (0 < outF m n) := by rw [recallR, if_pos e0, heldF, held_all hs hcf]
  have hil : (idsL r).length = r.length := by simp [idsL]
  with_reducible refine xc_skip ?_
  with_reducible repeat (first | refine xq_then ?_ | refine xq_blockN ?_ | refine xq_scopeN ?_)
  with_reducible repeat refine xc_seq ?_
  with_reducible refine xc_region ?_
  refine xo_mv rfl rfl rfl ?_
  refine xo_mv rfl rfl rfl ?_
  refine xo_mv rfl rfl rfl ?_
  refine xo_mv rfl rfl rfl ?_
  refine xo_call (fs := []) (cs := []) rfl rfl rfl gone_enters rfl (fun w1 hw1 => (gone_calls A B c c' r l day w1 (Kd.C_below hr hw1.kx.below) (Kd.C_below hl hw1.kx.below) (by omega) hkl).mono ?_)
  rintro e w2 ⟨bg, og, rfl, hb, hge, h1, h2⟩
  rw [goneBs_in] at h2
  refine ⟨_, _, rfl, hw1.more hb hge h1 h2, ?_⟩
  clear hb hge h1 h2 hw1
  refine xo_call (fs := []) (cs := []) rfl rfl rfl hold_enters rfl (fun w1 hw1 => (hold_calls A _ c _ r (goneF r l day) w1 (Kd.C_below hr hw1.kx.below) (C_inB hw1 (by repeat (first | exact List.Mem.head _ | apply List.Mem.tail | apply List.mem_append_right)) (by omega)) hrec).mono ?_)
  rintro e w3 ⟨bh, oh, rfl, hb, hge, h1, h2⟩
  refine ⟨_, _, rfl, hw1.more hb hge h1 h2, ?_⟩
  clear hb hge h1 h2 hw1
  refine xo_asg rfl rfl rfl ?_
  with_reducible refine xo_nil ?_
  with_reducible repeat (first | refine xq_then ?_ | refine xq_blockN ?_ | refine xq_scopeN ?_)
  with_reducible repeat refine xc_seq ?_
  with_reducible refine xc_region ?_
  refine xo_asg rfl rfl rfl ?_
  with_reducible refine xo_nil ?_
  with_reducible repeat (first | refine xq_then ?_ | refine xq_blockN ?_ | refine xq_scopeN ?_)
  with_reducible repeat refine xc_seq ?_
  with_reducible refine xc_region ?_
  refine xo_asg rfl rfl rfl ?_
  with_reducible refine xo_nil ?_
  with_reducible repeat (first | refine xq_then ?_ | refine xq_blockN ?_ | refine xq_scopeN ?_)
  with_reducible repeat refine xc_seq ?_
  with_reducible refine xc_region ?_
  refine xo_asg rfl rfl rfl ?_
  with_reducible refine xo_nil ?_
  with_reducible repeat (first | refine xq_then ?_ | refine xq_blockN ?_ | refine xq_scopeN ?_)
  generalize hH : holdsF r (goneF r l day) = H at *
  have hacc1 : ∀ k, ((((idsL r).take k).filter fun n => !decide (n ∈ H) && decide (0 < outF m n)).length : Int) ≤ r.length := fun k => by
    have h1 := List.length_filter_le (fun n => !decide (n ∈ H) && decide (0 < outF m n)) ((idsL r).take k)
    rw [List.length_take] at h1
    omega
  have hsucc : ∀ k, k < r.length → (((idsL r).take (k + 1)).filter fun n => !decide (n ∈ H) && decide (0 < outF m n)) = (((idsL r).take k).filter fun n => !decide (n ∈ H) && decide (0 < outF m n)) ++ (if (!decide (idAt r k ∈ H) && decide (0 < outF m (idAt r k))) = true then [idAt r k] else []) := fun k hk => by
    have hk' : k < (idsL r).length := by omega
    have h1 : (idsL r)[k] = idAt r k := by have := idsL_at hk; rw [List.getD_eq_getElem?_getD, List.getElem?_eq_getElem hk'] at this; exact this
    rw [List.take_succ_eq_append_getElem hk', List.filter_append, h1]
    congr 1
    simp only [List.filter_cons, List.filter_nil]
  with_reducible repeat refine xc_seq ?_
  with_reducible refine xc_block ?_
  refine xc_loop (γ := Nat × RowR) (fun q => q.1 ≤ r.length ∧ (q.2 = none → (((idsL r).take q.1).filter fun n => !decide (n ∈ H) && decide (0 < outF m n)) = [])) (fun q => [(0, .slice A r.length c), (2, .slice C m.length c2), (12, .slice (some ⟨bh, 0, none⟩) r.length r.length), (13, valR q.2 (((idsL r).take q.1).filter fun n => !decide (n ∈ H) && decide (0 < outF m n)).length), (14, .int .i64 (((((idsL r).take q.1).filter fun n => !decide (n ∈ H) && decide (0 < outF m n)).map (outF m)).sum)), (15, .int .i64 (q.1 : Int))])
    (fun q => hpR 3 1 q.2 (((idsL r).take q.1).filter fun n => !decide (n ∈ H) && decide (0 < outF m n)).length ((((idsL r).take q.1).filter fun n => !decide (n ∈ H) && decide (0 < outF m n)).map (.int .i64)) ++ [(bh, true, cel ((inB r H).map .bool) 4)]) (fun q => r.length - q.1) (0, none) ⟨Nat.zero_le _, fun _ => rfl⟩ ⟨rfl, rfl, rfl, rfl, rfl, rfl, trivial⟩ (by repeat (first | exact List.Sublist.refl _ | apply List.Sublist.cons_cons | apply List.Sublist.cons | exact List.nil_sublist _)) ?_
  rintro ⟨k, rr⟩ ⟨hk1, hrr⟩
  simp only at hk1 hrr ⊢
  with_reducible repeat refine xc_seq ?_
  with_reducible refine xc_region ?_
  refine xo_mv rfl rfl rfl ?_
  refine xo_mv rfl rfl rfl ?_
  refine xo_len T_ rfl rfl rfl rfl ?_
  refine xo_lss rfl rfl rfl rfl ?_
  with_reducible refine xo_nil ?_
  with_reducible repeat (first | refine xq_then ?_ | refine xq_blockN ?_ | refine xq_scopeN ?_)
  with_reducible repeat refine xc_seq ?_
  refine xc_cond rfl (fun h => ?_) (fun h => ?_)
  · have hlt : k < r.length := by have := of_decide_eq_true h; omega
    obtain ⟨ad, A2, c3, rfl, r1, hc2, hw2⟩ := rec_at hr k hlt
    have hsk := hsucc k hlt
    have hBs := count_B hcf (idAt r k)
    have hsum := recSum_B hcf (((idsL r).take k).filter fun n => !decide (n ∈ H) && decide (0 < outF m n))
    have hac := hacc1 k
    unfold StB at hBs
    have hld : ((inB r H).map Value.bool)[0 + (k : Int).toNat * szN 0]? = some (.bool (decide (idAt r k ∈ H))) := by
      rw [show 0 + (k : Int).toNat * szN 0 = k by simp [szN]]
      have := inB_get (H := H) hlt
      have hl : k < (inB r H).length := by rw [inB_len]; exact hlt
      simp only [List.getElem?_map, List.getElem?_eq_getElem hl, Option.map_some]
      rw [List.getD_eq_getElem?_getD, List.getElem?_eq_getElem hl] at this
      exact congrArg (fun b => some (Value.bool b)) this
    have hid : (r.getD k zRec).f0 = idAt r k := rfl
    generalize r.getD k zRec = x at *
    rw [← hid] at hBs hld hsk
    with_reducible refine xc_skip ?_
    with_reducible repeat (first | refine xq_then ?_ | refine xq_blockN ?_ | refine xq_scopeN ?_)
    with_reducible repeat refine xc_seq ?_
    with_reducible refine xc_block ?_
    with_reducible repeat refine xc_seq ?_
    with_reducible refine xc_region ?_
    refine xo_mv rfl rfl rfl ?_
    refine xo_mv rfl rfl rfl ?_
    refine xo_mv rfl rfl rfl ?_
    refine xo_ia T_ rfl rfl rfl rfl rfl ⟨by omega, by omega⟩ rfl ?_
    refine xo_faR T_ rfl rfl rfl rfl rfl ?_
    refine xo_loadR0 T_ rfl rfl rfl (by first | assumption | exact RO.fld (by assumption) rfl) rfl ?_
    refine xo_callB (fs := []) (cs := []) rfl rfl rfl store_enters rfl (fun w1 hw1 => store_calls _ _ m x.f0 w1 (Kd.C_below hm hw1.kx.below) hpm (by omega)) ?_
    refine xo_alloc T_ rfl rfl rfl rfl (fun b16 => ?_)
    refine xo_store T_ rfl rfl rfl rfl (by repeat (first | exact List.Mem.head _ | apply List.Mem.tail | apply List.mem_append_right)) rfl rfl rfl rfl (by repeat (first | exact Upd.head | apply Upd.tail | apply Upd.app)) rfl ?_
    with_reducible refine xo_nil ?_
    with_reducible repeat (first | refine xq_then ?_ | refine xq_blockN ?_ | refine xq_scopeN ?_)
    with_reducible repeat refine xc_seq ?_
    with_reducible refine xc_region ?_
    refine xo_fa T_ rfl rfl rfl rfl rfl ?_
    refine xo_load0 T_ rfl rfl rfl (by repeat (first | exact List.Mem.head _ | apply List.Mem.tail | apply List.mem_append_right)) rfl rfl ?_
    refine xo_fa T_ rfl rfl rfl rfl rfl ?_
    refine xo_load0 T_ rfl rfl rfl (by repeat (first | exact List.Mem.head _ | apply List.Mem.tail | apply List.mem_append_right)) rfl rfl ?_
    refine xo_sub rfl rfl rfl (by omega) rfl ?_
    refine xo_asg rfl rfl rfl ?_
    with_reducible refine xo_nil ?_
    with_reducible repeat (first | refine xq_then ?_ | refine xq_blockN ?_ | refine xq_scopeN ?_)
    have hcc : (!decide (x.f0 ∈ H) && decide (0 < outF m x.f0)) = true ∨ (!decide (x.f0 ∈ H) && decide (0 < outF m x.f0)) = false := by cases (!decide (x.f0 ∈ H) && decide (0 < outF m x.f0)) <;> simp
    cases hnh : !decide (x.f0 ∈ H) <;> cases hpo : decide (0 < (storeF m x.f0).d - (storeF m x.f0).b)
    all_goals
      with_reducible repeat refine xc_seq ?_
      with_reducible refine xc_region ?_
      refine xo_mv rfl rfl rfl ?_
      refine xo_mv rfl rfl rfl ?_
      refine xo_ia T_ rfl rfl rfl rfl rfl ⟨by omega, by omega⟩ rfl ?_
      refine xo_loadI T_ rfl rfl rfl (by repeat (first | exact List.Mem.head _ | exact List.mem_append_left _ (List.Mem.head _) | apply List.mem_append_right | apply List.Mem.tail)) hld rfl ?_
      refine xo_notOp rfl rfl rfl ?_
      refine xo_as (i := 59) rfl (congrArg Value.bool hnh) ?_
      refine xo_mv rfl rfl rfl ?_
      first
        | refine xo_not rfl rfl ?_
        | (refine xo_mv rfl rfl rfl ?_)
      first
        | refine xo_not rfl rfl ?_
        | (refine xo_gtr rfl rfl rfl rfl ?_)
      first | refine xo_as (i := 62) rfl (congrArg Value.bool hpo) ?_ | skip
      first | refine xo_pickT rfl rfl rfl rfl ?_ | refine xo_pickF rfl rfl rfl rfl ?_
      with_reducible refine xo_nil ?_
      with_reducible repeat (first | refine xq_then ?_ | refine xq_blockN ?_ | refine xq_scopeN ?_)
      with_reducible repeat refine xc_seq ?_
      first | refine xc_condT rfl ?_ | refine xc_condF rfl ?_
    rotate_left
    rotate_left
    rotate_left
    · have hc1 : (!decide (x.f0 ∈ H) && decide (0 < outF m x.f0)) = true := by rw [hnh, outF, hpo]; rfl
      rw [if_pos hc1] at hsk
      have hs9 := congrArg (fun l => (l.map (outF m)).sum) hsk
      simp only [List.map_append, List.sum_append, List.map_cons, List.map_nil, List.sum_cons, List.sum_nil, Int.add_zero] at hs9
      have hs8 := congrArg List.length hsk
      simp only [List.length_append, List.length_cons, List.length_nil, Nat.zero_add] at hs8
      have hs7 := congrArg (fun l => l.map (Value.int .i64)) hsk
      simp only [List.map_append, List.map_cons, List.map_nil] at hs7
      refine xc_sub (η' := hpR 3 1 rr (((idsL r).take k).filter fun n => !decide (n ∈ H) && decide (0 < outF m n)).length ((((idsL r).take k).filter fun n => !decide (n ∈ H) && decide (0 < outF m n)).map (.int .i64)) ++ [(bh, true, cel ((inB r H).map .bool) 4)]) (List.sublist_cons_self _ _) ?_
      with_reducible repeat refine xc_seq ?_
      with_reducible refine xc_region ?_
      refine xo_mv rfl rfl rfl ?_
      refine xo_mv rfl rfl rfl ?_
      refine xo_mv rfl rfl rfl ?_
      refine xo_ia T_ rfl rfl rfl rfl rfl ⟨by omega, by omega⟩ rfl ?_
      refine xo_faR T_ rfl rfl rfl rfl rfl ?_
      refine xo_loadR0 T_ rfl rfl rfl (by first | assumption | exact RO.fld (by assumption) rfl) rfl ?_
      refine xo_bs1 T_ rfl rfl rfl rfl rfl rfl rfl rfl (fun b70 => ?_)
      refine xo_app TR_ rfl rfl rfl rfl rfl rfl rfl rfl (by simp) rfl rfl (fun h => by rw [hrr h]; rfl) (by omega) rfl rfl (fun r' hr' => ?_)
      refine xo_asg rfl rfl rfl ?_
      with_reducible refine xo_nil ?_
      with_reducible repeat (first | refine xq_then ?_ | refine xq_blockN ?_ | refine xq_scopeN ?_)
      with_reducible repeat refine xc_seq ?_
      with_reducible refine xc_region ?_
      refine xo_mv rfl rfl rfl ?_
      refine xo_mv rfl rfl rfl ?_
      refine xo_add rfl rfl rfl (by omega) rfl ?_
      refine xo_asg rfl rfl rfl ?_
      with_reducible refine xo_nil ?_
      with_reducible repeat (first | refine xq_then ?_ | refine xq_blockN ?_ | refine xq_scopeN ?_)
      with_reducible repeat refine xc_seq ?_
      with_reducible refine xc_region ?_
      refine xo_mv rfl rfl rfl ?_
      refine xo_add rfl rfl rfl (by omega) rfl ?_
      refine xo_asg rfl rfl rfl ?_
      with_reducible refine xo_nil ?_
      with_reducible repeat (first | refine xq_then ?_ | refine xq_blockN ?_ | refine xq_scopeN ?_)
      refine xq_again _ _ _ _ _ (k + 1, r') ⟨hlt, fun h => absurd h hr'⟩ (by first | omega | (simp only; omega)) ⟨rfl, rfl, rfl, by simp only [hs8]; rfl, by simp only [hs9]; rfl, rfl, trivial⟩ ?_
      simp only [hs8, hs7]
      exact List.Sublist.refl _
    all_goals
      have hc1 : ¬ (!decide (x.f0 ∈ H) && decide (0 < outF m x.f0)) = true := by rw [hnh, outF, hpo]; simp
      rw [if_neg hc1, List.append_nil] at hsk
      with_reducible refine xc_skip ?_
      with_reducible repeat (first | refine xq_then ?_ | refine xq_blockN ?_ | refine xq_scopeN ?_)
      with_reducible repeat refine xc_seq ?_
      with_reducible refine xc_region ?_
      refine xo_mv rfl rfl rfl ?_
      refine xo_add rfl rfl rfl (by omega) rfl ?_
      refine xo_asg rfl rfl rfl ?_
      with_reducible refine xo_nil ?_
      with_reducible repeat (first | refine xq_then ?_ | refine xq_blockN ?_ | refine xq_scopeN ?_)
      refine xq_again _ _ _ _ _ (k + 1, rr) ⟨hlt, by rw [hsk]; exact hrr⟩ (by first | omega | (simp only; omega)) ⟨rfl, rfl, rfl, by simp only [hsk]; rfl, by simp only [hsk]; rfl, rfl, trivial⟩ ?_
      simp only [hsk]
      exact List.sublist_cons_self _ _
  · have hge : ¬ k < r.length := by have := of_decide_eq_false h; omega
    have hall : (((idsL r).take k).filter fun n => !decide (n ∈ H) && decide (0 < outF m n)) = recallR r l m day := by rw [e2, List.take_of_length_le (by omega)]
    simp only [hall] at hrr ⊢
    with_reducible refine xc_exit ?_
    with_reducible repeat (first | refine xq_blockX ?_ | refine xq_thenE ?_ | refine xq_blockE rfl ?_ | refine xq_scopeE ?_)
    with_reducible repeat (first | refine xq_then ?_ | refine xq_blockN ?_ | refine xq_scopeN ?_)
    with_reducible repeat refine xc_seq ?_
    with_reducible refine xc_region ?_
    refine xo_mv rfl rfl rfl ?_
    refine xo_mv rfl rfl rfl ?_
    refine xo_asg rfl rfl rfl ?_
    refine xo_asg rfl rfl rfl ?_
    refine xo_asg rfl rfl rfl ?_
    with_reducible refine xo_nil ?_
    with_reducible repeat (first | refine xq_then ?_ | refine xq_blockN ?_ | refine xq_scopeN ?_)
    with_reducible repeat refine xc_seq ?_
    with_reducible refine xc_ret ?_
    with_reducible repeat (first | refine xq_thenR ?_ | refine xq_blockR ?_ | refine xq_scopeR ?_)
    exact xq_ret3 rfl rfl rfl rfl fun w' hw => ⟨rr, by rw [e0]; rfl, RowAt.of hw hrr, hw.kx.below⟩
theorem refRecall_enters : ∀ args w, (callFunc 16 args).run Tryd.prog w = .ok (.enter 16 args) w := enters_of Tryd.func16 (by kernel_rfl) rfl
theorem eqMov (d : Nat) (w : World) (x y : MovT) :
    (Op.equalIn (d + 2) 54 (.agg (movV x).toArray) (.agg (movV y).toArray)).run Tryd.prog w = .ok (x.f0 == y.f0 && (x.f1 == y.f1 && (x.f2 == y.f2 && (x.f3 == y.f3)))) w := by
  refine eqA_of Tryd.underlying54 (by kernel_rfl) ?_
  refine eqf_cons (by rfl) (by go_simp; rfl) (by go_simp; rfl) (by go_simp) ?_
  refine eqf_cons (by rfl) (by go_simp; rfl) (by go_simp; rfl) (by go_simp) ?_
  refine eqf_cons (by rfl) (by go_simp; rfl) (by go_simp; rfl) (by go_simp) ?_
  exact eqf_last (by rfl) (by go_simp; rfl) (by go_simp; rfl) (by go_simp)
section
variable {ro : Option Nat} {n N : Nat} {ds : List Deferred} {w0 : World} {X : Nat → Prop} {Q : Exit → Act → World → Prop} {σ : Slots} {η : Hp} {ops rest : List Oper} {d : Option Tmp} {ty pos aft} {g : Option (Nat × Bool)}
attribute [local go_sem high] eqMov
theorem xo_neqMov {u v : Operand} {t' : TypeId} {a : MovT} (hg : gS ops σ g = some true) (hx : ev σ u = some (.agg (movV a).toArray)) (hy : ev σ v = some (.agg (movV a).toArray)) (hN : dstOK N d = true)
    (h : XO Tryd.prog ro n N ds w0 X Q ops (putS d (.bool false) σ) η rest) : XO Tryd.prog ro n N ds w0 X Q ops σ η (⟨d, .binOp .neq 54 u v t', ty, pos, aft, g⟩ :: rest) :=
  xo_val _ rfl hg hN (fun _ w ha hw => by
    simp only [execOp, ha.ev hx, ha.ev hy]
    go_simp) h
end
theorem sameMoves_calls (A B : Option Addr) (c c' : Nat) (xs : List MovT) (w : World) (hr : Kd.C movK w A xs.length xs) (hl : Kd.C movK w B xs.length xs) :
    Calls Tryd.prog 18 #[.slice A xs.length c, .slice B xs.length c'] w fun e w' => e = .returned (.bool true) ∧ Below w.heap.size w w' := by
  have hn := hr.2.1
  refine x_calls (X := XNone) Tryd.func18 rfl rfl rfl ?_
  with_reducible repeat refine xc_seq ?_
  with_reducible refine xc_region ?_
  refine xo_asg rfl rfl rfl ?_
  with_reducible refine xo_nil ?_
  with_reducible repeat (first | refine xq_then ?_ | refine xq_blockN ?_ | refine xq_scopeN ?_)
  have h0 : (!decide ((xs.length : Int) = (xs.length : Int))) = false := by simp
  with_reducible repeat refine xc_seq ?_
  with_reducible refine xc_region ?_
  refine xo_mv rfl rfl rfl ?_
  refine xo_len T_ rfl rfl rfl rfl ?_
  refine xo_mv rfl rfl rfl ?_
  refine xo_len T_ rfl rfl rfl rfl ?_
  refine xo_neq rfl rfl rfl rfl ?_
  refine xo_as (i := 10) rfl (congrArg Value.bool h0) ?_
  with_reducible refine xo_nil ?_
  with_reducible repeat (first | refine xq_then ?_ | refine xq_blockN ?_ | refine xq_scopeN ?_)
  with_reducible repeat refine xc_seq ?_
  refine xc_condF rfl ?_
  with_reducible refine xc_skip ?_
  with_reducible repeat (first | refine xq_then ?_ | refine xq_blockN ?_ | refine xq_scopeN ?_)
  with_reducible repeat refine xc_seq ?_
  with_reducible refine xc_region ?_
  refine xo_asg rfl rfl rfl ?_
  with_reducible refine xo_nil ?_
  with_reducible repeat (first | refine xq_then ?_ | refine xq_blockN ?_ | refine xq_scopeN ?_)
  with_reducible repeat refine xc_seq ?_
  with_reducible refine xc_block ?_
  refine xc_loop (γ := Nat) (fun k => k ≤ xs.length) (fun k => [(0, .slice A xs.length c), (1, .slice B xs.length c'), (5, .int .i64 (k : Int))]) (fun _ => []) (fun k => xs.length - k) 0
    (Nat.zero_le _) ⟨rfl, rfl, rfl, trivial⟩ (List.Sublist.refl _) ?_
  intro k hk
  with_reducible repeat refine xc_seq ?_
  with_reducible refine xc_region ?_
  refine xo_mv rfl rfl rfl ?_
  refine xo_mv rfl rfl rfl ?_
  refine xo_len T_ rfl rfl rfl rfl ?_
  refine xo_lss rfl rfl rfl rfl ?_
  with_reducible refine xo_nil ?_
  with_reducible repeat (first | refine xq_then ?_ | refine xq_blockN ?_ | refine xq_scopeN ?_)
  with_reducible repeat refine xc_seq ?_
  refine xc_cond rfl (fun h => ?_) (fun h => ?_)
  · have hlt : k < xs.length := by have := of_decide_eq_true h; omega
    obtain ⟨ad, rfl, r1⟩ := mov_at hr k hlt
    obtain ⟨bd, rfl, r2⟩ := mov_at hl k hlt
    with_reducible refine xc_skip ?_
    with_reducible repeat (first | refine xq_then ?_ | refine xq_blockN ?_ | refine xq_scopeN ?_)
    with_reducible repeat refine xc_seq ?_
    with_reducible refine xc_block ?_
    with_reducible repeat refine xc_seq ?_
    apply xc_drawN
    · exact T_.mixed
    · rfl
    · rfl
    · rfl
    · rfl
    · apply DrawOps.cons
      · intro τ
        refine xo_mv rfl rfl rfl ?_
        exact xo_fin rfl
      apply DrawOps.cons
      · intro τ
        refine xo_mv rfl rfl rfl ?_
        exact xo_fin rfl
      apply DrawOps.cons
      · intro τ
        refine xo_ia T_ rfl rfl rfl rfl rfl ⟨by omega, by omega⟩ rfl ?_
        exact xo_fin rfl
      apply DrawOps.cons
      · intro τ
        refine xo_loadRN T_ rfl rfl rfl (by assumption) rfl rfl ?_
        exact xo_fin rfl
      apply DrawOps.cons
      · intro τ
        refine xo_mv rfl rfl rfl ?_
        exact xo_fin rfl
      apply DrawOps.cons
      · intro τ
        refine xo_mv rfl rfl rfl ?_
        exact xo_fin rfl
      apply DrawOps.cons
      · intro τ
        refine xo_ia T_ rfl rfl rfl rfl rfl ⟨by omega, by omega⟩ rfl ?_
        exact xo_fin rfl
      apply DrawOps.cons
      · intro τ
        refine xo_loadRN T_ rfl rfl rfl (by assumption) rfl rfl ?_
        exact xo_fin rfl
      apply DrawOps.cons
      · intro τ
        refine xo_neqMov rfl rfl rfl rfl ?_
        exact xo_fin rfl
      exact DrawOps.nil
    · rfl
    with_reducible repeat (first | refine xq_then ?_ | refine xq_blockN ?_ | refine xq_scopeN ?_)
    with_reducible repeat refine xc_seq ?_
    refine xc_condF rfl ?_
    with_reducible refine xc_skip ?_
    with_reducible repeat (first | refine xq_then ?_ | refine xq_blockN ?_ | refine xq_scopeN ?_)
    with_reducible repeat refine xc_seq ?_
    with_reducible refine xc_region ?_
    refine xo_mv rfl rfl rfl ?_
    refine xo_add rfl rfl rfl (by omega) rfl ?_
    refine xo_asg rfl rfl rfl ?_
    with_reducible refine xo_nil ?_
    with_reducible repeat (first | refine xq_then ?_ | refine xq_blockN ?_ | refine xq_scopeN ?_)
    exact xq_again _ _ _ _ _ (k + 1) (by omega) (by omega) ⟨rfl, rfl, rfl, trivial⟩ (List.Sublist.refl _)
  · have hge : ¬ k < xs.length := by have := of_decide_eq_false h; omega
    with_reducible refine xc_exit ?_
    with_reducible repeat (first | refine xq_blockX ?_ | refine xq_thenE ?_ | refine xq_blockE rfl ?_ | refine xq_scopeE ?_)
    with_reducible repeat (first | refine xq_then ?_ | refine xq_blockN ?_ | refine xq_scopeN ?_)
    with_reducible repeat refine xc_seq ?_
    with_reducible refine xc_region ?_
    refine xo_asg rfl rfl rfl ?_
    with_reducible refine xo_nil ?_
    with_reducible repeat (first | refine xq_then ?_ | refine xq_blockN ?_ | refine xq_scopeN ?_)
    with_reducible repeat refine xc_seq ?_
    with_reducible refine xc_ret ?_
    with_reducible repeat (first | refine xq_thenR ?_ | refine xq_blockR ?_ | refine xq_scopeR ?_)
    exact xq_ret1 rfl rfl fun w' hw => ⟨rfl, hw.kx.below⟩
theorem sameMoves_enters : ∀ args w, (callFunc 18 args).run Tryd.prog w = .ok (.enter 18 args) w := enters_of Tryd.func18 (by kernel_rfl) rfl
end Go.Proofs.YtcmepdamemnbkaaDoor
namespace Go.Proofs.YtcmepdamemnbkaaDoor
open Go.RowKit Go.Proofs.YtcmepdamemnbkaaDoorW.PrintWords
set_option linter.unusedVariables false
set_option linter.unusedSimpArgs false
end Go.Proofs.YtcmepdamemnbkaaDoor
namespace Go.Proofs.YtcmepdamemnbkaaDoor
open Go.RowKit Go.Proofs.YtcmepdamemnbkaaDoorW.PrintWords
set_option linter.unusedVariables false
set_option linter.unusedSimpArgs false
theorem eq_tt {x : Int} : decide (x = x) = true := by simp
/-- two rows that are alike, of a call's results -/
theorem sameRows {w0 w : World} {X : Nat → Prop} {η : Hp} (hw : WOK w0 X η w) {rr rr2 : RowR} {xs : List Int} (hl : xs.length ≤ 1000000) (h1 : RowAt 3 0 w rr xs) (h2 : RowAt 3 0 w rr2 xs) :
    Calls Tryd.prog 17 ([] ++ [valR rr xs.length, valR rr2 xs.length] ++ []).toArray w fun e w' => e = .returned (.bool true) ∧ Below w.heap.size w w' := by
  obtain ⟨A, c, e1, _, hA⟩ := h1.C (by omega)
  obtain ⟨B, c2, e2, _, hB⟩ := h2.C (by omega)
  rw [e1, e2]
  exact sameInts_calls A B c c2 xs w hA hB
theorem u8_of {n : Int} (h : (Lit.int .u8 n).wf = true) : 0 ≤ n ∧ n ≤ 255 := by
  simp only [Lit.wf, Bool.and_eq_true, decide_eq_true_eq] at h
  exact h
end Go.Proofs.YtcmepdamemnbkaaDoor
namespace Go.Proofs.YtcmepdamemnbkaaDoor
open Go.RowKit Go.Proofs.YtcmepdamemnbkaaDoorW.PrintWords
set_option linter.unusedVariables false
set_option linter.unusedSimpArgs false
theorem movs_own {w0 w : World} {X : Nat → Prop} {η : Hp} (hw : WOK w0 X η w) {b cap : Nat} {l : List MovT} {cells : List (List Value)} (hm : (b, true, orow 54 4 l.length cap cells.flatten) ∈ η) (hl : cells.length = l.length) (hc : ∀ c ∈ cells, c.length = 4)
    (hK : ∀ (j : Nat) (x : MovT) (c : List Value), l[j]? = some x → cells[j]? = some c → c = movV x) (hlen : l.length ≤ 1000000) : Kd.C movK w (some ⟨b, 0, none⟩) l.length l := by
  obtain ⟨o, h1, h2⟩ := hw.bl _ hm
  refine C_row (d := movK) (cells := cells) (cap := cap) h1 (e := 54) (by rw [hl]; exact h2) hl hc (fun j x c hx hcx => ?_) (by omega)
  rw [hK j x c hx hcx]
  exact k54_mk w x
theorem eq_st {x : StT} : stEq x x = true := stEq_iff.2 rfl
theorem recall_len (r : List RecT) (l : List LetT) (m : List MovT) (day : Int) : (recallR r l m day).length ≤ r.length := by
  unfold recallR
  split
  · refine Nat.le_trans (List.length_filter_le _ _) (Nat.le_trans (List.length_filter_le _ _) ?_)
    have := (batches_sub r).length_le
    simpa using this
  · simp
set_option maxHeartbeats 16000000 in
theorem trustPieces_law (A B C : Option Addr) (c c' c2 : Nat) (r : List RecT) (l : List LetT) (m : List MovT) (day id : Int) (w : World) (hr : Kd.C recK w A r.length r) (hl : Kd.C letK w B l.length l) (hm : Kd.C movK w C m.length m) (hk : Bytes r) (hkl : BytesL l) (hkm : BytesM m) (hglob : GlobOK w) :
    Calls Tryd.prog 3 #[.slice A r.length c, .slice B l.length c', .slice C m.length c2, .int .i64 day, .int .i64 id] w fun e w' => e = .returned (.bool true) ∧ Below w.heap.size w w' := by
  refine x_calls (X := XNone) Tryd.func3 rfl rfl rfl ?_
  with_reducible repeat refine xc_seq ?_
  with_reducible refine xc_region ?_
  refine xo_asg rfl rfl rfl ?_
  with_reducible refine xo_nil ?_
  with_reducible repeat (first | refine xq_then ?_ | refine xq_blockN ?_ | refine xq_scopeN ?_)
  with_reducible repeat refine xc_seq ?_
  with_reducible refine xc_region ?_
  refine xo_mv rfl rfl rfl ?_
  refine xo_mv rfl rfl rfl ?_
  refine xo_mv rfl rfl rfl ?_
  refine xo_call (fs := []) (cs := []) rfl rfl rfl great_enters rfl (fun w1 hw1 => (great_calls A B C c c' c2 m.length r l w1 (Kd.C_below hr hw1.kx.below) (Kd.C_below hl hw1.kx.below)).mono ?_)
  rintro e w2 ⟨gb, rfl, hb, hgr⟩
  refine ⟨_, _, rfl, hw1.below hb, ?_⟩
  clear hb hw1
  with_reducible refine xo_nil ?_
  with_reducible repeat (first | refine xq_then ?_ | refine xq_blockN ?_ | refine xq_scopeN ?_)
  with_reducible repeat refine xc_seq ?_
  refine xc_cond rfl (fun h1 => ?_) (fun h1 => ?_)
  · with_reducible repeat refine xc_seq ?_
    with_reducible refine xc_region ?_
    refine xo_asg rfl rfl rfl ?_
    with_reducible refine xo_nil ?_
    with_reducible repeat (first | refine xq_then ?_ | refine xq_blockN ?_ | refine xq_scopeN ?_)
    with_reducible repeat refine xc_seq ?_
    with_reducible refine xc_ret ?_
    with_reducible repeat (first | refine xq_thenR ?_ | refine xq_blockR ?_ | refine xq_scopeR ?_)
    exact xq_ret1 rfl rfl fun w' hw => ⟨rfl, hw.kx.below⟩
  obtain ⟨hsm, hl30, hm60⟩ := hgr h1
  have hr13 := hsm.1
  obtain ⟨cells, hcl1, hcl2, hcl3, hcl4⟩ := C_cells hm (d := movK) (by decide)
  have hB0 : C = none → m.length = 0 := fun e => by
    subst e
    by_cases h : m.length = 0
    · exact h
    · obtain ⟨ad, e, _⟩ := hm.2.2 (by omega)
      cases e
  with_reducible refine xc_skip ?_
  with_reducible repeat (first | refine xq_then ?_ | refine xq_blockN ?_ | refine xq_scopeN ?_)
  with_reducible repeat refine xc_seq ?_
  with_reducible refine xc_region ?_
  refine xo_bs0 T_ 4 rfl rfl rfl rfl (fun b0 => ?_)
  refine xo_mv rfl rfl rfl ?_
  refine xo_appE TR_ rfl rfl rfl rfl rfl rfl rfl rfl (by rw [flat_len 4 cells hcl2, hcl1]) hB0 (fun p e w1 hw1 j u hj => hw1.kx.cell (hcl4 p e j u hj) (fun h => h)) (fun u hu => by obtain ⟨c, hc, hu⟩ := List.mem_flatten.1 hu; obtain ⟨j, hj, rfl⟩ := List.getElem_of_mem hc; exact movK.K_one (hcl3 j _ _ (List.getElem?_eq_getElem (by omega)) (List.getElem?_eq_getElem hj)) u hu) (by omega) rfl rfl (fun b3 cap3 => ?_)
  refine xo_asg rfl rfl rfl ?_
  with_reducible refine xo_nil ?_
  with_reducible repeat (first | refine xq_then ?_ | refine xq_blockN ?_ | refine xq_scopeN ?_)
  have hlo : ∀ {η : Hp} {w1 : World}, WOK w XNone η w1 → (b3, true, orow 54 4 m.length cap3 cells.flatten) ∈ η → Kd.C movK w1 (some ⟨b3, 0, none⟩) m.length m := fun hw1 hm => movs_own hw1 hm hcl1 hcl2 (fun j x c hx hc => k54_open (hcl3 j x c hx hc)) (by omega)
  have hH : (recallR r l m day).length ≤ 1000000 := by have := recall_len r l m day; omega
  with_reducible repeat refine xc_seq ?_
  with_reducible refine xc_region ?_
  refine xo_mv rfl rfl rfl ?_
  refine xo_mv rfl rfl rfl ?_
  refine xo_mv rfl rfl rfl ?_
  refine xo_callB (fs := []) (cs := []) rfl rfl rfl pieces_enters rfl (fun w1 hw1 => pieces_calls A (some ⟨b3, 0, none⟩) c cap3 r m id w1 (Kd.C_below hr hw1.kx.below) (hlo hw1 (by repeat (first | exact List.Mem.head _ | exact List.mem_append_left _ (List.Mem.head _) | apply List.mem_append_right | apply List.Mem.tail))) hk hkm (hglob.below hw1.kx.below)) ?_
  refine xo_mv rfl rfl rfl ?_
  refine xo_ext rfl rfl rfl rfl ?_
  refine xo_ext rfl rfl rfl rfl ?_
  refine xo_alloc T_ rfl rfl rfl rfl (fun b12 => ?_)
  refine xo_store T_ rfl rfl rfl rfl (by repeat (first | exact List.Mem.head _ | apply List.Mem.tail | apply List.mem_append_right)) rfl rfl rfl rfl (by repeat (first | exact Upd.head | apply Upd.tail | apply Upd.app)) rfl ?_
  refine xo_asg rfl rfl rfl ?_
  with_reducible refine xo_nil ?_
  with_reducible repeat (first | refine xq_then ?_ | refine xq_blockN ?_ | refine xq_scopeN ?_)
  with_reducible repeat refine xc_seq ?_
  with_reducible refine xc_region ?_
  refine xo_mv rfl rfl rfl ?_
  refine xo_mv rfl rfl rfl ?_
  refine xo_mv rfl rfl rfl ?_
  refine xo_callB (fs := []) (cs := []) rfl rfl rfl refPieces_enters rfl (fun w1 hw1 => refPieces_calls A C c c2 r m id w1 (Kd.C_below hr hw1.kx.below) (Kd.C_below hm hw1.kx.below) hk hkm) ?_
  refine xo_mv rfl rfl rfl ?_
  refine xo_ext rfl rfl rfl rfl ?_
  refine xo_ext rfl rfl rfl rfl ?_
  refine xo_alloc T_ rfl rfl rfl rfl (fun b14 => ?_)
  refine xo_store T_ rfl rfl rfl rfl (by repeat (first | exact List.Mem.head _ | apply List.Mem.tail | apply List.mem_append_right)) rfl rfl rfl rfl (by repeat (first | exact Upd.head | apply Upd.tail | apply Upd.app)) rfl ?_
  refine xo_asg rfl rfl rfl ?_
  with_reducible refine xo_nil ?_
  with_reducible repeat (first | refine xq_then ?_ | refine xq_blockN ?_ | refine xq_scopeN ?_)
  with_reducible repeat refine xc_seq ?_
  with_reducible refine xc_region ?_
  refine xo_mv rfl rfl rfl ?_
  refine xo_mv rfl rfl rfl ?_
  refine xo_mv rfl rfl rfl ?_
  refine xo_mv rfl rfl rfl ?_
  refine xo_call (fs := []) (cs := []) rfl rfl rfl recall_enters rfl (fun w1 hw1 => (recall_calls A B (some ⟨b3, 0, none⟩) c c' cap3 r l m day w1 (Kd.C_below hr hw1.kx.below) (Kd.C_below hl hw1.kx.below) (hlo hw1 (by repeat (first | exact List.Mem.head _ | exact List.mem_append_left _ (List.Mem.head _) | apply List.mem_append_right | apply List.Mem.tail))) hk hkl hkm (hglob.below hw1.kx.below)).mono ?_)
  rintro e w2 ⟨r1, rfl, hrow, hb⟩
  have h01 := hrow.1
  refine ⟨_, _, rfl, hw1.row hb hrow, ?_⟩
  clear hrow hb hw1
  refine xo_mv rfl rfl rfl ?_
  refine xo_ext rfl rfl rfl rfl ?_
  refine xo_ext rfl rfl rfl rfl ?_
  refine xo_ext rfl rfl rfl rfl ?_
  refine xo_asg rfl rfl rfl ?_
  refine xo_asg rfl rfl rfl ?_
  refine xo_asg rfl rfl rfl ?_
  with_reducible refine xo_nil ?_
  with_reducible repeat (first | refine xq_then ?_ | refine xq_blockN ?_ | refine xq_scopeN ?_)
  with_reducible repeat refine xc_seq ?_
  with_reducible refine xc_region ?_
  refine xo_mv rfl rfl rfl ?_
  refine xo_mv rfl rfl rfl ?_
  refine xo_mv rfl rfl rfl ?_
  refine xo_mv rfl rfl rfl ?_
  refine xo_call (fs := []) (cs := []) rfl rfl rfl refRecall_enters rfl (fun w1 hw1 => (refRecall_calls A B C c c' c2 r l m day w1 (Kd.C_below hr hw1.kx.below) (Kd.C_below hl hw1.kx.below) (Kd.C_below hm hw1.kx.below) hk hkl hkm).mono ?_)
  rintro e w2 ⟨r2, rfl, hrow, hb⟩
  have h02 := hrow.1
  refine ⟨_, _, rfl, hw1.row hb hrow, ?_⟩
  clear hrow hb hw1
  refine xo_mv rfl rfl rfl ?_
  refine xo_ext rfl rfl rfl rfl ?_
  refine xo_ext rfl rfl rfl rfl ?_
  refine xo_ext rfl rfl rfl rfl ?_
  refine xo_asg rfl rfl rfl ?_
  refine xo_asg rfl rfl rfl ?_
  refine xo_asg rfl rfl rfl ?_
  with_reducible refine xo_nil ?_
  with_reducible repeat (first | refine xq_then ?_ | refine xq_blockN ?_ | refine xq_scopeN ?_)
  with_reducible repeat refine xc_seq ?_
  with_reducible refine xc_region ?_
  refine xo_loadN T_ rfl rfl rfl (by repeat (first | exact List.Mem.head _ | exact List.mem_append_left _ (List.Mem.head _) | apply List.mem_append_right | apply List.Mem.tail)) rfl rfl ?_
  refine xo_loadN T_ rfl rfl rfl (by repeat (first | exact List.Mem.head _ | exact List.mem_append_left _ (List.Mem.head _) | apply List.mem_append_right | apply List.Mem.tail)) rfl rfl ?_
  refine xo_eqlSt (a := piecesR r m id) (b := piecesR r m id) rfl rfl rfl rfl ?_
  refine xo_mv rfl rfl rfl ?_
  refine xo_as (i := 64) rfl (congrArg Value.bool eq_st) ?_
  first
    | refine xo_not rfl rfl ?_
    | (refine xo_mv rfl rfl rfl ?_)
  first
    | refine xo_not rfl rfl ?_
    | (refine xo_mv rfl rfl rfl ?_)
  first
    | refine xo_not rfl rfl ?_
    | (refine xo_eql rfl rfl rfl rfl ?_)
  refine xo_as (i := 67) rfl (congrArg Value.bool eq_tt) ?_
  first | refine xo_pickT rfl rfl rfl rfl ?_ | refine xo_pickF rfl rfl rfl rfl ?_
  refine xo_mv rfl rfl rfl ?_
  first
    | refine xo_not rfl rfl ?_
    | (refine xo_mv rfl rfl rfl ?_)
  first
    | refine xo_not rfl rfl ?_
    | (refine xo_mv rfl rfl rfl ?_)
  first
    | refine xo_not rfl rfl ?_
    | (refine xo_callB (fs := []) (cs := []) rfl rfl rfl sameInts_enters rfl (fun w1 hw1 => sameRows hw1 hH (hw1.rowAt h01 (fun p hp => by subst hp; exact (by repeat (first | exact List.Mem.head _ | exact List.mem_append_left _ (List.Mem.head _) | apply List.mem_append_right | apply List.Mem.tail)))) (hw1.rowAt h02 (fun p hp => by subst hp; exact (by repeat (first | exact List.Mem.head _ | exact List.mem_append_left _ (List.Mem.head _) | apply List.mem_append_right | apply List.Mem.tail))))) ?_)
  first | refine xo_pickT rfl rfl rfl rfl ?_ | refine xo_pickF rfl rfl rfl rfl ?_
  refine xo_mv rfl rfl rfl ?_
  first
    | refine xo_not rfl rfl ?_
    | (refine xo_mv rfl rfl rfl ?_)
  first
    | refine xo_not rfl rfl ?_
    | (refine xo_mv rfl rfl rfl ?_)
  first
    | refine xo_not rfl rfl ?_
    | (refine xo_eql rfl rfl rfl rfl ?_)
  refine xo_as (i := 77) rfl (congrArg Value.bool eq_tt) ?_
  first | refine xo_pickT rfl rfl rfl rfl ?_ | refine xo_pickF rfl rfl rfl rfl ?_
  refine xo_mv rfl rfl rfl ?_
  first
    | refine xo_not rfl rfl ?_
    | (refine xo_mv rfl rfl rfl ?_)
  first
    | refine xo_not rfl rfl ?_
    | (refine xo_mv rfl rfl rfl ?_)
  first
    | refine xo_not rfl rfl ?_
    | (refine xo_eql rfl rfl rfl rfl ?_)
  refine xo_as (i := 82) rfl (congrArg Value.bool eq_tt) ?_
  first | refine xo_pickT rfl rfl rfl rfl ?_ | refine xo_pickF rfl rfl rfl rfl ?_
  refine xo_mv rfl rfl rfl ?_
  first
    | refine xo_not rfl rfl ?_
    | (refine xo_mv rfl rfl rfl ?_)
  first
    | refine xo_not rfl rfl ?_
    | (refine xo_mv rfl rfl rfl ?_)
  first
    | refine xo_not rfl rfl ?_
    | (refine xo_callB (fs := []) (cs := []) rfl rfl rfl sameMoves_enters rfl (fun w1 hw1 => sameMoves_calls (some ⟨b3, 0, none⟩) C cap3 c2 m w1 (hlo hw1 (by repeat (first | exact List.Mem.head _ | exact List.mem_append_left _ (List.Mem.head _) | apply List.mem_append_right | apply List.Mem.tail))) (Kd.C_below hm hw1.kx.below)) ?_)
  first | refine xo_pickT rfl rfl rfl rfl ?_ | refine xo_pickF rfl rfl rfl rfl ?_
  refine xo_asg rfl rfl rfl ?_
  with_reducible refine xo_nil ?_
  with_reducible repeat (first | refine xq_then ?_ | refine xq_blockN ?_ | refine xq_scopeN ?_)
  with_reducible repeat refine xc_seq ?_
  with_reducible refine xc_ret ?_
  with_reducible repeat (first | refine xq_thenR ?_ | refine xq_blockR ?_ | refine xq_scopeR ?_)
  exact xq_ret1 rfl rfl fun w' hw => ⟨rfl, hw.kx.below⟩
end Go.Proofs.YtcmepdamemnbkaaDoor
namespace Go.Proofs.YtcmepdamemnbkaaDoor
open Go.ChangeShapes Go.WideShapes Go.RowKit
set_option linter.unusedVariables false
set_option linter.unusedSimpArgs false
def laidL : List (String × DataW Unit) := [("cottonpad/trust.adds", Rows.laid_cottonpad_trust_adds)]
theorem gAdds : Tryd.prog.globalNamed "cottonpad/trust.adds" = some 0 := by kernel_rfl
theorem tAdds : (Tryd.prog.globals[0]?).map (·.type) = some 107 := by kernel_rfl
theorem door_met (os : Os) (args : Array Value) : laidMetH Tryd.prog laidL ((World.doorLaid Tryd.prog 400 os).forCall (fun _ _ => 0) ⟨#[], args, []⟩).memory :=
  laidMetH_of_parts3 (fuel := 8) (laidMet_of_run' 8 (by kernel_rfl) (by kernel_rfl)) (by kernel_rfl) (by kernel_rfl)
theorem trod_six {P : Program} {H : Type} {enc : TypeId × Value → H} {w : World} {fuel : Nat} {t te : TypeId} {a0 a1 a2 a3 a4 a5 : Value} {d : DataW H} {ps : List MemPlace}
    (ht : P.underlying t = some (.array 6 te)) (hE : P.cellsOf te = 1)
    (h : DataW.trod enc P w 0 (fun _ => true) true (fuel + 1) t [a0, a1, a2, a3, a4, a5] = some (d, ps)) :
    ∃ x0 x1 x2 x3 x4 x5, DataW.trod enc P w 0 (fun _ => true) true fuel te [a1] = some x1 ∧ DataW.trod enc P w 0 (fun _ => true) true fuel te [a2] = some x2 ∧ DataW.trod enc P w 0 (fun _ => true) true fuel te [a3] = some x3 ∧ DataW.trod enc P w 0 (fun _ => true) true fuel te [a4] = some x4 ∧ DataW.trod enc P w 0 (fun _ => true) true fuel te [a5] = some x5 ∧
      d = .agg [x0, x1.1, x2.1, x3.1, x4.1, x5.1] := by
  unfold DataW.trod at h
  rw [ht] at h
  simp only [List.length_cons, List.length_nil] at h
  split at h
  · simp only [show List.range 6 = [0, 1, 2, 3, 4, 5] from rfl, List.mapM_cons, List.mapM_nil, hE, Nat.mul_one, List.drop_zero, List.take_succ_cons, List.take_zero, List.drop_succ_cons, Option.map_eq_some_iff] at h
    obtain ⟨xs, h, e'⟩ := h
    cases h0 : DataW.trod enc P w 0 (fun _ => true) true fuel te [a0] with
    | none => simp [h0] at h
    | some x0 =>
      cases h1 : DataW.trod enc P w 0 (fun _ => true) true fuel te [a1] with
      | none => simp [h0, h1] at h
      | some x1 =>
        cases h2 : DataW.trod enc P w 0 (fun _ => true) true fuel te [a2] with
        | none => simp [h0, h1, h2] at h
        | some x2 =>
          cases h3 : DataW.trod enc P w 0 (fun _ => true) true fuel te [a3] with
          | none => simp [h0, h1, h2, h3] at h
          | some x3 =>
            cases h4 : DataW.trod enc P w 0 (fun _ => true) true fuel te [a4] with
            | none => simp [h0, h1, h2, h3, h4] at h
            | some x4 =>
              cases h5 : DataW.trod enc P w 0 (fun _ => true) true fuel te [a5] with
              | none => simp [h0, h1, h2, h3, h4, h5] at h
              | some x5 =>
                simp [h0, h1, h2, h3, h4, h5] at h
                subst h
                simp at e'
                exact ⟨x0.1, x1, x2, x3, x4, x5, rfl, rfl, rfl, rfl, rfl, e'.1.symm⟩
  · simp at h
theorem trod_len {P : Program} {H : Type} {enc : TypeId × Value → H} {w : World} {fuel : Nat} {t te : TypeId} {n : Nat} {l : List Value} {x : DataW H × List MemPlace}
    (ht : P.underlying t = some (.array n te)) (h : DataW.trod enc P w 0 (fun _ => true) true fuel t l = some x) : l.length = P.cellsOf t := by
  cases fuel with
  | zero => simp [DataW.trod] at h
  | succ m =>
    by_cases hl : l.length = P.cellsOf t
    · exact hl
    · exfalso
      unfold DataW.trod at h
      rw [ht] at h
      simp [hl] at h
set_option maxRecDepth 100000 in
theorem glob_of_laid {W : World} (h : laidMetH Tryd.prog laidL W) : GlobOK W := by
  obtain ⟨g, t, cs, fuel, p, hg, ht, hv, hd⟩ := h.funcs (n := "cottonpad/trust.adds") (List.mem_cons_self ..)
  obtain rfl := Option.some.inj (gAdds.symm.trans hg)
  obtain rfl := Option.some.inj (tAdds.symm.trans ht)
  have hd' : DataW.trod (funcToken Tryd.prog) Tryd.prog W 0 (fun _ => true) true fuel 107 cs.toList = some (.agg [.nil, DataW.held [99, 111, 116, 116, 111, 110, 112, 97, 100, 47, 116, 114, 117, 115, 116, 46, 97, 100, 100, 115, 36, 49], DataW.held [99, 111, 116, 116, 111, 110, 112, 97, 100, 47, 116, 114, 117, 115, 116, 46, 97, 100, 100, 115, 36, 50], DataW.held [99, 111, 116, 116, 111, 110, 112, 97, 100, 47, 116, 114, 117, 115, 116, 46, 97, 100, 100, 115, 36, 51], DataW.held [99, 111, 116, 116, 111, 110, 112, 97, 100, 47, 116, 114, 117, 115, 116, 46, 97, 100, 100, 115, 36, 52], DataW.held [99, 111, 116, 116, 111, 110, 112, 97, 100, 47, 116, 114, 117, 115, 116, 46, 97, 100, 100, 115, 36, 53]], p) := hd
  have hlen : cs.toList.length = 6 := (trod_len Tryd.underlying107 hd').trans (by kernel_rfl)
  obtain ⟨l⟩ := cs
  match l, hlen with
  | [a0, a1, a2, a3, a4, a5], _ =>
    cases fuel with
    | zero => simp [DataW.trod] at hd'
    | succ n =>
      obtain ⟨x0, x1, x2, x3, x4, x5, h1, h2, h3, h4, h5, e⟩ := trod_six (te := 106) Tryd.underlying107 (by kernel_rfl) hd'
      simp only [DataW.agg.injEq, List.cons.injEq, and_true] at e
      obtain ⟨_, e1, e2, e3, e4, e5⟩ := e
      obtain ⟨x1d, x1p⟩ := x1
      obtain ⟨x2d, x2p⟩ := x2
      obtain ⟨x3d, x3p⟩ := x3
      obtain ⟨x4d, x4p⟩ := x4
      obtain ⟨x5d, x5p⟩ := x5
      simp only at e1 e2 e3 e4 e5
      subst e1 e2 e3 e4 e5
      obtain rfl := func_of_trod (f0 := 122) Tryd.underlying106 (by kernel_rfl) h1
      obtain rfl := func_of_trod (f0 := 123) Tryd.underlying106 (by kernel_rfl) h2
      obtain rfl := func_of_trod (f0 := 124) Tryd.underlying106 (by kernel_rfl) h3
      obtain rfl := func_of_trod (f0 := 125) Tryd.underlying106 (by kernel_rfl) h4
      obtain rfl := func_of_trod (f0 := 126) Tryd.underlying106 (by kernel_rfl) h5
      unfold World.var? at hv
      rw [gAdds] at hv
      simp only [Option.bind_some] at hv
      cases hh : W.heap[0]? with
      | none => simp [hh] at hv
      | some o =>
        cases o <;> simp [hh] at hv
        subst hv
        intro k hk1 hk2
        have hc : ∀ i (v : Value), [a0, .func (.func 122) #[] #[], .func (.func 123) #[] #[], .func (.func 124) #[] #[], .func (.func 125) #[] #[], .func (.func 126) #[] #[]][i]? = some v → W.cell? ⟨0, i, none⟩ = some v := fun i v h => by
          unfold World.cell?
          rw [hh]
          simpa using h
        rcases (show k = 1 ∨ k = 2 ∨ k = 3 ∨ k = 4 ∨ k = 5 by omega) with rfl | rfl | rfl | rfl | rfl
        all_goals exact hc _ _ rfl
end Go.Proofs.YtcmepdamemnbkaaDoor
