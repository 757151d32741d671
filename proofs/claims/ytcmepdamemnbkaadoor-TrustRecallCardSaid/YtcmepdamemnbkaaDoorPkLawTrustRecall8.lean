/- what holds depends on what is gone by membership alone. Plain Lean. / trust.Rests$1: what the search for what a record rests on asks of a set. / trust.Causes$1: what the search for causes asks of a set. / who is withdrawn, in order; what the searches of the code and of the reference find is the same. Plain Lean. / SX: remainders and quotients of what is not negative; truths that are compared. No program in sight. / law08: what its own small functions answer: ready, day, set, next. / what holds, what is gone, and what one takes with it: laws. Plain Lean. / SX: slices of several elements, written out. No program in sight. / law08: the chapter's examples: records, letters, moves as the program writes them. / maps.Keys over any map with whole-number keys: an iterator that yields its keys in some order. / trust.Recall. -/
import Derived.Test.YtcmepdamemnbkaaDoorPkLawTrustRecall7
import Derived.Test.YtcmepdamemnbkaaDoorPkLawTrustRecall3
import Derived.Laws.Small
import Derived.Test.YtcmepdamemnbkaaDoorPkLawTrustRecall5
import Derived.Test.YtcmepdamemnbkaaDoorPkLawTrustRecall4
import Derived.Test.YtcmepdamemnbkaaDoorPkLawTrustRecall6
namespace Go.Proofs.YtcmepdamemnbkaaDoor
open Go.RowKit Go.Proofs.YtcmepdamemnbkaaDoorW.PrintWords
set_option linter.unusedVariables false
set_option linter.unusedSimpArgs false
theorem holdsL_congr {G G' : List Int} : ∀ (r : List RecT) (bs : List Int), (∀ x ∈ r, (x.f0 ∈ G ↔ x.f0 ∈ G')) → holdsL G bs r = holdsL G' bs r
  | [], _, _ => rfl
  | x :: r, bs, h => by
    have h1 : decide (x.f0 ∈ G) = decide (x.f0 ∈ G') := decide_eq_decide.2 (h x (List.mem_cons_self ..))
    have ih := fun bs => holdsL_congr r bs fun y hy => h y (List.mem_cons_of_mem _ hy)
    unfold holdsL
    rw [h1, ih, ih]
theorem holdsF_congr {r : List RecT} {G G' : List Int} (h : ∀ n ∈ idsL r, (n ∈ G ↔ n ∈ G')) : holdsF r G = holdsF r G' :=
  holdsL_congr r [] fun x hx => h x.f0 (List.mem_map.2 ⟨x, hx, rfl⟩)
end Go.Proofs.YtcmepdamemnbkaaDoor
namespace Go.Proofs.YtcmepdamemnbkaaDoor
open Go.RowKit Go.Proofs.YtcmepdamemnbkaaDoorW.PrintWords
set_option linter.unusedVariables false
set_option linter.unusedSimpArgs false
def restP (r : List RecT) (id : Int) (S : List Int) : Bool := decide (id ∈ S) && decide ((holdsF r (compl r S)).length = S.length)
theorem compl_iff {r : List RecT} {S : List Int} {n : Int} (hn : n ∈ idsL r) : n ∈ compl r S ↔ n ∉ S := by
  obtain ⟨i, hi, rfl⟩ := idsL_mem.1 hn
  exact compl_mem hi
theorem insN_nodup {x : Int} {s : List Int} (h : s.Nodup) : (insN x s).Nodup := by
  unfold insN
  split
  · exact h
  · rename_i hx
    refine List.nodup_append.2 ⟨h, by simp, fun a ha b hb e => ?_⟩
    simp at hb
    subst hb
    exact hx (e ▸ ha)
theorem mem_delN {x y : Int} {s : List Int} (h : s.Nodup) : y ∈ delN x s ↔ y ≠ x ∧ y ∈ s := h.mem_erase_iff
theorem idsL_take_succ {r : List RecT} {k : Nat} (hk : k < r.length) {n : Int} : n ∈ idsL (r.take (k + 1)) ↔ n = (r.getD k zRec).f0 ∨ n ∈ idsL (r.take k) := by
  have h1 : r.getD k zRec = r[k] := by simp [List.getD_eq_getElem?_getD, List.getElem?_eq_getElem hk]
  rw [h1, idsL, List.take_succ_eq_append_getElem hk, List.map_append, List.mem_append]
  simp only [List.map_cons, List.map_nil, List.mem_singleton]
  exact Or.comm
set_option maxHeartbeats 4000000 in
theorem rests1_calls (A : Option Addr) (c : Nat) (r : List RecT) (id : Int) (M0 b1 b2 b3 M : Nat) (S : List Int) (W : World) (hr : Kd.C recK W A r.length r) (hlen : r.length ≤ 1000000) (h1 : W.cell? ⟨b1, 0, none⟩ = some (.slice A r.length c)) (h2 : W.cell? ⟨b2, 0, none⟩ = some (.int .i64 id))
    (h3 : W.heap[b3]? = some (.cells #[.slice A r.length c, .map (some M0)] 91 (0, 0))) (hM : IMap W M (setV S)) (hS : S.Nodup) :
    Calls Tryd.prog 60 #[.map (some M), .pointer (some ⟨b1, 0, none⟩), .pointer (some ⟨b2, 0, none⟩), .pointer (some ⟨b3, 0, none⟩)] W fun e w' => e = .returned (.bool (restP r id S)) ∧ Below W.heap.size W w' := by
  have r1 := ro1 h1
  have r2 := ro1 h2
  have r3 : RO W XNone ⟨b3, 0, none⟩ [.slice A r.length c, .map (some M0)] := fun j v hj => ⟨by
    have := cell_of_row W b3 j _ 91 (0, 0) h3
    rw [Addr.add_lit, Nat.zero_add, this]
    simpa using hj, fun q => q⟩
  have hn := hr.2.1
  refine x_callsH (X := XNone) Tryd.func60 rfl rfl rfl (WOK.startM XNone hM) ?_
  with_reducible repeat refine xc_seq ?_
  with_reducible refine xc_region ?_
  refine xo_asg rfl rfl rfl ?_
  with_reducible refine xo_nil ?_
  with_reducible repeat (first | refine xq_then ?_ | refine xq_blockN ?_ | refine xq_scopeN ?_)
  with_reducible repeat refine xc_seq ?_
  with_reducible refine xc_region ?_
  refine xo_mkm rfl rfl (fun b10 => ?_)
  refine xo_asg rfl rfl rfl ?_
  with_reducible refine xo_nil ?_
  with_reducible repeat (first | refine xq_then ?_ | refine xq_blockN ?_ | refine xq_scopeN ?_)
  with_reducible repeat refine xc_seq ?_
  with_reducible refine xc_region ?_
  refine xo_loadR0 T_ rfl rfl rfl (by first | assumption | exact RO.fld (by assumption) rfl) rfl ?_
  refine xo_len T_ rfl rfl rfl rfl ?_
  refine xo_mv rfl rfl rfl ?_
  with_reducible refine xo_nil ?_
  with_reducible repeat (first | refine xq_then ?_ | refine xq_blockN ?_ | refine xq_scopeN ?_)
  with_reducible repeat refine xc_seq ?_
  with_reducible refine xc_block ?_
  refine xc_loop (γ := Nat × List Int) (fun q => q.1 ≤ r.length ∧ q.2.Nodup ∧ ∀ n, n ∈ q.2 ↔ n ∈ idsL (r.take q.1)) (fun q => [(0, .map (some M)), (1, .pointer (some ⟨b1, 0, none⟩)), (2, .pointer (some ⟨b2, 0, none⟩)), (3, .pointer (some ⟨b3, 0, none⟩)), (6, .map (some b10)), (11, .slice A r.length c), (12, .int .i64 (r.length : Int)), (13, .int .i64 (q.1 : Int))])
    (fun q => [(b10, true, hmap (setV q.2)), (M, false, hmap (setV S))]) (fun q => r.length - q.1) (0, []) ⟨Nat.zero_le _, List.nodup_nil, fun n => by simp [idsL]⟩ ⟨rfl, rfl, rfl, rfl, rfl, rfl, rfl, rfl, trivial⟩ (by repeat (first | exact List.Sublist.refl _ | apply List.Sublist.cons_cons | apply List.Sublist.cons | exact List.nil_sublist _)) ?_
  rintro ⟨k, acc⟩ ⟨hk1, hnd, hacc⟩
  simp only at hk1 hnd hacc ⊢
  with_reducible repeat refine xc_seq ?_
  with_reducible refine xc_region ?_
  refine xo_lss rfl rfl rfl rfl ?_
  with_reducible refine xo_nil ?_
  with_reducible repeat (first | refine xq_then ?_ | refine xq_blockN ?_ | refine xq_scopeN ?_)
  with_reducible repeat refine xc_seq ?_
  refine xc_cond rfl (fun h => ?_) (fun h => ?_)
  · have hlt : k < r.length := by have := of_decide_eq_true h; omega
    obtain ⟨ad, A2, c2, rfl, r4, hc2, hw2⟩ := rec_at hr k hlt
    have hts := fun n => idsL_take_succ hlt (n := n)
    generalize r.getD k zRec = x at *
    with_reducible refine xc_skip ?_
    with_reducible repeat (first | refine xq_then ?_ | refine xq_blockN ?_ | refine xq_scopeN ?_)
    with_reducible repeat refine xc_seq ?_
    with_reducible refine xc_block ?_
    with_reducible repeat refine xc_seq ?_
    with_reducible refine xc_region ?_
    refine xo_ia T_ rfl rfl rfl rfl rfl ⟨by omega, by omega⟩ rfl ?_
    refine xo_loadRN T_ rfl rfl rfl (by assumption) rfl rfl ?_
    refine xo_alloc T_ rfl rfl rfl rfl (fun b8 => ?_)
    refine xo_store T_ rfl rfl rfl rfl (by repeat (first | exact List.Mem.head _ | apply List.Mem.tail | apply List.mem_append_right)) rfl rfl rfl rfl (by repeat (first | exact Upd.head | apply Upd.tail | apply Upd.app)) rfl ?_
    with_reducible refine xo_nil ?_
    with_reducible repeat (first | refine xq_then ?_ | refine xq_blockN ?_ | refine xq_scopeN ?_)
    with_reducible repeat refine xc_seq ?_
    with_reducible refine xc_region ?_
    refine xo_mv rfl rfl rfl ?_
    refine xo_fa T_ rfl rfl rfl rfl rfl ?_
    refine xo_load0 T_ rfl rfl rfl (by repeat (first | exact List.Mem.head _ | apply List.Mem.tail | apply List.mem_append_right)) rfl rfl ?_
    refine xo_sins T_ rfl rfl rfl rfl rfl rfl (by repeat (first | exact List.Mem.head _ | apply List.Mem.tail | apply List.mem_append_right)) (by repeat (first | exact Upd.head | apply Upd.tail | apply Upd.app)) rfl ?_
    with_reducible refine xo_nil ?_
    with_reducible repeat (first | refine xq_then ?_ | refine xq_blockN ?_ | refine xq_scopeN ?_)
    with_reducible repeat refine xc_seq ?_
    with_reducible refine xc_region ?_
    refine xo_add rfl rfl rfl (by omega) rfl ?_
    refine xo_mv rfl rfl rfl ?_
    with_reducible refine xo_nil ?_
    with_reducible repeat (first | refine xq_then ?_ | refine xq_blockN ?_ | refine xq_scopeN ?_)
    exact xq_again _ _ _ _ _ (k + 1, insN x.f0 acc) ⟨hlt, insN_nodup hnd, fun n => by rw [mem_insN, hacc, hts]⟩ (by first | omega | (simp only; omega)) ⟨rfl, rfl, rfl, rfl, rfl, rfl, rfl, rfl, trivial⟩ (by repeat (first | exact List.Sublist.refl _ | apply List.Sublist.cons_cons | apply List.Sublist.cons | exact List.nil_sublist _))
  have hge : ¬ k < r.length := by have := of_decide_eq_false h; omega
  rw [List.take_of_length_le (by omega)] at hacc
  with_reducible refine xc_exit ?_
  with_reducible repeat (first | refine xq_blockX ?_ | refine xq_thenE ?_ | refine xq_blockE rfl ?_ | refine xq_scopeE ?_)
  with_reducible repeat (first | refine xq_then ?_ | refine xq_blockN ?_ | refine xq_scopeN ?_)
  with_reducible repeat refine xc_seq ?_
  with_reducible refine xc_region ?_
  refine xo_mv rfl rfl rfl ?_
  refine xo_rangeM T_ rfl rfl rfl (by repeat (first | exact List.Mem.head _ | apply List.Mem.tail | apply List.mem_append_right)) (fun es c => Rep.tail Rep.head) rfl (fun b22 es cl hE => ?_)
  with_reducible refine xo_nil ?_
  with_reducible repeat (first | refine xq_then ?_ | refine xq_blockN ?_ | refine xq_scopeN ?_)
  with_reducible repeat refine xc_seq ?_
  with_reducible refine xc_block ?_
  refine xc_loop (γ := Array Nat × List Int × List Int) (fun q => Seen es q.1 q.2.1 ∧ q.2.2.Nodup ∧ ∀ n, n ∈ q.2.2 ↔ n ∈ idsL r ∧ n ∉ q.2.1) (fun q => [(0, .map (some M)), (2, .pointer (some ⟨b2, 0, none⟩)), (3, .pointer (some ⟨b3, 0, none⟩)), (6, .map (some b10)), (22, .pointer (some ⟨b22, 0, none⟩))])
    (fun q => [(b22, true, hiter M cl q.1), (b10, true, hmap (setV q.2.2)), (M, false, hmapE es cl)]) (fun q => S.length - q.2.1.length) (#[], [], acc) ⟨⟨List.nodup_nil, fun n => by simp⟩, hnd, fun n => by simp [hacc]⟩ ⟨rfl, rfl, rfl, rfl, rfl, trivial⟩ (by repeat (first | exact List.Sublist.refl _ | apply List.Sublist.cons_cons | apply List.Sublist.cons | exact List.nil_sublist _)) ?_
  rintro ⟨seen, ys, acc2⟩ ⟨hseen, hnd2, hacc2⟩
  simp only at hseen hnd2 hacc2 ⊢
  with_reducible repeat refine xc_seq ?_
  with_reducible refine xc_region ?_
  refine xo_next rfl rfl (by repeat (first | exact List.Mem.head _ | apply List.Mem.tail | apply List.mem_append_right)) (by repeat (first | exact List.Mem.head _ | apply List.Mem.tail | apply List.mem_append_right)) hE (fun seen' => Upd.head) rfl (fun hall => ?_) (fun e he hns => ?_)
  · have hperm := hseen.all hE hall
    have hcong : holdsF r acc2 = holdsF r (compl r S) := holdsF_congr fun n hn => by rw [compl_iff hn, hacc2, hperm.mem_iff]; exact ⟨fun q => q.2, fun q => ⟨hn, q⟩⟩
    refine xo_ext rfl rfl rfl rfl ?_
    with_reducible refine xo_nil ?_
    with_reducible repeat (first | refine xq_then ?_ | refine xq_blockN ?_ | refine xq_scopeN ?_)
    with_reducible repeat refine xc_seq ?_
    refine xc_condF rfl ?_
    with_reducible refine xc_exit ?_
    with_reducible repeat (first | refine xq_blockX ?_ | refine xq_thenE ?_ | refine xq_blockE rfl ?_ | refine xq_scopeE ?_)
    refine xq_rep (b := M) (by repeat (first | exact List.Mem.head _ | apply List.Mem.tail | apply List.mem_append_right)) (fun o h => hmapE_hmap hE h) (Rep.tail (Rep.tail Rep.head)) ?_
    with_reducible repeat (first | refine xq_then ?_ | refine xq_blockN ?_ | refine xq_scopeN ?_)
    cases hid : decide (id ∈ S)
    · with_reducible repeat refine xc_seq ?_
      with_reducible refine xc_region ?_
      refine xo_mv rfl rfl rfl ?_
      refine xo_loadR0 T_ rfl rfl rfl (by first | assumption | exact RO.fld (by assumption) rfl) rfl ?_
      refine xo_sget T_ rfl rfl rfl rfl rfl rfl (by repeat (first | exact List.Mem.head _ | apply List.Mem.tail | apply List.mem_append_right)) rfl ?_
      refine xo_mv rfl rfl rfl ?_
      refine xo_as (i := 32) rfl (congrArg Value.bool hid) ?_
      first
        | refine xo_not rfl rfl ?_
        | (refine xo_loadRN T_ rfl rfl rfl (by assumption) rfl rfl ?_)
      first
        | refine xo_not rfl rfl ?_
        | (refine xo_mv rfl rfl rfl ?_)
      first
        | refine xo_not rfl rfl ?_
        | (fail "NO RULE: Op.call -6")
      first
        | refine xo_not rfl rfl ?_
        | (fail "NO RULE: Op.call -7")
      first
        | refine xo_not rfl rfl ?_
        | (refine xo_len T_ rfl rfl rfl rfl ?_)
      first
        | refine xo_not rfl rfl ?_
        | (refine xo_mv rfl rfl rfl ?_)
      first
        | refine xo_not rfl rfl ?_
        | (refine xo_len T_ rfl rfl rfl rfl ?_)
      first
        | refine xo_not rfl rfl ?_
        | (refine xo_eql rfl rfl rfl rfl ?_)
      first | refine xo_pickT rfl rfl rfl rfl ?_ | refine xo_pickF rfl rfl rfl rfl ?_
      refine xo_asg rfl rfl rfl ?_
      with_reducible refine xo_nil ?_
      with_reducible repeat (first | refine xq_then ?_ | refine xq_blockN ?_ | refine xq_scopeN ?_)
      with_reducible repeat refine xc_seq ?_
      with_reducible refine xc_ret ?_
      with_reducible repeat (first | refine xq_thenR ?_ | refine xq_blockR ?_ | refine xq_scopeR ?_)
      exact xq_ret1 rfl rfl fun w' hw => ⟨by rw [restP, hid]; rfl, hw.kx.below⟩
    · with_reducible repeat refine xc_seq ?_
      with_reducible refine xc_region ?_
      refine xo_mv rfl rfl rfl ?_
      refine xo_loadR0 T_ rfl rfl rfl (by first | assumption | exact RO.fld (by assumption) rfl) rfl ?_
      refine xo_sget T_ rfl rfl rfl rfl rfl rfl (by repeat (first | exact List.Mem.head _ | apply List.Mem.tail | apply List.mem_append_right)) rfl ?_
      refine xo_mv rfl rfl rfl ?_
      refine xo_as (i := 32) rfl (congrArg Value.bool hid) ?_
      first
        | refine xo_not rfl rfl ?_
        | (refine xo_loadRN T_ rfl rfl rfl (by assumption) rfl rfl ?_)
      first
        | refine xo_not rfl rfl ?_
        | (refine xo_mv rfl rfl rfl ?_)
      first
        | refine xo_not rfl rfl ?_
        | (refine xo_holds rfl rfl rfl rfl (fun b4 b5 => ?_))
      first
        | refine xo_not rfl rfl ?_
        | (refine xo_collect (r := r) hr hlen rfl rfl (by repeat (first | exact List.Mem.head _ | apply List.Mem.tail | apply List.mem_append_right)) (by repeat (first | exact List.Mem.head _ | apply List.Mem.tail | apply List.mem_append_right)) (by repeat (first | exact List.Mem.head _ | apply List.Mem.tail | apply List.mem_append_right)) (fun w1 hw1 => ne_of_nd hw1) rfl (fun rr hrr => ?_))
      first
        | refine xo_not rfl rfl ?_
        | (refine xo_lenR T_ rfl rfl (fun h => by rw [hrr h]; rfl) rfl rfl ?_)
      first
        | refine xo_not rfl rfl ?_
        | (refine xo_mv rfl rfl rfl ?_)
      first
        | refine xo_not rfl rfl ?_
        | (refine xo_lenM T_ rfl rfl rfl (by repeat (first | exact List.Mem.head _ | exact List.mem_append_left _ (List.Mem.head _) | apply List.mem_append_right | apply List.Mem.tail)) rfl ?_)
      first
        | refine xo_not rfl rfl ?_
        | (refine xo_eql rfl rfl rfl rfl ?_)
      first | refine xo_pickT rfl rfl rfl rfl ?_ | refine xo_pickF rfl rfl rfl rfl ?_
      refine xo_asg rfl rfl rfl ?_
      with_reducible refine xo_nil ?_
      with_reducible repeat (first | refine xq_then ?_ | refine xq_blockN ?_ | refine xq_scopeN ?_)
      with_reducible repeat refine xc_seq ?_
      with_reducible refine xc_ret ?_
      with_reducible repeat (first | refine xq_thenR ?_ | refine xq_blockR ?_ | refine xq_scopeR ?_)
      have hv : decide (((holdsF r acc2).length : Int) = (S.length : Int)) = restP r id S := by
        rw [restP, hid, hcong, Bool.true_and, decide_eq_decide]
        omega
      exact xq_ret1 rfl rfl fun w' hw => ⟨congrArg (fun b => Ending.returned (.bool b)) hv, hw.kx.below⟩
  · obtain ⟨k, hk, hk1, hk2⟩ := hE.setV he
    have hst := hseen.step hE he hns hk1
    have hlen2 : ys.length < S.length := by
      have := hst.len hE
      simp at this
      omega
    rw [hk1, hk2]
    refine xo_ext rfl rfl rfl rfl ?_
    with_reducible refine xo_nil ?_
    with_reducible repeat (first | refine xq_then ?_ | refine xq_blockN ?_ | refine xq_scopeN ?_)
    with_reducible repeat refine xc_seq ?_
    refine xc_condT rfl ?_
    with_reducible refine xc_skip ?_
    with_reducible repeat (first | refine xq_then ?_ | refine xq_blockN ?_ | refine xq_scopeN ?_)
    with_reducible repeat refine xc_seq ?_
    with_reducible refine xc_block ?_
    with_reducible repeat refine xc_seq ?_
    with_reducible refine xc_region ?_
    refine xo_entry rfl rfl (by repeat (first | exact List.Mem.head _ | apply List.Mem.tail | apply List.mem_append_right)) (by repeat (first | exact List.Mem.head _ | apply List.Mem.tail | apply List.mem_append_right)) hE he rfl ?_
    rw [hk1, hk2]
    refine xo_ext rfl rfl rfl rfl ?_
    refine xo_asg rfl rfl rfl ?_
    with_reducible refine xo_nil ?_
    with_reducible repeat (first | refine xq_then ?_ | refine xq_blockN ?_ | refine xq_scopeN ?_)
    with_reducible repeat refine xc_seq ?_
    with_reducible refine xc_region ?_
    refine xo_mv rfl rfl rfl ?_
    refine xo_mv rfl rfl rfl ?_
    refine xo_sdel T_ rfl rfl rfl rfl rfl (by repeat (first | exact List.Mem.head _ | apply List.Mem.tail | apply List.mem_append_right)) (by repeat (first | exact Upd.head | apply Upd.tail | apply Upd.app)) rfl ?_
    with_reducible refine xo_nil ?_
    with_reducible repeat (first | refine xq_then ?_ | refine xq_blockN ?_ | refine xq_scopeN ?_)
    refine xq_again _ _ _ _ _ (seen.push e.born, ys ++ [k], delN k acc2) ⟨hst, hnd2.erase _, fun n => ?_⟩ (by simp only [List.length_append, List.length_cons, List.length_nil]; omega) ⟨rfl, rfl, rfl, rfl, rfl, trivial⟩ (by repeat (first | exact List.Sublist.refl _ | apply List.Sublist.cons_cons | apply List.Sublist.cons | exact List.nil_sublist _))
    rw [mem_delN hnd2, hacc2, List.mem_append, List.mem_singleton, not_or]
    exact ⟨fun q => ⟨q.2.1, q.2.2, q.1⟩, fun q => ⟨q.2.2, q.1, q.2.1⟩⟩
theorem rests1_enters : ∀ args w, (callFunc 60 args).run Tryd.prog w = .ok (.enter 60 args) w := enters_of Tryd.func60 (by kernel_rfl) rfl
end Go.Proofs.YtcmepdamemnbkaaDoor
namespace Go.Proofs.YtcmepdamemnbkaaDoor
open Go.RowKit Go.Proofs.YtcmepdamemnbkaaDoorW.PrintWords
set_option linter.unusedVariables false
set_option linter.unusedSimpArgs false
def causeP (r : List RecT) (G : List Int) (id : Int) (S : List Int) : Bool := decide (id ∈ holdsF r (diffF G S))
theorem containsR {w0 w : World} {X : Nat → Prop} {η : Hp} (hw : WOK w0 X η w) {rr : RowR} {xs : List Int} (x : Int) (hl : xs.length ≤ 1000000) (h1 : RowAt 3 0 w rr xs) :
    Calls Tryd.prog 59 ([] ++ [valR rr xs.length, .int .i64 x] ++ []).toArray w fun e w' => e = .returned (.bool (decide (x ∈ xs))) ∧ Below w.heap.size w w' := by
  obtain ⟨A, c, e1, _, hA⟩ := h1.C (by omega)
  rw [e1]
  exact contains_calls A c xs x w hA
set_option maxHeartbeats 4000000 in
theorem causes1_calls (A : Option Addr) (c : Nat) (r : List RecT) (G : List Int) (id : Int) (M0 b1 b2 M : Nat) (S : List Int) (W : World) (hr : Kd.C recK W A r.length r) (hlen : r.length ≤ 1000000) (h2 : W.cell? ⟨b2, 0, none⟩ = some (.int .i64 id))
    (h1 : W.heap[b1]? = some (.cells #[.slice A r.length c, .map (some M0)] 91 (0, 0))) (hG : IMap W M0 (setV G)) (hGn : G.Nodup) (hM : IMap W M (setV S)) (hS : S.Nodup) :
    Calls Tryd.prog 62 #[.map (some M), .pointer (some ⟨b1, 0, none⟩), .pointer (some ⟨b2, 0, none⟩)] W fun e w' => e = .returned (.bool (causeP r G id S)) ∧ Below W.heap.size W w' := by
  have r2 := ro1 h2
  have r1 : RO W XNone ⟨b1, 0, none⟩ [.slice A r.length c, .map (some M0)] := fun j v hj => ⟨by
    have := cell_of_row W b1 j _ 91 (0, 0) h1
    rw [Addr.add_lit, Nat.zero_add, this]
    simpa using hj, fun q => q⟩
  have r1b : RO W XNone ⟨b1, 1, none⟩ [.map (some M0)] := ro1 (by rw [cell_of_row W b1 1 _ 91 (0, 0) h1]; rfl)
  have hn := hr.2.1
  obtain ⟨es0, cl0, hg1, hg2⟩ := hG
  refine x_callsH (X := XNone) Tryd.func62 rfl rfl rfl (WOK.startM XNone hM) ?_
  with_reducible repeat refine xc_seq ?_
  with_reducible refine xc_region ?_
  refine xo_asg rfl rfl rfl ?_
  with_reducible refine xo_nil ?_
  with_reducible repeat (first | refine xq_then ?_ | refine xq_blockN ?_ | refine xq_scopeN ?_)
  with_reducible repeat refine xc_seq ?_
  with_reducible refine xc_region ?_
  refine xo_faR T_ rfl rfl rfl rfl rfl ?_
  refine xo_loadR0 T_ rfl rfl rfl r1b rfl ?_
  refine xo_call (fs := []) (cs := []) rfl rfl rfl clone_enters rfl (fun w1 hw1 => (clone_calls M0 es0 cl0 w1 ((hw1.kx.below.block M0 (Array.getElem?_eq_some_iff.1 hg1).1).trans hg1)).mono ?_)
  rintro e w2 ⟨rfl, rfl⟩
  refine ⟨_, _, rfl, hw1.alloc _ (hmap (setV G)) ⟨es0, cl0, rfl, hg2⟩, ?_⟩
  generalize w1.heap.size = b9
  clear hw1
  refine xo_asg rfl rfl rfl ?_
  with_reducible refine xo_nil ?_
  with_reducible repeat (first | refine xq_then ?_ | refine xq_blockN ?_ | refine xq_scopeN ?_)
  with_reducible repeat refine xc_seq ?_
  with_reducible refine xc_region ?_
  refine xo_mv rfl rfl rfl ?_
  refine xo_rangeM T_ rfl rfl rfl (by repeat (first | exact List.Mem.head _ | apply List.Mem.tail | apply List.mem_append_right)) (fun es c => Rep.tail Rep.head) rfl (fun b22 es cl hE => ?_)
  with_reducible refine xo_nil ?_
  with_reducible repeat (first | refine xq_then ?_ | refine xq_blockN ?_ | refine xq_scopeN ?_)
  with_reducible repeat refine xc_seq ?_
  with_reducible refine xc_block ?_
  refine xc_loop (γ := Array Nat × List Int × List Int) (fun q => Seen es q.1 q.2.1 ∧ q.2.2.Nodup ∧ ∀ n, n ∈ q.2.2 ↔ n ∈ G ∧ n ∉ q.2.1) (fun q => [(1, .pointer (some ⟨b1, 0, none⟩)), (2, .pointer (some ⟨b2, 0, none⟩)), (5, .map (some b9)), (11, .pointer (some ⟨b22, 0, none⟩))])
    (fun q => [(b22, true, hiter M cl q.1), (b9, true, hmap (setV q.2.2)), (M, false, hmapE es cl)]) (fun q => S.length - q.2.1.length) (#[], [], G) ⟨⟨List.nodup_nil, fun n => by simp⟩, hGn, fun n => by simp⟩ ⟨rfl, rfl, rfl, rfl, trivial⟩ (by repeat (first | exact List.Sublist.refl _ | apply List.Sublist.cons_cons | apply List.Sublist.cons | exact List.nil_sublist _)) ?_
  rintro ⟨seen, ys, acc2⟩ ⟨hseen, hnd2, hacc2⟩
  simp only at hseen hnd2 hacc2 ⊢
  with_reducible repeat refine xc_seq ?_
  with_reducible refine xc_region ?_
  refine xo_next rfl rfl (by repeat (first | exact List.Mem.head _ | apply List.Mem.tail | apply List.mem_append_right)) (by repeat (first | exact List.Mem.head _ | apply List.Mem.tail | apply List.mem_append_right)) hE (fun seen' => Upd.head) rfl (fun hall => ?_) (fun e he hns => ?_)
  · have hperm := hseen.all hE hall
    have hcong : holdsF r acc2 = holdsF r (diffF G S) := holdsF_congr fun n hn => by rw [hacc2, hperm.mem_iff, diffF, List.mem_filter]; simp
    have hl2 := holdsF_len r acc2
    refine xo_ext rfl rfl rfl rfl ?_
    with_reducible refine xo_nil ?_
    with_reducible repeat (first | refine xq_then ?_ | refine xq_blockN ?_ | refine xq_scopeN ?_)
    with_reducible repeat refine xc_seq ?_
    refine xc_condF rfl ?_
    with_reducible refine xc_exit ?_
    with_reducible repeat (first | refine xq_blockX ?_ | refine xq_thenE ?_ | refine xq_blockE rfl ?_ | refine xq_scopeE ?_)
    refine xq_rep (b := M) (by repeat (first | exact List.Mem.head _ | apply List.Mem.tail | apply List.mem_append_right)) (fun o h => hmapE_hmap hE h) (Rep.tail (Rep.tail Rep.head)) ?_
    with_reducible repeat (first | refine xq_then ?_ | refine xq_blockN ?_ | refine xq_scopeN ?_)
    with_reducible repeat refine xc_seq ?_
    apply xc_drawE (fun g => [(2, .func (.func 70) #[] #[.pointer (some ⟨(g.getD 0 gv0).b, 0, none⟩), .pointer (some ⟨(g.getD 0 gv0).c, 0, none⟩)]), (3, valR (g.getD 1 gv0).rr (holdsF r acc2).length)]) (fun (η0 : Hp) g => match g with | [] => (η0) | a0 :: [] => ((a0.c, true, cel [.map (some b9)] 62) :: (a0.b, true, cel [.slice A r.length c, .map (some M0)] 91) :: η0) | a0 :: a1 :: _ => (hpR 3 1 a1.rr (holdsF r acc2).length ((holdsF r acc2).map (.int .i64)) ++ ((a0.c, true, cel [.map (some b9)] 62) :: (a0.b, true, cel [.slice A r.length c, .map (some M0)] 91) :: η0))) (fun g => match g with | _ :: a1 :: _ => (a1.rr = none → holdsF r acc2 = []) | _ => True) [0, 0, 1, 2, 0, 2, 2] [2, 3] [[0, 1], [2, 2]] (by trivial)
    apply SameLen.cons
    apply SameLen.cons
    apply SameLen.cons (c := undef)
    apply SameLen.cons (c := undef)
    apply SameLen.cons
    apply SameLen.cons
    apply SameLen.cons
    exact SameLen.nil
    rotate_left 5
    case hH0 => rfl
    case hmix => exact T_.mixed
    case hbind => rfl
    case hdeps => rfl
    case hdist => rfl
    case hfresh => rfl
    case hE => rfl
    case hEn => decide
    · refine DrawE.pure 0 0 rfl (.inr (by decide)) (fun L g hg hd => Nat.zero_le _) (fun g hlo hhi hF τ => ?_) ?_
      · rcases g with _ | ⟨a0, _ | ⟨a1, _ | ⟨a2, g⟩⟩⟩
        all_goals first
          | (exfalso; simp only [List.length_cons, List.length_nil] at hlo hhi; omega)
          | (refine ⟨_, rfl, ?_⟩
             refine xo_loadRN T_ rfl rfl rfl (by assumption) rfl rfl ?_
             exact xo_fin rfl)
      refine DrawE.pure 0 0 rfl (.inr (by decide)) (fun L g hg hd => Nat.zero_le _) (fun g hlo hhi hF τ => ?_) ?_
      · rcases g with _ | ⟨a0, _ | ⟨a1, _ | ⟨a2, g⟩⟩⟩
        all_goals first
          | (exfalso; simp only [List.length_cons, List.length_nil] at hlo hhi; omega)
          | (refine ⟨_, rfl, ?_⟩
             refine xo_mv rfl rfl rfl ?_
             exact xo_fin rfl)
      refine DrawE.eff 0 rfl (by decide) rfl (fun j hj => hj) (fun j g a hj => ?_) (fun L g hg hd => Nat.zero_le _) (fun g hgl hF τ => ?_) ?_
      · rcases j with _ | _ | _ | _ | _ | _ | _ | j
        all_goals first | rfl | (rcases g with _ | ⟨a0, _ | ⟨a1, _ | ⟨a2, g⟩⟩⟩ <;> first | rfl | exact absurd hj (by decide) | exact absurd hj (by simp [List.getD]))
      · obtain rfl : g = [] := by
          rcases g with _ | ⟨a0, g⟩ <;> first | rfl | (exfalso; simp only [List.length_cons, List.length_nil] at hgl; omega)
        refine xo_holds rfl rfl rfl rfl (fun b2 b3 => ?_)
        exact xo_finE ⟨b2, b3, none⟩ rfl trivial
      refine DrawE.eff 1 rfl (by decide) rfl (fun j hj => hj) (fun j g a hj => ?_) (fun L g hg hd => hg.2.1 2 (hd 2 (by decide))) (fun g hgl hF τ => ?_) ?_
      · rcases j with _ | _ | _ | _ | _ | _ | _ | j
        all_goals first | rfl | (rcases g with _ | ⟨a0, _ | ⟨a1, _ | ⟨a2, g⟩⟩⟩ <;> first | rfl | exact absurd hj (by decide) | exact absurd hj (by simp [List.getD]))
      · obtain ⟨a0, rfl⟩ : ∃ a0, g = [a0] := by
          rcases g with _ | ⟨a0, _ | ⟨a1, _ | ⟨a2, g⟩⟩⟩ <;> first | exact ⟨_, rfl⟩ | rfl | (exfalso; simp only [List.length_cons, List.length_nil] at hgl; omega)
        refine xo_collect (r := r) hr hlen rfl rfl (by repeat (first | exact List.Mem.head _ | apply List.Mem.tail | apply List.mem_append_right)) (by repeat (first | exact List.Mem.head _ | apply List.Mem.tail | apply List.mem_append_right)) (by repeat (first | exact List.Mem.head _ | apply List.Mem.tail | apply List.mem_append_right)) (fun w1 hw1 => ne_of_nd hw1) rfl (fun rr hrr => ?_)
        exact xo_finE ⟨0, 0, rr⟩ rfl hrr
      refine DrawE.pure 0 2 rfl (.inl rfl) (fun L g hg hd => Nat.zero_le _) (fun g hlo hhi hF τ => ?_) ?_
      · rcases g with _ | ⟨a0, _ | ⟨a1, _ | ⟨a2, g⟩⟩⟩
        all_goals first
          | (exfalso; simp only [List.length_cons, List.length_nil] at hlo hhi; omega)
          | (refine ⟨_, rfl, ?_⟩
             refine xo_loadR0 T_ rfl rfl rfl (by first | assumption | exact RO.fld (by assumption) rfl) rfl ?_
             exact xo_fin rfl)
      refine DrawE.pure 2 2 rfl (.inl rfl) (fun L g hg hd => hg.2.1 3 (hd 3 (by decide))) (fun g hlo hhi hF τ => ?_) ?_
      · rcases g with _ | ⟨a0, _ | ⟨a1, _ | ⟨a2, g⟩⟩⟩
        all_goals first
          | (exfalso; simp only [List.length_cons, List.length_nil] at hlo hhi; omega)
          | (refine ⟨_, rfl, ?_⟩
             refine xo_callB (fs := []) (cs := []) rfl rfl rfl contains_enters rfl (fun w1 hw1 => containsR hw1 id (by omega) (hw1.rowAt (rr := a1.rr) hF (fun p hp => List.mem_append_left _ (by rw [hp]; exact List.Mem.head _)))) ?_
             exact xo_fin rfl)
      refine DrawE.pure 2 2 rfl (.inl rfl) (fun L g hg hd => hg.2.1 5 (hd 5 (by decide))) (fun g hlo hhi hF τ => ?_) ?_
      · rcases g with _ | ⟨a0, _ | ⟨a1, _ | ⟨a2, g⟩⟩⟩
        all_goals first
          | (exfalso; simp only [List.length_cons, List.length_nil] at hlo hhi; omega)
          | (refine ⟨_, rfl, ?_⟩
             refine xo_asg rfl rfl rfl ?_
             exact xo_fin rfl)
      exact DrawE.nil
    intro g hgl hF
    obtain ⟨a0, a1, rfl⟩ : ∃ a0 a1, g = [a0, a1] := by
      rcases g with _ | ⟨a0, _ | ⟨a1, _ | ⟨a2, g⟩⟩⟩ <;> first | exact ⟨_, _, rfl⟩ | (exfalso; simp only [List.length_cons, List.length_nil] at hgl; omega)
    with_reducible repeat (first | refine xq_then ?_ | refine xq_blockN ?_ | refine xq_scopeN ?_)
    with_reducible repeat refine xc_seq ?_
    with_reducible refine xc_ret ?_
    with_reducible repeat (first | refine xq_thenR ?_ | refine xq_blockR ?_ | refine xq_scopeR ?_)
    have hv : decide (id ∈ holdsF r acc2) = causeP r G id S := by rw [causeP, hcong]
    exact xq_ret1 rfl rfl fun w' hw => ⟨congrArg (fun b => Ending.returned (.bool b)) hv, hw.kx.below⟩
  · obtain ⟨k, hk, hk1, hk2⟩ := hE.setV he
    have hst := hseen.step hE he hns hk1
    have hlen2 : ys.length < S.length := by
      have := hst.len hE
      simp at this
      omega
    rw [hk1, hk2]
    refine xo_ext rfl rfl rfl rfl ?_
    with_reducible refine xo_nil ?_
    with_reducible repeat (first | refine xq_then ?_ | refine xq_blockN ?_ | refine xq_scopeN ?_)
    with_reducible repeat refine xc_seq ?_
    refine xc_condT rfl ?_
    with_reducible refine xc_skip ?_
    with_reducible repeat (first | refine xq_then ?_ | refine xq_blockN ?_ | refine xq_scopeN ?_)
    with_reducible repeat refine xc_seq ?_
    with_reducible refine xc_block ?_
    with_reducible repeat refine xc_seq ?_
    with_reducible refine xc_region ?_
    refine xo_entry rfl rfl (by repeat (first | exact List.Mem.head _ | apply List.Mem.tail | apply List.mem_append_right)) (by repeat (first | exact List.Mem.head _ | apply List.Mem.tail | apply List.mem_append_right)) hE he rfl ?_
    rw [hk1, hk2]
    refine xo_ext rfl rfl rfl rfl ?_
    refine xo_asg rfl rfl rfl ?_
    with_reducible refine xo_nil ?_
    with_reducible repeat (first | refine xq_then ?_ | refine xq_blockN ?_ | refine xq_scopeN ?_)
    with_reducible repeat refine xc_seq ?_
    with_reducible refine xc_region ?_
    refine xo_mv rfl rfl rfl ?_
    refine xo_mv rfl rfl rfl ?_
    refine xo_sdel T_ rfl rfl rfl rfl rfl (by repeat (first | exact List.Mem.head _ | apply List.Mem.tail | apply List.mem_append_right)) (by repeat (first | exact Upd.head | apply Upd.tail | apply Upd.app)) rfl ?_
    with_reducible refine xo_nil ?_
    with_reducible repeat (first | refine xq_then ?_ | refine xq_blockN ?_ | refine xq_scopeN ?_)
    refine xq_again _ _ _ _ _ (seen.push e.born, ys ++ [k], delN k acc2) ⟨hst, hnd2.erase _, fun n => ?_⟩ (by simp only [List.length_append, List.length_cons, List.length_nil]; omega) ⟨rfl, rfl, rfl, rfl, trivial⟩ (by repeat (first | exact List.Sublist.refl _ | apply List.Sublist.cons_cons | apply List.Sublist.cons | exact List.nil_sublist _))
    rw [mem_delN hnd2, hacc2, List.mem_append, List.mem_singleton, not_or]
    exact ⟨fun q => ⟨q.2.1, q.2.2, q.1⟩, fun q => ⟨q.2.2, q.1, q.2.1⟩⟩
theorem causes1_enters : ∀ args w, (callFunc 62 args).run Tryd.prog w = .ok (.enter 62 args) w := enters_of Tryd.func62 (by kernel_rfl) rfl
end Go.Proofs.YtcmepdamemnbkaaDoor
namespace Go.Proofs.YtcmepdamemnbkaaDoor
open Go.RowKit Go.Proofs.YtcmepdamemnbkaaDoorW.PrintWords
set_option linter.unusedVariables false
set_option linter.unusedSimpArgs false
theorem idsL_lt {r : List RecT} (hs : SortedIds r) : (idsL r).Pairwise fun a b => a < b := by
  rw [List.pairwise_iff_getElem]
  intro i j hi hj hij
  have hi' : i < r.length := by simpa [idsL] using hi
  have hj' : j < r.length := by simpa [idsL] using hj
  have h1 : (idsL r)[i] = idAt r i := by have := idsL_at hi'; rw [List.getD_eq_getElem?_getD, List.getElem?_eq_getElem hi] at this; exact this
  have h2 : (idsL r)[j] = idAt r j := by have := idsL_at hj'; rw [List.getD_eq_getElem?_getD, List.getElem?_eq_getElem hj] at this; exact this
  rw [h1, h2]
  exact sorted_lt hs j i hij hj'
theorem sub_le {r : List RecT} (hs : SortedIds r) {xs : List Int} (h : xs.Sublist (idsL r)) : xs.Pairwise fun a b => decide (a ≤ b) = true :=
  ((idsL_lt hs).sublist h).imp fun h => by simpa using Int.le_of_lt h
theorem goneL_filter {l : List LetT} {day : Int} : ∀ (r : List RecT) (acc : List Int), (∀ n ∈ idsL r, n ∉ acc) → (idsL r).Nodup → goneL l day acc r = acc ++ (idsL r).filter (goneB l day)
  | [], acc, _, _ => by simp [goneL, idsL]
  | x :: r, acc, h, hn => by
    rw [idsL, List.map_cons, List.nodup_cons] at hn
    have h0 : x.f0 ∉ acc := h x.f0 (by simp [idsL])
    rw [goneL]
    by_cases hg : goneB l day x.f0 = true
    · rw [if_pos hg, insN, if_neg h0, goneL_filter r _ (fun n hn2 hm => ?_) hn.2, show idsL (x :: r) = x.f0 :: idsL r from rfl, List.filter_cons, if_pos hg, List.append_assoc]
      · rfl
      · rcases List.mem_append.1 hm with hm | hm
        · exact h n (by rw [idsL, List.map_cons]; exact List.mem_cons_of_mem _ hn2) hm
        · rw [List.mem_singleton] at hm
          exact hn.1 (hm ▸ hn2)
    · rw [if_neg hg, goneL_filter r acc (fun n hn2 => h n (by rw [idsL, List.map_cons]; exact List.mem_cons_of_mem _ hn2)) hn.2, show idsL (x :: r) = x.f0 :: idsL r from rfl, List.filter_cons, if_neg hg]
theorem goneF_filter {r : List RecT} (hs : SortedIds r) (l : List LetT) (day : Int) : goneF r l day = (idsL r).filter (goneB l day) := goneL_filter r [] (by simp) (idsL_nodup hs)
theorem goneF_sub {r : List RecT} (hs : SortedIds r) (l : List LetT) (day : Int) : (goneF r l day).Sublist (idsL r) := by
  rw [goneF_filter hs]
  exact List.filter_sublist
theorem restsR_eq {r : List RecT} {l : List LetT} {day id : Int} (ho : openF r l day [id] = 0) (hin : id ∈ holdsF r (goneF r l day)) : refRestsR r l day id = fewestF (holdsF r (goneF r l day)) (restP r id) := by
  obtain ⟨hok, hkn⟩ := refOpen_zero ho
  obtain ⟨a, h1, h2, h3⟩ := atF_known hkn
  rw [refRestsR, if_pos ⟨ho, hin⟩, h2, Int.toNat_natCast, ← rests_eq (sorted_of hok) _ h1, h3]
  rfl
theorem causesR_eq {r : List RecT} {l : List LetT} {day id : Int} (ho : openF r l day [id] = 0) (hin : id ∉ holdsF r (goneF r l day)) : refCausesR r l day id = fewestF (goneF r l day) (causeP r (goneF r l day) id) := by
  obtain ⟨hok, hkn⟩ := refOpen_zero ho
  obtain ⟨a, h1, h2, h3⟩ := atF_known hkn
  rw [refCausesR, if_pos ⟨ho, hin⟩, h2, Int.toNat_natCast, ← causes_eq (sorted_of hok) (goneF_sub (sorted_of hok) l day) h1 (by rw [h3]; exact hin), h3]
  rfl
end Go.Proofs.YtcmepdamemnbkaaDoor
namespace Go.Proofs.YtcmepdamemnbkaaDoor
open Go.RowKit
set_option linter.unusedVariables false
set_option linter.unusedSimpArgs false
section
variable {P : Program} {ro : Option Nat} {n N : Nat} {ds : List Deferred} {w0 : World} {X : Nat → Prop} {Q : Exit → Act → World → Prop} {σ : Slots} {η : Hp} {ops rest : List Oper} {d : Option Tmp} {ty : TypeId} {pos : String} {aft : Array Edge} {g : Option (Nat × Bool)} {x y : Operand} {t t' : TypeId}
theorem xo_rem {k : IntKind} {a b : Int} (hg : gS ops σ g = some true) (hx : ev σ x = some (.int k a)) (hy : ev σ y = some (.int k b)) (h0 : 0 ≤ a) (hb : 0 < b) (hN : dstOK N d = true) (h : XO P ro n N ds w0 X Q ops (putS d (.int k (a % b)) σ) η rest) :
    XO P ro n N ds w0 X Q ops σ η (⟨d, .binOp .rem t x y t', ty, pos, aft, g⟩ :: rest) :=
  xo_val _ rfl hg hN (fun _ w ha hw => by
    have h1 : b ≠ 0 := by omega
    simp [execOp, ha.ev hx, ha.ev hy, eqGuard_rem, binOp_rem, Op.intDiv, h1, Int.tmod_eq_emod_of_nonneg h0]) h
theorem xo_quo {k : IntKind} {a b : Int} (hg : gS ops σ g = some true) (hx : ev σ x = some (.int k a)) (hy : ev σ y = some (.int k b)) (h0 : 0 ≤ a) (hb : 0 < b) (hw : k.wrap (a / b) = a / b) (hN : dstOK N d = true) (h : XO P ro n N ds w0 X Q ops (putS d (.int k (a / b)) σ) η rest) :
    XO P ro n N ds w0 X Q ops σ η (⟨d, .binOp .quo t x y t', ty, pos, aft, g⟩ :: rest) :=
  xo_val _ rfl hg hN (fun _ w ha _ => by
    have h1 : b ≠ 0 := by omega
    simp [execOp, ha.ev hx, ha.ev hy, eqGuard_quo, binOp_quo, Op.intDiv, h1, Int.tdiv_eq_ediv_of_nonneg h0, hw]) h
theorem xo_neqB {a b : Bool} (hu : P.underlying t = some .bool) (hg : gS ops σ g = some true) (hx : ev σ x = some (.bool a)) (hy : ev σ y = some (.bool b)) (hN : dstOK N d = true) (h : XO P ro n N ds w0 X Q ops (putS d (.bool (a != b)) σ) η rest) :
    XO P ro n N ds w0 X Q ops σ η (⟨d, .binOp .neq t x y t', ty, pos, aft, g⟩ :: rest) :=
  xo_val _ rfl hg hN (fun _ w ha hw => by
    simp [execOp, ha.ev hx, ha.ev hy, eqGuard_at_bool, binOp, run_equal_bool w t a b hu, Result.andThen]
    cases a <;> cases b <;> rfl) h
theorem xc_slots {c : Code} (σ' : Slots) (hs : subS σ' σ) (h : XC P ro n N ds w0 X Q σ' η c) : XC P ro n N ds w0 X Q σ η c := fun a w ha hw => h a w (ha.sub hs) hw
theorem u32_in (n : Int) (h : 0 ≤ n ∧ n ≤ 4294967295) : IntKind.u32.wrap n = n := by
  simp [IntKind.wrap, IntKind.bits, IntKind.signed]; omega
end
end Go.Proofs.YtcmepdamemnbkaaDoor
namespace Go.Proofs.YtcmepdamemnbkaaDoor
open Go.RowKit Go.Proofs.YtcmepdamemnbkaaDoorW.PrintWords
set_option linter.unusedVariables false
set_option linter.unusedSimpArgs false
theorem refCheckE_enters : ∀ args w, (callFunc 54 args).run Tryd.prog w = .ok (.enter 54 args) w := enters_of Tryd.func54 (by kernel_rfl) rfl
theorem ready_calls (A B : Option Addr) (c c' : Nat) (r : List RecT) (l : List LetT) (w : World) (hr : Kd.C recK w A r.length r) (hl : Kd.C letK w B l.length l) (hk : Bytes r) (hkl : BytesL l) :
    Calls Tryd.prog 33 #[.slice A r.length c, .slice B l.length c'] w fun e w' => ∃ b, e = .returned (.bool b) ∧ Below w.heap.size w w' ∧ (b = true → Small r ∧ l.length ≤ 30 ∧ checkF r l = 0) := by
  refine x_calls (X := XNone) Tryd.func33 rfl rfl rfl ?_
  with_reducible repeat refine xc_seq ?_
  with_reducible refine xc_region ?_
  refine xo_asg rfl rfl rfl ?_
  with_reducible refine xo_nil ?_
  with_reducible repeat (first | refine xq_then ?_ | refine xq_blockN ?_ | refine xq_scopeN ?_)
  with_reducible repeat refine xc_seq ?_
  with_reducible refine xc_region ?_
  refine xo_mv rfl rfl rfl ?_
  refine xo_mv rfl rfl rfl ?_
  refine xo_call (fs := []) (cs := []) rfl rfl rfl great_enters rfl (fun w1 hw1 => (great_calls A B none c c' 0 0 r l w1 (Kd.C_below hr hw1.kx.below) (Kd.C_below hl hw1.kx.below)).mono ?_)
  rintro e w2 ⟨gb, rfl, hb, hgr⟩
  refine ⟨_, _, rfl, hw1.below hb, ?_⟩
  clear hb hw1
  cases gb
  · refine xo_notOp rfl rfl rfl ?_
    refine xo_mv rfl rfl rfl ?_
    refine xo_mv rfl rfl rfl ?_
    refine xo_mv rfl rfl rfl ?_
    refine xo_callB (fs := []) (cs := []) rfl rfl rfl refCheckE_enters rfl (fun w1 hw1 => refCheck_calls A B c c' r l w1 (Kd.C_below hr hw1.kx.below) (Kd.C_below hl hw1.kx.below) hk hkl) ?_
    refine xo_eql rfl rfl rfl rfl ?_
    refine xo_pickT rfl rfl rfl rfl ?_
    refine xo_asg rfl rfl rfl ?_
    with_reducible refine xo_nil ?_
    with_reducible repeat (first | refine xq_then ?_ | refine xq_blockN ?_ | refine xq_scopeN ?_)
    with_reducible repeat refine xc_seq ?_
    with_reducible refine xc_ret ?_
    with_reducible repeat (first | refine xq_thenR ?_ | refine xq_blockR ?_ | refine xq_scopeR ?_)
    exact xq_ret1 rfl rfl fun w' hw => ⟨_, rfl, hw.kx.below, fun h => ⟨(hgr rfl).1, (hgr rfl).2.1, of_decide_eq_true h⟩⟩
  · refine xo_notOp rfl rfl rfl ?_
    refine xo_mv rfl rfl rfl ?_
    refine xo_not rfl rfl ?_
    refine xo_not rfl rfl ?_
    refine xo_not rfl rfl ?_
    refine xo_not rfl rfl ?_
    refine xo_pickF rfl rfl rfl rfl ?_
    refine xo_asg rfl rfl rfl ?_
    with_reducible refine xo_nil ?_
    with_reducible repeat (first | refine xq_then ?_ | refine xq_blockN ?_ | refine xq_scopeN ?_)
    with_reducible repeat refine xc_seq ?_
    with_reducible refine xc_ret ?_
    with_reducible repeat (first | refine xq_thenR ?_ | refine xq_blockR ?_ | refine xq_scopeR ?_)
    exact xq_ret1 rfl rfl fun w' hw => ⟨false, rfl, hw.kx.below, fun h => by cases h⟩
theorem ready_enters : ∀ args w, (callFunc 33 args).run Tryd.prog w = .ok (.enter 33 args) w := enters_of Tryd.func33 (by kernel_rfl) rfl
theorem day_calls (B : Option Addr) (c' : Nat) (l : List LetT) (n : Int) (w : World) (hl : Kd.C letK w B l.length l) (hn : 0 ≤ n ∧ n ≤ 4294967295) (hd : ∀ x ∈ l, 0 ≤ x.f1 ∧ x.f1 ≤ 100000) :
    Calls Tryd.prog 34 #[.slice B l.length c', .int .u32 n] w fun e w' => ∃ d, e = .returned (.int .i64 d) ∧ Below w.heap.size w w' ∧ 0 ≤ d ∧ d ≤ 100000 := by
  have hn2 := hl.2.1
  refine x_calls (X := XNone) Tryd.func34 rfl rfl rfl ?_
  with_reducible repeat refine xc_seq ?_
  with_reducible refine xc_region ?_
  refine xo_asg rfl rfl rfl ?_
  with_reducible refine xo_nil ?_
  with_reducible repeat (first | refine xq_then ?_ | refine xq_blockN ?_ | refine xq_scopeN ?_)
  cases h1 : decide ((l.length : Int) = 0) <;> cases h2 : decide (n % 7 = 0)
  all_goals
    with_reducible repeat refine xc_seq ?_
    with_reducible refine xc_region ?_
    refine xo_mv rfl rfl rfl ?_
    refine xo_len T_ rfl rfl rfl rfl ?_
    refine xo_eql rfl rfl rfl rfl ?_
    refine xo_as (i := 8) rfl (congrArg Value.bool h1) ?_
    refine xo_mv rfl rfl rfl ?_
    first
      | refine xo_not rfl rfl ?_
      | (refine xo_mv rfl rfl rfl ?_)
    first
      | refine xo_not rfl rfl ?_
      | (refine xo_rem rfl rfl rfl (by omega) (by omega) rfl ?_)
    first
      | refine xo_not rfl rfl ?_
      | (refine xo_eql rfl rfl rfl rfl ?_)
    first | refine xo_as (i := 12) rfl (congrArg Value.bool h2) ?_ | skip
    first | refine xo_pickT rfl rfl rfl rfl ?_ | refine xo_pickF rfl rfl rfl rfl ?_
    with_reducible refine xo_nil ?_
    with_reducible repeat (first | refine xq_then ?_ | refine xq_blockN ?_ | refine xq_scopeN ?_)
    with_reducible repeat refine xc_seq ?_
    first | refine xc_condT rfl ?_ | refine xc_condF rfl ?_
  rotate_left
  iterate 3
    · with_reducible repeat refine xc_seq ?_
      with_reducible refine xc_region ?_
      refine xo_mv rfl rfl rfl ?_
      refine xo_conv T_ rfl rfl rfl rfl (IntWalk.i64_in _ ⟨by omega, by omega⟩) rfl ?_
      refine xo_rem rfl rfl rfl (by omega) (by omega) rfl ?_
      refine xo_asg rfl rfl rfl ?_
      with_reducible refine xo_nil ?_
      with_reducible repeat (first | refine xq_then ?_ | refine xq_blockN ?_ | refine xq_scopeN ?_)
      with_reducible repeat refine xc_seq ?_
      with_reducible refine xc_ret ?_
      with_reducible repeat (first | refine xq_thenR ?_ | refine xq_blockR ?_ | refine xq_scopeR ?_)
      exact xq_ret1 rfl rfl fun w' hw => ⟨_, rfl, hw.kx.below, by omega, by omega⟩
  have h1 := of_decide_eq_false h1
  have hm1 := Int.emod_nonneg n (b := (l.length : Int)) h1
  have hm2 := Int.emod_lt_of_pos n (b := (l.length : Int)) (by omega)
  obtain ⟨ad, rfl, r1⟩ := let_at hl (n % (l.length : Int)).toNat (by omega)
  have hdx := hd _ (getD_mem l zLet (n % (l.length : Int)).toNat (by omega))
  rw [show (((n % (l.length : Int)).toNat : Nat) : Int) = n % (l.length : Int) by omega] at r1
  generalize l.getD (n % (l.length : Int)).toNat zLet = x at *
  with_reducible refine xc_skip ?_
  with_reducible repeat (first | refine xq_then ?_ | refine xq_blockN ?_ | refine xq_scopeN ?_)
  with_reducible repeat refine xc_seq ?_
  with_reducible refine xc_region ?_
  refine xo_mv rfl rfl rfl ?_
  refine xo_mv rfl rfl rfl ?_
  refine xo_conv T_ rfl rfl rfl rfl (IntWalk.i64_in _ ⟨by omega, by omega⟩) rfl ?_
  refine xo_mv rfl rfl rfl ?_
  refine xo_len T_ rfl rfl rfl rfl ?_
  refine xo_rem rfl rfl rfl (by omega) (by omega) rfl ?_
  refine xo_ia T_ rfl rfl rfl rfl rfl ⟨by omega, by omega⟩ rfl ?_
  refine xo_faR T_ rfl rfl rfl rfl rfl ?_
  refine xo_loadR0 T_ rfl rfl rfl (by first | assumption | exact RO.fld (by assumption) rfl) rfl ?_
  refine xo_mv rfl rfl rfl ?_
  refine xo_quo rfl rfl rfl (by omega) (by omega) (by first | exact u32_in _ ⟨by omega, by omega⟩ | exact IntWalk.i64_in _ ⟨by omega, by omega⟩) rfl ?_
  refine xo_conv T_ rfl rfl rfl rfl (IntWalk.i64_in _ ⟨by omega, by omega⟩) rfl ?_
  refine xo_rem rfl rfl rfl (by omega) (by omega) rfl ?_
  refine xo_add rfl rfl rfl (by omega) rfl ?_
  refine xo_sub rfl rfl rfl (by omega) rfl ?_
  refine xo_asg rfl rfl rfl ?_
  with_reducible refine xo_nil ?_
  with_reducible repeat (first | refine xq_then ?_ | refine xq_blockN ?_ | refine xq_scopeN ?_)
  with_reducible repeat refine xc_seq ?_
  with_reducible refine xc_region ?_
  refine xo_mv rfl rfl rfl ?_
  refine xo_min rfl rfl rfl rfl ?_
  refine xo_max rfl rfl rfl rfl ?_
  refine xo_asg rfl rfl rfl ?_
  with_reducible refine xo_nil ?_
  with_reducible repeat (first | refine xq_then ?_ | refine xq_blockN ?_ | refine xq_scopeN ?_)
  with_reducible repeat refine xc_seq ?_
  with_reducible refine xc_ret ?_
  with_reducible repeat (first | refine xq_thenR ?_ | refine xq_blockR ?_ | refine xq_scopeR ?_)
  refine xq_ret1 rfl rfl fun w' hw => ⟨_, rfl, hw.kx.below, ?_⟩
  refine ⟨?_, ?_⟩ <;> (split <;> (try split) <;> omega)
theorem day_enters : ∀ args w, (callFunc 34 args).run Tryd.prog w = .ok (.enter 34 args) w := enters_of Tryd.func34 (by kernel_rfl) rfl
theorem insN_new {x : Int} {s : List Int} (h : x ∉ s) : insN x s = s ++ [x] := if_neg h
theorem set_calls (A : Option Addr) (c : Nat) (xs : List Int) (w : World) (hr : Kd.C (Kd.int .i64) w A xs.length xs) (hs : xs.Pairwise fun a b => a < b) :
    Calls Tryd.prog 35 #[.slice A xs.length c] w fun e w' => ∃ M, e = .returned (.tuple #[.map (some M), .bool true]) ∧ WOK w XNone [(M, true, hmap (setV xs))] w' := by
  have hn := hr.2.1
  have hlt : ∀ i j (hi : i < j) (hj : j < xs.length), xs.getD i 0 < xs.getD j 0 := fun i j hi hj => by
    rw [List.pairwise_iff_getElem] at hs
    have := hs i j (by omega) hj hi
    simpa [List.getD_eq_getElem?_getD, List.getElem?_eq_getElem hj, List.getElem?_eq_getElem (show i < xs.length by omega)] using this
  refine x_calls (X := XNone) Tryd.func35 rfl rfl rfl ?_
  with_reducible repeat refine xc_seq ?_
  with_reducible refine xc_region ?_
  refine xo_asg rfl rfl rfl ?_
  refine xo_asg rfl rfl rfl ?_
  with_reducible refine xo_nil ?_
  with_reducible repeat (first | refine xq_then ?_ | refine xq_blockN ?_ | refine xq_scopeN ?_)
  with_reducible repeat refine xc_seq ?_
  with_reducible refine xc_region ?_
  refine xo_mkm rfl rfl (fun b7 => ?_)
  refine xo_asg rfl rfl rfl ?_
  with_reducible refine xo_nil ?_
  with_reducible repeat (first | refine xq_then ?_ | refine xq_blockN ?_ | refine xq_scopeN ?_)
  with_reducible repeat refine xc_seq ?_
  with_reducible refine xc_region ?_
  refine xo_mv rfl rfl rfl ?_
  refine xo_len T_ rfl rfl rfl rfl ?_
  refine xo_mv rfl rfl rfl ?_
  with_reducible refine xo_nil ?_
  with_reducible repeat (first | refine xq_then ?_ | refine xq_blockN ?_ | refine xq_scopeN ?_)
  with_reducible repeat refine xc_seq ?_
  with_reducible refine xc_block ?_
  refine xc_loop (γ := Nat) (fun k => k ≤ xs.length) (fun k => [(0, .slice A xs.length c), (4, .map (some b7)), (8, .slice A xs.length c), (9, .int .i64 (xs.length : Int)), (10, .int .i64 (k : Int))])
    (fun k => [(b7, true, hmap (setV (xs.take k)))]) (fun k => xs.length - k) 0 (Nat.zero_le _) ⟨rfl, rfl, rfl, rfl, rfl, trivial⟩ (by repeat (first | exact List.Sublist.refl _ | apply List.Sublist.cons_cons | apply List.Sublist.cons | exact List.nil_sublist _)) ?_
  intro k hk1
  with_reducible repeat refine xc_seq ?_
  with_reducible refine xc_region ?_
  refine xo_lss rfl rfl rfl rfl ?_
  with_reducible refine xo_nil ?_
  with_reducible repeat (first | refine xq_then ?_ | refine xq_blockN ?_ | refine xq_scopeN ?_)
  with_reducible repeat refine xc_seq ?_
  refine xc_cond rfl (fun h => ?_) (fun h => ?_)
  · have hkl : k < xs.length := by have := of_decide_eq_true h; omega
    obtain ⟨ad, rfl, r1⟩ := int_at hr k hkl
    have hnew : xs.getD k 0 ∉ xs.take k := fun hm => by
      obtain ⟨i, hi, e⟩ := List.getElem_of_mem hm
      have hik : i < k ∧ i < xs.length := by simp at hi; omega
      have h1 := hlt i k hik.1 hkl
      simp only [List.getElem_take] at e
      rw [← e] at h1
      simp [List.getD_eq_getElem?_getD, List.getElem?_eq_getElem hik.2] at h1
    have htk : xs.take (k + 1) = insN (xs.getD k 0) (xs.take k) := by
      rw [insN_new hnew, List.take_succ_eq_append_getElem hkl]
      simp [List.getD_eq_getElem?_getD, List.getElem?_eq_getElem hkl]
    have hup := fun h0 : 0 < (k : Int) => hlt (k - 1) k (by omega) hkl
    have hr2 : 0 < (k : Int) → RO w XNone (ad.add (((k : Int) - 1).toNat * szN 0)) [.int .i64 (xs.getD (k - 1) 0)] := fun h0 => by
      obtain ⟨ad2, e, h1⟩ := int_at hr (k - 1) (by omega)
      cases e
      rw [show ((k : Int) - 1).toNat = ((k - 1 : Nat) : Int).toNat by omega]
      exact h1
    generalize xs.getD k 0 = x at *
    with_reducible refine xc_skip ?_
    with_reducible repeat (first | refine xq_then ?_ | refine xq_blockN ?_ | refine xq_scopeN ?_)
    with_reducible repeat refine xc_seq ?_
    with_reducible refine xc_block ?_
    with_reducible repeat refine xc_seq ?_
    with_reducible refine xc_region ?_
    refine xo_mv rfl rfl rfl ?_
    refine xo_ia T_ rfl rfl rfl rfl rfl ⟨by omega, by omega⟩ rfl ?_
    refine xo_loadR0 T_ rfl rfl rfl (by first | assumption | exact RO.fld (by assumption) rfl) rfl ?_
    refine xo_asg rfl rfl rfl ?_
    refine xo_asg rfl rfl rfl ?_
    with_reducible refine xo_nil ?_
    with_reducible repeat (first | refine xq_then ?_ | refine xq_blockN ?_ | refine xq_scopeN ?_)
    cases h0 : decide (0 < (k : Int))
    · with_reducible repeat refine xc_seq ?_
      with_reducible refine xc_region ?_
      refine xo_mv rfl rfl rfl ?_
      refine xo_gtr rfl rfl rfl rfl ?_
      refine xo_as (i := 16) rfl (congrArg Value.bool h0) ?_
      refine xo_mv rfl rfl rfl ?_
      first
        | refine xo_not rfl rfl ?_
        | (refine xo_mv rfl rfl rfl ?_)
      first
        | refine xo_not rfl rfl ?_
        | (refine xo_mv rfl rfl rfl ?_)
      first
        | refine xo_not rfl rfl ?_
        | (refine xo_mv rfl rfl rfl ?_)
      first
        | refine xo_not rfl rfl ?_
        | (refine xo_sub rfl rfl rfl (by omega) rfl ?_)
      first
        | refine xo_not rfl rfl ?_
        | (refine xo_ia T_ rfl rfl rfl rfl rfl ⟨by omega, by omega⟩ rfl ?_)
      first
        | refine xo_not rfl rfl ?_
        | (refine xo_loadR0 T_ rfl rfl rfl (by first | assumption | exact RO.fld (by assumption) rfl) rfl ?_)
      first
        | refine xo_not rfl rfl ?_
        | (refine xo_leq rfl rfl rfl rfl ?_)
      first | refine xo_pickT rfl rfl rfl rfl ?_ | refine xo_pickF rfl rfl rfl rfl ?_
      with_reducible refine xo_nil ?_
      with_reducible repeat (first | refine xq_then ?_ | refine xq_blockN ?_ | refine xq_scopeN ?_)
      with_reducible repeat refine xc_seq ?_
      refine xc_condF rfl ?_
      with_reducible refine xc_skip ?_
      with_reducible repeat (first | refine xq_then ?_ | refine xq_blockN ?_ | refine xq_scopeN ?_)
      with_reducible repeat refine xc_seq ?_
      with_reducible refine xc_region ?_
      refine xo_mv rfl rfl rfl ?_
      refine xo_mv rfl rfl rfl ?_
      refine xo_sins T_ rfl rfl rfl rfl rfl rfl (by repeat (first | exact List.Mem.head _ | apply List.Mem.tail | apply List.mem_append_right)) (by repeat (first | exact Upd.head | apply Upd.tail | apply Upd.app)) rfl ?_
      with_reducible refine xo_nil ?_
      with_reducible repeat (first | refine xq_then ?_ | refine xq_blockN ?_ | refine xq_scopeN ?_)
      with_reducible repeat refine xc_seq ?_
      with_reducible refine xc_region ?_
      refine xo_add rfl rfl rfl (by omega) rfl ?_
      refine xo_mv rfl rfl rfl ?_
      with_reducible refine xo_nil ?_
      with_reducible repeat (first | refine xq_then ?_ | refine xq_blockN ?_ | refine xq_scopeN ?_)
      exact xq_again _ _ _ _ _ (k + 1) hkl (by omega) ⟨rfl, rfl, rfl, rfl, rfl, trivial⟩ (by rw [htk]; exact (by repeat (first | exact List.Sublist.refl _ | apply List.Sublist.cons_cons | apply List.Sublist.cons | exact List.nil_sublist _)))
    · have h0' := of_decide_eq_true h0
      have r2 := hr2 h0'
      have hu := hup h0'
      have h3 : decide (x ≤ xs.getD (k - 1) 0) = false := decide_eq_false (by omega)
      with_reducible repeat refine xc_seq ?_
      with_reducible refine xc_region ?_
      refine xo_mv rfl rfl rfl ?_
      refine xo_gtr rfl rfl rfl rfl ?_
      refine xo_as (i := 16) rfl (congrArg Value.bool h0) ?_
      refine xo_mv rfl rfl rfl ?_
      first
        | refine xo_not rfl rfl ?_
        | (refine xo_mv rfl rfl rfl ?_)
      first
        | refine xo_not rfl rfl ?_
        | (refine xo_mv rfl rfl rfl ?_)
      first
        | refine xo_not rfl rfl ?_
        | (refine xo_mv rfl rfl rfl ?_)
      first
        | refine xo_not rfl rfl ?_
        | (refine xo_sub rfl rfl rfl (by omega) rfl ?_)
      first
        | refine xo_not rfl rfl ?_
        | (refine xo_ia T_ rfl rfl rfl rfl rfl ⟨by omega, by omega⟩ rfl ?_)
      first
        | refine xo_not rfl rfl ?_
        | (refine xo_loadR0 T_ rfl rfl rfl (by first | assumption | exact RO.fld (by assumption) rfl) rfl ?_)
      first
        | refine xo_not rfl rfl ?_
        | (refine xo_leq rfl rfl rfl rfl ?_)
      refine xo_as (i := 24) rfl (congrArg Value.bool h3) ?_
      first | refine xo_pickT rfl rfl rfl rfl ?_ | refine xo_pickF rfl rfl rfl rfl ?_
      with_reducible refine xo_nil ?_
      with_reducible repeat (first | refine xq_then ?_ | refine xq_blockN ?_ | refine xq_scopeN ?_)
      with_reducible repeat refine xc_seq ?_
      refine xc_condF rfl ?_
      with_reducible refine xc_skip ?_
      with_reducible repeat (first | refine xq_then ?_ | refine xq_blockN ?_ | refine xq_scopeN ?_)
      with_reducible repeat refine xc_seq ?_
      with_reducible refine xc_region ?_
      refine xo_mv rfl rfl rfl ?_
      refine xo_mv rfl rfl rfl ?_
      refine xo_sins T_ rfl rfl rfl rfl rfl rfl (by repeat (first | exact List.Mem.head _ | apply List.Mem.tail | apply List.mem_append_right)) (by repeat (first | exact Upd.head | apply Upd.tail | apply Upd.app)) rfl ?_
      with_reducible refine xo_nil ?_
      with_reducible repeat (first | refine xq_then ?_ | refine xq_blockN ?_ | refine xq_scopeN ?_)
      with_reducible repeat refine xc_seq ?_
      with_reducible refine xc_region ?_
      refine xo_add rfl rfl rfl (by omega) rfl ?_
      refine xo_mv rfl rfl rfl ?_
      with_reducible refine xo_nil ?_
      with_reducible repeat (first | refine xq_then ?_ | refine xq_blockN ?_ | refine xq_scopeN ?_)
      exact xq_again _ _ _ _ _ (k + 1) hkl (by omega) ⟨rfl, rfl, rfl, rfl, rfl, trivial⟩ (by rw [htk]; exact (by repeat (first | exact List.Sublist.refl _ | apply List.Sublist.cons_cons | apply List.Sublist.cons | exact List.nil_sublist _)))
  · have hge : ¬ k < xs.length := by have := of_decide_eq_false h; omega
    rw [List.take_of_length_le (by omega)]
    with_reducible refine xc_exit ?_
    with_reducible repeat (first | refine xq_blockX ?_ | refine xq_thenE ?_ | refine xq_blockE rfl ?_ | refine xq_scopeE ?_)
    with_reducible repeat (first | refine xq_then ?_ | refine xq_blockN ?_ | refine xq_scopeN ?_)
    with_reducible repeat refine xc_seq ?_
    with_reducible refine xc_region ?_
    refine xo_mv rfl rfl rfl ?_
    refine xo_asg rfl rfl rfl ?_
    refine xo_asg rfl rfl rfl ?_
    with_reducible refine xo_nil ?_
    with_reducible repeat (first | refine xq_then ?_ | refine xq_blockN ?_ | refine xq_scopeN ?_)
    with_reducible repeat refine xc_seq ?_
    with_reducible refine xc_ret ?_
    with_reducible repeat (first | refine xq_thenR ?_ | refine xq_blockR ?_ | refine xq_scopeR ?_)
    exact xq_ret2 rfl rfl rfl fun w' hw => ⟨b7, rfl, hw⟩
theorem set_enters : ∀ args w, (callFunc 35 args).run Tryd.prog w = .ok (.enter 35 args) w := enters_of Tryd.func35 (by kernel_rfl) rfl
def nextN (l : List LetT) : Int := if l.length = 0 then 0 else (l.getD (l.length - 1) zLet).f0 + 1
def nextB (l : List LetT) : Bool := decide (l.length = 0) || (decide ((l.getD (l.length - 1) zLet).f0 < 9999) && decide ((l.length : Int) < 20))
theorem next_calls (B : Option Addr) (c' : Nat) (l : List LetT) (w : World) (hl : Kd.C letK w B l.length l) (hd : ∀ x ∈ l, 0 ≤ x.f0 ∧ x.f0 ≤ 9999) :
    Calls Tryd.prog 36 #[.slice B l.length c'] w fun e w' => e = .returned (.tuple #[.int .i64 (nextN l), .bool (nextB l)]) ∧ Below w.heap.size w w' := by
  have hn2 := hl.2.1
  refine x_calls (X := XNone) Tryd.func36 rfl rfl rfl ?_
  with_reducible repeat refine xc_seq ?_
  with_reducible refine xc_region ?_
  refine xo_asg rfl rfl rfl ?_
  refine xo_asg rfl rfl rfl ?_
  with_reducible refine xo_nil ?_
  with_reducible repeat (first | refine xq_then ?_ | refine xq_blockN ?_ | refine xq_scopeN ?_)
  with_reducible repeat refine xc_seq ?_
  with_reducible refine xc_region ?_
  refine xo_mv rfl rfl rfl ?_
  refine xo_len T_ rfl rfl rfl rfl ?_
  refine xo_eql rfl rfl rfl rfl ?_
  with_reducible refine xo_nil ?_
  with_reducible repeat (first | refine xq_then ?_ | refine xq_blockN ?_ | refine xq_scopeN ?_)
  with_reducible repeat refine xc_seq ?_
  refine xc_cond rfl (fun h0 => ?_) (fun h0 => ?_)
  · have h0 : l.length = 0 := by have := of_decide_eq_true h0; omega
    with_reducible repeat refine xc_seq ?_
    with_reducible refine xc_region ?_
    refine xo_asg rfl rfl rfl ?_
    refine xo_asg rfl rfl rfl ?_
    with_reducible refine xo_nil ?_
    with_reducible repeat (first | refine xq_then ?_ | refine xq_blockN ?_ | refine xq_scopeN ?_)
    with_reducible repeat refine xc_seq ?_
    with_reducible refine xc_ret ?_
    with_reducible repeat (first | refine xq_thenR ?_ | refine xq_blockR ?_ | refine xq_scopeR ?_)
    exact xq_ret2 rfl rfl rfl fun w' hw => ⟨by rw [nextN, nextB, if_pos h0, decide_eq_true h0]; rfl, hw.kx.below⟩
  have h0 : ¬ l.length = 0 := by have := of_decide_eq_false h0; omega
  obtain ⟨ad, rfl, r1⟩ := let_at hl (l.length - 1) (by omega)
  have hdx := hd _ (getD_mem l zLet (l.length - 1) (by omega))
  have e1 : nextN l = (l.getD (l.length - 1) zLet).f0 + 1 := by rw [nextN, if_neg h0]
  have e2 : nextB l = (decide ((l.getD (l.length - 1) zLet).f0 < 9999) && decide ((l.length : Int) < 20)) := by rw [nextB, decide_eq_false h0, Bool.false_or]
  rw [show (((l.length - 1 : Nat) : Nat) : Int) = (l.length : Int) - 1 by omega] at r1
  generalize l.getD (l.length - 1) zLet = x at *
  with_reducible refine xc_skip ?_
  with_reducible repeat (first | refine xq_then ?_ | refine xq_blockN ?_ | refine xq_scopeN ?_)
  cases h1 : decide (x.f0 < 9999)
  all_goals
    with_reducible repeat refine xc_seq ?_
    refine xc_slots [(0, .slice (some ad) l.length c')] ⟨rfl, trivial⟩ ?_
    with_reducible repeat refine xc_seq ?_
    apply xc_drawN
    · exact T_.mixed
    · rfl
    · rfl
    · rfl
    · rfl
    · apply DrawOps.cons
      · intro τ
        refine xo_mv rfl rfl rfl ?_
        exact xo_fin rfl
      apply DrawOps.cons
      · intro τ
        refine xo_mv rfl rfl rfl ?_
        exact xo_fin rfl
      apply DrawOps.cons
      · intro τ
        refine xo_len T_ rfl rfl rfl rfl ?_
        exact xo_fin rfl
      apply DrawOps.cons
      · intro τ
        refine xo_sub rfl rfl rfl (by omega) rfl ?_
        exact xo_fin rfl
      apply DrawOps.cons
      · intro τ
        refine xo_ia T_ rfl rfl rfl rfl rfl ⟨by omega, by omega⟩ rfl ?_
        exact xo_fin rfl
      apply DrawOps.cons
      · intro τ
        refine xo_faR T_ rfl rfl rfl rfl rfl ?_
        exact xo_fin rfl
      apply DrawOps.cons
      · intro τ
        refine xo_loadR0 T_ rfl rfl rfl (by first | assumption | exact RO.fld (by assumption) rfl) rfl ?_
        exact xo_fin rfl
      apply DrawOps.cons
      · intro τ
        refine xo_add rfl rfl rfl (by omega) rfl ?_
        exact xo_fin rfl
      apply DrawOps.cons
      · intro τ
        refine xo_mv rfl rfl rfl ?_
        exact xo_fin rfl
      apply DrawOps.cons
      · intro τ
        refine xo_mv rfl rfl rfl ?_
        exact xo_fin rfl
      apply DrawOps.cons
      · intro τ
        refine xo_len T_ rfl rfl rfl rfl ?_
        exact xo_fin rfl
      apply DrawOps.cons
      · intro τ
        refine xo_sub rfl rfl rfl (by omega) rfl ?_
        exact xo_fin rfl
      apply DrawOps.cons
      · intro τ
        refine xo_ia T_ rfl rfl rfl rfl rfl ⟨by omega, by omega⟩ rfl ?_
        exact xo_fin rfl
      apply DrawOps.cons
      · intro τ
        refine xo_faR T_ rfl rfl rfl rfl rfl ?_
        exact xo_fin rfl
      apply DrawOps.cons
      · intro τ
        refine xo_loadR0 T_ rfl rfl rfl (by first | assumption | exact RO.fld (by assumption) rfl) rfl ?_
        exact xo_fin rfl
      apply DrawOps.cons
      · intro τ
        refine xo_lss rfl rfl rfl rfl ?_
        first
          | exact xo_fin (congrArg Value.bool h1)
          | exact xo_fin rfl
      apply DrawOps.cons
      · intro τ
        refine xo_mv rfl rfl rfl ?_
        exact xo_fin rfl
      apply DrawOps.cons
      · intro τ
        first
          | refine xo_not rfl rfl ?_
          | (refine xo_mv rfl rfl rfl ?_)
        exact xo_fin rfl
      apply DrawOps.cons
      · intro τ
        first
          | refine xo_not rfl rfl ?_
          | (refine xo_len T_ rfl rfl rfl rfl ?_)
        exact xo_fin rfl
      apply DrawOps.cons
      · intro τ
        first
          | refine xo_not rfl rfl ?_
          | (refine xo_lss rfl rfl rfl rfl ?_)
        exact xo_fin rfl
      apply DrawOps.cons
      · intro τ
        first | refine xo_pickT rfl rfl rfl rfl ?_ | refine xo_pickF rfl rfl rfl rfl ?_
        exact xo_fin rfl
      apply DrawOps.cons
      · intro τ
        refine xo_asg rfl rfl rfl ?_
        exact xo_fin rfl
      apply DrawOps.cons
      · intro τ
        refine xo_asg rfl rfl rfl ?_
        exact xo_fin rfl
      exact DrawOps.nil
    · rfl
    with_reducible repeat (first | refine xq_then ?_ | refine xq_blockN ?_ | refine xq_scopeN ?_)
    with_reducible repeat refine xc_seq ?_
    with_reducible refine xc_ret ?_
    with_reducible repeat (first | refine xq_thenR ?_ | refine xq_blockR ?_ | refine xq_scopeR ?_)
    exact xq_ret2 rfl rfl rfl fun w' hw => ⟨by rw [e1, e2, h1]; rfl, hw.kx.below⟩
theorem next_enters : ∀ args w, (callFunc 36 args).run Tryd.prog w = .ok (.enter 36 args) w := enters_of Tryd.func36 (by kernel_rfl) rfl
end Go.Proofs.YtcmepdamemnbkaaDoor
namespace Go.Proofs.YtcmepdamemnbkaaDoor
open Go.RowKit Go.Proofs.YtcmepdamemnbkaaDoorW.PrintWords
set_option linter.unusedVariables false
set_option linter.unusedSimpArgs false
theorem standsF_congr {bs bs' : List Int} {ways : List (List Int)} (h : ∀ way ∈ ways, ∀ n ∈ way, (n ∈ bs ↔ n ∈ bs')) : standsF bs ways = standsF bs' ways := by
  unfold standsF
  congr 1
  rw [Bool.eq_iff_iff, List.any_eq_true, List.any_eq_true]
  have hh : ∀ way ∈ ways, allIn bs way = allIn bs' way := fun way hw => by
    rw [Bool.eq_iff_iff]
    simp only [allIn, List.all_eq_true, decide_eq_true_eq]
    exact ⟨fun q n hn => (h way hw n hn).1 (q n hn), fun q n hn => (h way hw n hn).2 (q n hn)⟩
  exact ⟨fun ⟨w, h1, h2⟩ => ⟨w, h1, by rw [← hh w h1]; exact h2⟩, fun ⟨w, h1, h2⟩ => ⟨w, h1, by rw [hh w h1]; exact h2⟩⟩
/-- what holds, by itself: a record holds just if it is not gone, and some way of it holds -/
theorem hold_iff {r : List RecT} (hok : recordedF r = true) (G : List Int) {k : Nat} (hk : k < r.length) : idAt r k ∈ holdsF r G ↔ standsF (holdsF r G) (r.getD k zRec).f2 = true ∧ idAt r k ∉ G := by
  have hs := sorted_of hok
  obtain ⟨bs, h1, h2⟩ := hold_at hs G k hk
  have h3 : standsF bs (r.getD k zRec).f2 = standsF (holdsF r G) (r.getD k zRec).f2 := standsF_congr fun way hway n hn => by
    obtain ⟨a, h4, h5, h6⟩ := recorded_before hok hk hway hn
    rw [h2]
    exact ⟨fun q => q.1, fun q => ⟨q, a, h4, h6⟩⟩
  rw [h3] at h1
  rw [← decide_eq_true_iff (p := idAt r k ∈ holdsF r G), h1]
  simp
theorem holdsF_mem {r : List RecT} {G : List Int} {n : Int} (h : n ∈ holdsF r G) : ∃ k, k < r.length ∧ idAt r k = n := holdsL_mem r [] n h
/-- the more are gone, the fewer hold -/
theorem holdsF_mono {r : List RecT} (hok : recordedF r = true) {G G' : List Int} (h : ∀ n, n ∈ G → n ∈ G') : ∀ n, n ∈ holdsF r G' → n ∈ holdsF r G := by
  have key : ∀ j k, k < j → k < r.length → idAt r k ∈ holdsF r G' → idAt r k ∈ holdsF r G := by
    intro j
    induction j with
    | zero => intro k hk; omega
    | succ j ih =>
      intro k hkj hk hm
      rw [hold_iff hok G' hk] at hm
      rw [hold_iff hok G hk]
      refine ⟨?_, fun q => hm.2 (h _ q)⟩
      have h1 := hm.1
      simp only [standsF, Bool.or_eq_true, List.any_eq_true] at h1 ⊢
      rcases h1 with h1 | ⟨w, h2, h3⟩
      · exact .inl h1
      · refine .inr ⟨w, h2, ?_⟩
        simp only [allIn, List.all_eq_true, decide_eq_true_eq] at h3 ⊢
        intro n hn
        obtain ⟨a, h4, h5, h6⟩ := recorded_before hok hk h2 hn
        have := h3 n hn
        rw [← h6] at this ⊢
        exact ih a (by omega) h5 this
  intro n hn
  obtain ⟨k, hk, rfl⟩ := holdsF_mem hn
  exact key (k + 1) k (by omega) hk hn
/-! ### one letter more -/
theorem latF_app (so : LetT → Bool) (when_ : LetT → Int) (s : LetT × Bool) (l : List LetT) (y : LetT) : latF so when_ s (l ++ [y]) = latStep so when_ (latF so when_ s l) y := by
  simp [latF, List.foldl_append]
theorem lastF_app (l : List LetT) (y : LetT) (day id : Int) : lastF (l ++ [y]) day id = latStep (fun y => decide (y.f2 = id) && decide (y.f1 ≤ day)) (fun y => y.f1) (lastF l day id) y := latF_app _ _ _ _ _
theorem lastF_day (l : List LetT) (day id : Int) : (lastF l day id).2 = true → (lastF l day id).1.f1 ≤ day := by
  have key : ∀ (l : List LetT) (s : LetT × Bool), (s.2 = true → s.1.f1 ≤ day) → (latF (fun y => decide (y.f2 = id) && decide (y.f1 ≤ day)) (fun y => y.f1) s l).2 = true → (latF (fun y => decide (y.f2 = id) && decide (y.f1 ≤ day)) (fun y => y.f1) s l).1.f1 ≤ day := by
    intro l
    induction l with
    | nil => intro s h; exact h
    | cons x l ih =>
      intro s h
      refine ih _ ?_
      unfold latStep
      split
      · rename_i h1
        intro _
        simp only [Bool.and_eq_true, decide_eq_true_eq] at h1
        exact h1.1.2
      · exact h
  exact key l (zLet, false) (by simp)
theorem goneB_app {l : List LetT} {y : LetT} {day : Int} (hy : y.f1 = day) (n : Int) : goneB (l ++ [y]) day n = if y.f2 = n then decide (y.f3 = 1) else goneB l day n := by
  unfold goneB
  rw [lastF_app]
  unfold latStep
  by_cases e : y.f2 = n
  · rw [if_pos e, if_pos]
    · simp
    · have h1 := lastF_day l day n
      simp only [e, decide_true, hy, Int.le_refl, Bool.true_and, Bool.or_eq_true, Bool.not_eq_true', decide_eq_true_eq]
      cases h : (lastF l day n).2
      · exact .inl rfl
      · exact .inr (h1 h)
  · rw [if_neg e, if_neg]
    simp [e]
theorem lettersF_app {r : List RecT} {y : LetT} : ∀ (l : List LetT) (last i : Int), lettersF r last i (l ++ [y]) = (lettersF r last i l && (inF ((if l.length = 0 then last else (l.getD (l.length - 1) zLet).f0) + 1) 9999 y.f0 && inF 0 100000 y.f1 && knownF r y.f2 && inF 1 2 y.f3 && !decide (20 ≤ i + (l.length : Int))))
  | [], last, i => by simp [lettersF]
  | x :: l, last, i => by
    rw [List.cons_append, lettersF, lettersF_app l x.f0 (i + 1), lettersF]
    have e1 : (if (x :: l).length = 0 then last else ((x :: l).getD ((x :: l).length - 1) zLet).f0) = (if l.length = 0 then x.f0 else (l.getD (l.length - 1) zLet).f0) := by
      rw [if_neg (by simp)]
      cases l with
      | nil => simp
      | cons z l => simp
    have e2 : i + 1 + (l.length : Int) = i + ((x :: l).length : Int) := by simp only [List.length_cons]; omega
    rw [e1, e2]
    simp only [Bool.and_assoc]
theorem lettersF_mem {r : List RecT} : ∀ (l : List LetT) (last i : Int), -1 ≤ last → lettersF r last i l = true → ∀ x ∈ l, (0 ≤ x.f0 ∧ x.f0 ≤ 9999) ∧ (0 ≤ x.f1 ∧ x.f1 ≤ 100000) ∧ knownF r x.f2 = true
  | [], _, _, _, _, x, hx => by cases hx
  | y :: l, last, i, hl, h, x, hx => by
    simp only [lettersF, Bool.and_eq_true, inF, decide_eq_true_eq] at h
    rcases List.mem_cons.1 hx with rfl | hx
    · exact ⟨⟨by omega, h.1.1.1.1.1.2⟩, h.1.1.1.1.2, h.1.1.1.2⟩
    · exact lettersF_mem l _ _ (by omega) h.2 x hx
theorem check_split {r : List RecT} {l : List LetT} (h : checkF r l = 0) : recordedF r = true ∧ lettersF r (-1) 0 l = true := by
  unfold checkF at h
  split at h
  · rename_i h1
    split at h
    · rename_i h2; exact ⟨h1, h2⟩
    · cases h
  · cases h
theorem check_join {r : List RecT} {l : List LetT} (h1 : recordedF r = true) (h2 : lettersF r (-1) 0 l = true) : checkF r l = 0 := by rw [checkF, if_pos h1, if_pos h2]
/-- a letter more is valid -/
theorem check_more {r : List RecT} {l : List LetT} (h : checkF r l = 0) {d id k : Int} (hn : nextB l = true) (hd : 0 ≤ d ∧ d ≤ 100000) (hid : knownF r id = true) (hk : 1 ≤ k ∧ k ≤ 2) : checkF r (l ++ [⟨nextN l, d, id, k⟩]) = 0 := by
  obtain ⟨h1, h2⟩ := check_split h
  refine check_join h1 ?_
  rw [lettersF_app, h2, Bool.true_and]
  have hm := lettersF_mem l _ _ (by omega) h2
  simp only [nextB, Bool.or_eq_true, Bool.and_eq_true, decide_eq_true_eq] at hn
  have e1 : inF ((if l.length = 0 then -1 else (l.getD (l.length - 1) zLet).f0) + 1) 9999 (nextN l) = true := by
    unfold nextN inF
    by_cases e : l.length = 0
    · simp [e]
    · have h3 := hn.resolve_left e
      have h4 := hm _ (getD_mem l zLet (l.length - 1) (by omega))
      simp only [if_neg e, Bool.and_eq_true, decide_eq_true_eq]
      omega
  have e2 : decide (20 ≤ (0 : Int) + (l.length : Int)) = false := by
    rw [decide_eq_false_iff_not]
    rcases hn with hn | hn <;> omega
  have e3 : inF 0 100000 d = true := by simp [inF, hd.1, hd.2]
  have e4 : inF 1 2 k = true := by simp [inF, hk.1, hk.2]
  simp only [e1, e2, e3, hid, e4]
  rfl
/-- what holds after a letter that withdraws one -/
theorem holds_more {r : List RecT} (hok : recordedF r = true) (l : List LetT) (y : LetT) (d : Int) (hy : y.f1 = d) (hk : y.f3 = 1) : holdsF r (goneF r (l ++ [y]) d) = holdsF r (insN y.f2 (goneF r l d)) := by
  have hs := sorted_of hok
  refine holdsF_congr fun n hn => ?_
  rw [goneF_filter hs, mem_insN, goneF_filter hs, List.mem_filter, List.mem_filter, goneB_app hy]
  by_cases e : y.f2 = n
  · rw [if_pos e, hk]
    exact ⟨fun _ => .inl e.symm, fun _ => ⟨hn, rfl⟩⟩
  · rw [if_neg e]
    exact ⟨.inr, fun q => q.resolve_left fun e2 => e e2.symm⟩
end Go.Proofs.YtcmepdamemnbkaaDoor
namespace Go.Proofs.YtcmepdamemnbkaaDoor
open Go.RowKit
set_option linter.unusedVariables false
set_option linter.unusedSimpArgs false
theorem fill_congr {f g : Nat → Option (Nat × Nat)} : ∀ (ps : List (Nat × Value)) (cs : Array Value), (∀ p ∈ ps, f p.1 = g p.1) → Instr.fill f cs ps = Instr.fill g cs ps
  | [], _, _ => rfl
  | p :: ps, cs, h => by
    obtain ⟨i, v⟩ := p
    unfold Instr.fill
    rw [h (i, v) (List.mem_cons_self ..)]
    cases g i with
    | none => rfl
    | some q =>
      obtain ⟨off, size⟩ := q
      simp only
      split
      · rfl
      · exact fill_congr ps _ fun q hq => h q (List.mem_cons_of_mem _ hq)
section
variable {P : Program} {ro : Option Nat} {n N : Nat} {ds : List Deferred} {w0 : World} {X : Nat → Prop} {Q : Exit → Act → World → Prop} {σ : Slots} {η : Hp} {ops rest : List Oper} {d : Option Tmp} {ty : TypeId} {pos : String} {aft : Array Edge} {g : Option (Nat × Bool)}
theorem xo_bsG (T : Tys P) (sz : Nat) {t e : TypeId} {len k0 : Nat} {parts : List (Nat × Operand)} {ps : List (Nat × Value)} {z : Value} {cs : List Value} (hg : gS ops σ g = some true) (ht : look t T.el = some e) (hk : look e T.tk = some k0) (hsz : szN k0 = sz) (hz : look e T.zs = some z)
    (hlen : (Nat.ble (len * sz) 16777216 && !Nat.beq (len * sz) 0) = true) (hp : evp σ parts = some ps) (hpl : ps.all (fun p => Nat.blt p.1 len) = true) (hc : fillL ((List.range len).map fun i => (i * sz, sz)) ((List.range (len * sz)).map fun i => z.cells[i % z.cells.size]!) ps = some cs) (hN : dstOK N d = true)
    (h : ∀ b, XO P ro n N ds w0 X Q ops (putS d (.slice (some ⟨b, 0, none⟩) len len) σ) ((b, true, cel cs e) :: η) rest) : XO P ro n N ds w0 X Q ops σ η (⟨d, .buildSlice t len parts.toArray, ty, pos, aft, g⟩ :: rest) :=
  xo_base rfl hg fun a w ha hw => by
    have h1 := T.hel _ (look_mem ht)
    have h2 := (T.htk _ (look_mem hk)).2 w
    have h3 := T.hzs _ (look_mem hz) w
    have h4 := ha.evp hp
    rw [Bool.and_eq_true, Nat.ble_eq, Bool.not_eq_true', ← Bool.not_eq_true, Nat.beq_eq] at hlen
    have h2' : (sizeOf e).run P w = .ok sz w := by rw [← hsz]; exact h2
    have h5 : Instr.fill (fun i => some (i * sz, sz)) ((Array.range (len * sz)).map fun i => z.cells[i % z.cells.size]!) ps = some cs.toArray := by
      have h6 := fillL_eq _ _ _ _ hc
      rw [fill_congr (g := fun i => ((List.range len).map fun i => (i * sz, sz))[i]?) ps _ (fun p hp' => by
        have := List.all_eq_true.1 hpl p hp'
        rw [Nat.blt_eq] at this
        simp [List.getElem?_map, List.getElem?_range this])]
      rw [show ((Array.range (len * sz)).map fun i => z.cells[i % z.cells.size]!) = ((List.range (len * sz)).map fun i => z.cells[i % z.cells.size]!).toArray by apply Array.ext'; rw [Array.toList_map, Array.toList_range]]
      exact h6
    refine ⟨_, w.alloc (.cells cs.toArray e), .slice (some ⟨w.heap.size, 0, none⟩) len len, ?_, .inl rfl, h _ _ _ (ha.put hN _) (hw.alloc _ _ rfl)⟩
    simp only at h1 h3
    have h7 : ¬ len * sz > 2 ^ 24 := by have := hlen.1; omega
    simp only [execOp, List.map_toArray, Instr.buildSlice, Sem.run_bind, run_underlying h1, Result.andThen_ok, h2', if_neg h7, if_neg hlen.2, h3, Sem.run_pure]
    rw [show (parts.map fun (i, x) => (i, a.eval x)) = ps from h4, h5]
    rfl
end
/-- a block of cells, as a row whose room is full -/
theorem cel_row {cs : List Value} {t : TypeId} {sz n : Nat} (hn : cs.length = n * sz) (hm : n ≤ maxLen) {o : Obj} (h : cel cs t o) : orow t sz n n cs o :=
  ⟨cs.toArray, h, Nat.le_refl _, hm, by simpa using hn, by rw [List.take_of_length_le (by simp; omega)]⟩
end Go.Proofs.YtcmepdamemnbkaaDoor
namespace Go.Proofs.YtcmepdamemnbkaaDoor
open Go.RowKit Go.Proofs.YtcmepdamemnbkaaDoorW.PrintWords
set_option linter.unusedVariables false
set_option linter.unusedSimpArgs false
def recsE : List RecT := [⟨1, 1, []⟩, ⟨2, 2, []⟩, ⟨3, 3, [[1, 2]]⟩, ⟨4, 1, []⟩, ⟨5, 3, [[2, 4]]⟩, ⟨6, 4, [[3], [5]]⟩, ⟨7, 4, [[5, 6]]⟩]
def letsE : List LetT := [⟨1, 10, 1, 1⟩, ⟨2, 20, 1, 2⟩, ⟨3, 20, 4, 1⟩]
def movsE : List MovT := [⟨1, 3, 1, 50⟩, ⟨2, 3, 4, 20⟩, ⟨3, 3, 2, 5⟩, ⟨4, 3, 3, 3⟩, ⟨5, 5, 1, 30⟩, ⟨6, 5, 4, 30⟩]
/-- blocks in which a list lies -/
def ReadsR (ζ : Hp) (b : Nat) (l : List RecT) : Prop := (∀ e ∈ ζ, e.2.1 = true) ∧ ∀ (w0 : World) (X : Nat → Prop) (η : Hp) (w1 : World), WOK w0 X η w1 → (∀ e ∈ ζ, e ∈ η) → Kd.C recK w1 (some ⟨b, 0, none⟩) l.length l
def ReadsL (ζ : Hp) (b : Nat) (l : List LetT) : Prop := (∀ e ∈ ζ, e.2.1 = true) ∧ ∀ (w0 : World) (X : Nat → Prop) (η : Hp) (w1 : World), WOK w0 X η w1 → (∀ e ∈ ζ, e ∈ η) → Kd.C letK w1 (some ⟨b, 0, none⟩) l.length l
def ReadsM (ζ : Hp) (b : Nat) (l : List MovT) : Prop := (∀ e ∈ ζ, e.2.1 = true) ∧ ∀ (w0 : World) (X : Nat → Prop) (η : Hp) (w1 : World), WOK w0 X η w1 → (∀ e ∈ ζ, e ∈ η) → Kd.C movK w1 (some ⟨b, 0, none⟩) l.length l
theorem flat_map_len {α β : Type} (f : α → List β) (n : Nat) (h : ∀ x, (f x).length = n) (l : List α) : (l.map f).flatten.length = l.length * n := by
  rw [flat_len n _ (fun c hc => by obtain ⟨x, _, rfl⟩ := List.mem_map.1 hc; exact h x), List.length_map]
theorem let_cel {w0 : World} {X : Nat → Prop} {η : Hp} {w : World} (hw : WOK w0 X η w) {b : Nat} {wr : Bool} {l : List LetT} {t : TypeId} (hm : (b, wr, cel (l.map letV).flatten t) ∈ η) (hlen : l.length ≤ 1000000) : Kd.C letK w (some ⟨b, 0, none⟩) l.length l := by
  obtain ⟨o, h1, h2⟩ := hw.bl _ hm
  have hf := flat_map_len letV 4 (fun _ => rfl) l
  refine C_row (d := letK) (cells := l.map letV) (cap := l.length) h1 (e := t) (by rw [List.length_map]; exact cel_row hf (by simp [maxLen]; omega) h2) (by simp) (fun c hc => by obtain ⟨x, _, rfl⟩ := List.mem_map.1 hc; rfl) (fun j x c hx hcx => ?_) (by omega)
  rw [List.getElem?_map, hx] at hcx
  cases hcx
  exact k52_mk w x
theorem mov_cel {w0 : World} {X : Nat → Prop} {η : Hp} {w : World} (hw : WOK w0 X η w) {b : Nat} {wr : Bool} {l : List MovT} {t : TypeId} (hm : (b, wr, cel (l.map movV).flatten t) ∈ η) (hlen : l.length ≤ 1000000) : Kd.C movK w (some ⟨b, 0, none⟩) l.length l := by
  obtain ⟨o, h1, h2⟩ := hw.bl _ hm
  have hf := flat_map_len movV 4 (fun _ => rfl) l
  refine C_row (d := movK) (cells := l.map movV) (cap := l.length) h1 (e := t) (by rw [List.length_map]; exact cel_row hf (by simp [maxLen]; omega) h2) (by simp) (fun c hc => by obtain ⟨x, _, rfl⟩ := List.mem_map.1 hc; rfl) (fun j x c hx hcx => ?_) (by omega)
  rw [List.getElem?_map, hx] at hcx
  cases hcx
  exact k54_mk w x
theorem flat_one' (vs : List Value) : (vs.map fun v => [v]).flatten = vs := by
  induction vs with
  | nil => rfl
  | cons v vs ih => rw [List.map_cons, List.flatten_cons, ih]; rfl
theorem ways_cel {w0 : World} {X : Nat → Prop} {η : Hp} {w : World} (hw : WOK w0 X η w) {b : Nat} {wr : Bool} {vs : List Value} {ways : List (List Int)} {t : TypeId} (hm : (b, wr, cel vs t) ∈ η) (hl : vs.length = ways.length) (hlen : ways.length ≤ 1000000)
    (h : ∀ (k : Nat) (x : List Int) (v : Value), ways[k]? = some x → vs[k]? = some v → ∃ A c, v = .slice A x.length c ∧ x.length ≤ c ∧ Kd.C (Kd.int .i64) w A x.length x) : Kd.C waysK w (some ⟨b, 0, none⟩) ways.length ways := by
  obtain ⟨o, h1, h2⟩ := hw.bl _ hm
  refine C_row (d := waysK) (cells := vs.map fun v => [v]) (cap := ways.length) h1 (e := t) (by rw [List.length_map, flat_one', hl]; exact cel_row (by rw [hl]; simp [waysK, Kd.slice]) (by simp [maxLen]; omega) h2) (by simp [hl]) (fun c hc => by obtain ⟨x, _, rfl⟩ := List.mem_map.1 hc; rfl) (fun j x c hx hcx => ?_) (by omega)
  rw [List.getElem?_map] at hcx
  obtain ⟨v, hv, rfl⟩ := Option.map_eq_some_iff.1 hcx
  obtain ⟨A, c, rfl, h3, h4⟩ := h j x v hx hv
  exact ⟨A, c, rfl, h3, h4⟩
theorem recs_cel {w0 : World} {X : Nat → Prop} {η : Hp} {w : World} (hw : WOK w0 X η w) {b : Nat} {wr : Bool} {cells : List (List Value)} {l : List RecT} {t : TypeId} (hm : (b, wr, cel cells.flatten t) ∈ η) (hl : cells.length = l.length) (hlen : l.length ≤ 1000000)
    (h : ∀ (k : Nat) (x : RecT) (v : List Value), l[k]? = some x → cells[k]? = some v → ∃ A c, v = recV x A c ∧ x.f2.length ≤ c ∧ Kd.C waysK w A x.f2.length x.f2) : Kd.C recK w (some ⟨b, 0, none⟩) l.length l := by
  obtain ⟨o, h1, h2⟩ := hw.bl _ hm
  have hc3 : ∀ c ∈ cells, c.length = 3 := fun c hc => by
    obtain ⟨j, hj, rfl⟩ := List.getElem_of_mem hc
    obtain ⟨A, c, e, _⟩ := h j _ _ (List.getElem?_eq_getElem (by omega)) (List.getElem?_eq_getElem hj)
    rw [e]
    rfl
  refine C_row (d := recK) (cells := cells) (cap := l.length) h1 (e := t) (by rw [hl]; exact cel_row (by rw [flat_len 3 cells hc3, hl]; rfl) (by simp [maxLen]; omega) h2) hl hc3 (fun j x c hx hcx => ?_) (by omega)
  obtain ⟨A, c, rfl, h3, h4⟩ := h j x c hx hcx
  exact k50_mk w x h3 h4
theorem letters_calls (w : World) : Calls Tryd.prog 26 #[] w fun e w' => ∃ ζ b, e = .returned (.slice (some ⟨b, 0, none⟩) 3 3) ∧ WOK w XNone ζ w' ∧ ReadsL ζ b letsE := by
  refine x_calls (X := XNone) Tryd.func26 rfl rfl rfl ?_
  with_reducible repeat refine xc_seq ?_
  with_reducible refine xc_region ?_
  refine xo_asg rfl rfl rfl ?_
  with_reducible refine xo_nil ?_
  with_reducible repeat (first | refine xq_then ?_ | refine xq_blockN ?_ | refine xq_scopeN ?_)
  with_reducible repeat refine xc_seq ?_
  with_reducible refine xc_region ?_
  refine xo_build TB_ rfl rfl rfl rfl rfl ?_
  refine xo_build TB_ rfl rfl rfl rfl rfl ?_
  refine xo_build TB_ rfl rfl rfl rfl rfl ?_
  refine xo_bsG T_ 4 rfl rfl rfl rfl rfl rfl rfl rfl rfl rfl (fun b4 => ?_)
  refine xo_asg rfl rfl rfl ?_
  with_reducible refine xo_nil ?_
  with_reducible repeat (first | refine xq_then ?_ | refine xq_blockN ?_ | refine xq_scopeN ?_)
  with_reducible repeat refine xc_seq ?_
  with_reducible refine xc_ret ?_
  with_reducible repeat (first | refine xq_thenR ?_ | refine xq_blockR ?_ | refine xq_scopeR ?_)
  exact xq_ret1 rfl rfl fun w' hw => ⟨_, b4, rfl, hw, by simp, fun w0 X η w1 h1 hs => let_cel h1 (l := letsE) (hs (b4, true, cel (letsE.map letV).flatten 52) (List.Mem.head _)) (by decide)⟩
theorem letters_enters : ∀ args w, (callFunc 26 args).run Tryd.prog w = .ok (.enter 26 args) w := enters_of Tryd.func26 (by kernel_rfl) rfl
theorem movesE_calls (w : World) : Calls Tryd.prog 25 #[] w fun e w' => ∃ ζ b, e = .returned (.slice (some ⟨b, 0, none⟩) 6 6) ∧ WOK w XNone ζ w' ∧ ReadsM ζ b movsE := by
  refine x_calls (X := XNone) Tryd.func25 rfl rfl rfl ?_
  with_reducible repeat refine xc_seq ?_
  with_reducible refine xc_region ?_
  refine xo_asg rfl rfl rfl ?_
  with_reducible refine xo_nil ?_
  with_reducible repeat (first | refine xq_then ?_ | refine xq_blockN ?_ | refine xq_scopeN ?_)
  with_reducible repeat refine xc_seq ?_
  with_reducible refine xc_region ?_
  refine xo_build TB_ rfl rfl rfl rfl rfl ?_
  refine xo_build TB_ rfl rfl rfl rfl rfl ?_
  refine xo_build TB_ rfl rfl rfl rfl rfl ?_
  refine xo_build TB_ rfl rfl rfl rfl rfl ?_
  refine xo_build TB_ rfl rfl rfl rfl rfl ?_
  refine xo_build TB_ rfl rfl rfl rfl rfl ?_
  refine xo_bsG T_ 4 rfl rfl rfl rfl rfl rfl rfl rfl rfl rfl (fun b7 => ?_)
  refine xo_asg rfl rfl rfl ?_
  with_reducible refine xo_nil ?_
  with_reducible repeat (first | refine xq_then ?_ | refine xq_blockN ?_ | refine xq_scopeN ?_)
  with_reducible repeat refine xc_seq ?_
  with_reducible refine xc_ret ?_
  with_reducible repeat (first | refine xq_thenR ?_ | refine xq_blockR ?_ | refine xq_scopeR ?_)
  exact xq_ret1 rfl rfl fun w' hw => ⟨_, b7, rfl, hw, by simp, fun w0 X η w1 h1 hs => mov_cel h1 (l := movsE) (hs (b7, true, cel (movsE.map movV).flatten 54) (List.Mem.head _)) (by decide)⟩
theorem movesE_enters : ∀ args w, (callFunc 25 args).run Tryd.prog w = .ok (.enter 25 args) w := enters_of Tryd.func25 (by kernel_rfl) rfl
set_option maxHeartbeats 4000000 in
theorem recordsE_calls (w : World) : Calls Tryd.prog 24 #[] w fun e w' => ∃ ζ b, e = .returned (.slice (some ⟨b, 0, none⟩) 7 7) ∧ WOK w XNone ζ w' ∧ ReadsR ζ b recsE := by
  refine x_calls (X := XNone) Tryd.func24 rfl rfl rfl ?_
  with_reducible repeat refine xc_seq ?_
  with_reducible refine xc_region ?_
  refine xo_asg rfl rfl rfl ?_
  with_reducible refine xo_nil ?_
  with_reducible repeat (first | refine xq_then ?_ | refine xq_blockN ?_ | refine xq_scopeN ?_)
  with_reducible repeat refine xc_seq ?_
  with_reducible refine xc_region ?_
  refine xo_build TB_ rfl rfl rfl rfl rfl ?_
  refine xo_build TB_ rfl rfl rfl rfl rfl ?_
  refine xo_bs2 T_ rfl rfl rfl rfl rfl rfl rfl rfl rfl rfl (fun b3 => ?_)
  refine xo_bs1 T_ rfl rfl rfl rfl rfl rfl rfl rfl (fun b4 => ?_)
  refine xo_build TB_ rfl rfl rfl rfl rfl ?_
  refine xo_build TB_ rfl rfl rfl rfl rfl ?_
  refine xo_bs2 T_ rfl rfl rfl rfl rfl rfl rfl rfl rfl rfl (fun b7 => ?_)
  refine xo_bs1 T_ rfl rfl rfl rfl rfl rfl rfl rfl (fun b8 => ?_)
  refine xo_build TB_ rfl rfl rfl rfl rfl ?_
  refine xo_bs1 T_ rfl rfl rfl rfl rfl rfl rfl rfl (fun b10 => ?_)
  refine xo_bs1 T_ rfl rfl rfl rfl rfl rfl rfl rfl (fun b11 => ?_)
  refine xo_bs2 T_ rfl rfl rfl rfl rfl rfl rfl rfl rfl rfl (fun b12 => ?_)
  refine xo_build TB_ rfl rfl rfl rfl rfl ?_
  refine xo_bs2 T_ rfl rfl rfl rfl rfl rfl rfl rfl rfl rfl (fun b14 => ?_)
  refine xo_bs1 T_ rfl rfl rfl rfl rfl rfl rfl rfl (fun b15 => ?_)
  refine xo_build TB_ rfl rfl rfl rfl rfl ?_
  refine xo_bsG T_ 3 rfl rfl rfl rfl rfl rfl rfl rfl rfl rfl (fun b17 => ?_)
  refine xo_asg rfl rfl rfl ?_
  with_reducible refine xo_nil ?_
  with_reducible repeat (first | refine xq_then ?_ | refine xq_blockN ?_ | refine xq_scopeN ?_)
  with_reducible repeat refine xc_seq ?_
  with_reducible refine xc_ret ?_
  with_reducible repeat (first | refine xq_thenR ?_ | refine xq_blockR ?_ | refine xq_scopeR ?_)
  refine xq_ret1 rfl rfl fun w' hw => ⟨_, b17, rfl, hw, by simp, fun w0 X η w1 h1 hs => ?_⟩
  have hI := fun (b : Nat) (xs : List Int) (hm : (b, true, cel (xs.map (.int .i64)) 3) ∈ η) (hl : xs.length ≤ 100) => C_cel h1 hm (by omega)
  have hW := fun (b : Nat) (vs : List Value) (ways : List (List Int)) (hm : (b, true, cel vs 33) ∈ η) (hl : vs.length = ways.length) (hlen : ways.length ≤ 1000000) h => ways_cel h1 (t := 33) (ways := ways) hm hl hlen h
  refine recs_cel h1 (l := recsE) (cells := [recV ⟨1, 1, []⟩ none 0, recV ⟨2, 2, []⟩ none 0, recV ⟨3, 3, [[1, 2]]⟩ (some ⟨b4, 0, none⟩) 1, recV ⟨4, 1, []⟩ none 0, recV ⟨5, 3, [[2, 4]]⟩ (some ⟨b8, 0, none⟩) 1, recV ⟨6, 4, [[3], [5]]⟩ (some ⟨b12, 0, none⟩) 2, recV ⟨7, 4, [[5, 6]]⟩ (some ⟨b15, 0, none⟩) 1]) (hs (b17, true, _) (List.Mem.head _)) rfl (by decide) (fun k x v hx hv => ?_)
  rcases k with _ | _ | _ | _ | _ | _ | _ | k
  · cases hx; cases hv; exact ⟨none, 0, rfl, Nat.le_refl _, Kd.C_nil _ _⟩
  · cases hx; cases hv; exact ⟨none, 0, rfl, Nat.le_refl _, Kd.C_nil _ _⟩
  · cases hx; cases hv
    refine ⟨_, _, rfl, Nat.le_refl _, hW b4 _ [[1, 2]] (hs (b4, true, _) (by repeat (first | exact List.Mem.head _ | apply List.Mem.tail | apply List.mem_append_right))) rfl (by decide) (fun k x v hx hv => ?_)⟩
    rcases k with _ | k
    · cases hx; cases hv; exact ⟨_, _, rfl, Nat.le_refl _, hI b3 [1, 2] (hs (b3, true, _) (by repeat (first | exact List.Mem.head _ | apply List.Mem.tail | apply List.mem_append_right))) (by decide)⟩
    · cases hx
  · cases hx; cases hv; exact ⟨none, 0, rfl, Nat.le_refl _, Kd.C_nil _ _⟩
  · cases hx; cases hv
    refine ⟨_, _, rfl, Nat.le_refl _, hW b8 _ [[2, 4]] (hs (b8, true, _) (by repeat (first | exact List.Mem.head _ | apply List.Mem.tail | apply List.mem_append_right))) rfl (by decide) (fun k x v hx hv => ?_)⟩
    rcases k with _ | k
    · cases hx; cases hv; exact ⟨_, _, rfl, Nat.le_refl _, hI b7 [2, 4] (hs (b7, true, _) (by repeat (first | exact List.Mem.head _ | apply List.Mem.tail | apply List.mem_append_right))) (by decide)⟩
    · cases hx
  · cases hx; cases hv
    refine ⟨_, _, rfl, Nat.le_refl _, hW b12 _ [[3], [5]] (hs (b12, true, _) (by repeat (first | exact List.Mem.head _ | apply List.Mem.tail | apply List.mem_append_right))) rfl (by decide) (fun k x v hx hv => ?_)⟩
    rcases k with _ | _ | k
    · cases hx; cases hv; exact ⟨_, _, rfl, Nat.le_refl _, hI b10 [3] (hs (b10, true, _) (by repeat (first | exact List.Mem.head _ | apply List.Mem.tail | apply List.mem_append_right))) (by decide)⟩
    · cases hx; cases hv; exact ⟨_, _, rfl, Nat.le_refl _, hI b11 [5] (hs (b11, true, _) (by repeat (first | exact List.Mem.head _ | apply List.Mem.tail | apply List.mem_append_right))) (by decide)⟩
    · cases hx
  · cases hx; cases hv
    refine ⟨_, _, rfl, Nat.le_refl _, hW b15 _ [[5, 6]] (hs (b15, true, _) (by repeat (first | exact List.Mem.head _ | apply List.Mem.tail | apply List.mem_append_right))) rfl (by decide) (fun k x v hx hv => ?_)⟩
    rcases k with _ | k
    · cases hx; cases hv; exact ⟨_, _, rfl, Nat.le_refl _, hI b14 [5, 6] (hs (b14, true, _) (by repeat (first | exact List.Mem.head _ | apply List.Mem.tail | apply List.mem_append_right))) (by decide)⟩
    · cases hx
  · cases hx
theorem recordsE_enters : ∀ args w, (callFunc 24 args).run Tryd.prog w = .ok (.enter 24 args) w := enters_of Tryd.func24 (by kernel_rfl) rfl
end Go.Proofs.YtcmepdamemnbkaaDoor
namespace Go.Proofs.YtcmepdamemnbkaaDoor
open Go.RowKit
set_option linter.unusedVariables false
set_option linter.unusedSimpArgs false
theorem entsKey {es : Array MapEntry} {c : Nat} {l : List (Int × Value)} {s : List Int} (hE : Ents es c l) (hs : s = l.map (·.1)) {e : MapEntry} (he : e ∈ es.toList) : ∃ k, k ∈ s ∧ e.key = .int .i64 k := by
  have h1 : kvE e ∈ es.toList.map kvE := List.mem_map_of_mem he
  rw [hE.is] at h1
  obtain ⟨p, hp, h2⟩ := List.mem_map.1 h1
  exact ⟨p.1, by rw [hs]; exact List.mem_map.2 ⟨p, hp, rfl⟩, (congrArg Prod.fst h2).symm⟩
theorem Seen.stepM {es : Array MapEntry} {c : Nat} {l : List (Int × Value)} {seen : Array Nat} {ys : List Int} (h : Seen es seen ys) (hE : Ents es c l) {e : MapEntry} (he : e ∈ es.toList) (hns : seen.contains e.born = false) {k : Int} (hk : e.key = .int .i64 k) : Seen es (seen.push e.born) (ys ++ [k]) := by
  obtain ⟨h1, h2⟩ := h
  refine ⟨List.nodup_append.2 ⟨h1, by simp, fun a ha b hb q => ?_⟩, fun n => ?_⟩
  · simp at hb
    subst hb
    subst q
    obtain ⟨e', he', h3, h4⟩ := (h2 a).1 ha
    rw [keys_uniq hE he' he (h4.trans hk.symm)] at h3
    rw [h3] at hns
    cases hns
  · rw [List.mem_append, List.mem_singleton, h2]
    constructor
    · rintro (⟨e', he', h3, h4⟩ | rfl)
      · exact ⟨e', he', by simp at h3 ⊢; exact .inl h3, h4⟩
      · exact ⟨e, he, by simp, hk⟩
    · rintro ⟨e', he', h3, h4⟩
      simp at h3
      rcases h3 with h3 | h3
      · exact .inl ⟨e', he', by simpa using h3, h4⟩
      · right
        have hee := once_eq hE he' he h3
        subst hee
        rw [hk] at h4
        injection h4 with _ h4
        exact h4.symm
theorem seenSub {es : Array MapEntry} {c : Nat} {l : List (Int × Value)} {s : List Int} (hE : Ents es c l) (hs : s = l.map (·.1)) {seen : Array Nat} {ys : List Int} (h : Seen es seen ys) : ∀ n ∈ ys, n ∈ s := fun n hn => by
  obtain ⟨e, he, _, h4⟩ := (h.2 n).1 hn
  obtain ⟨k, hk, h5⟩ := entsKey hE hs he
  rw [h5] at h4
  injection h4 with _ h4
  rwa [← h4]
theorem seenNodup {es : Array MapEntry} {c : Nat} {l : List (Int × Value)} {s : List Int} (hE : Ents es c l) (hs : s = l.map (·.1)) : s.Nodup := by rw [hs]; exact hE.keys
theorem seenLen {es : Array MapEntry} {c : Nat} {l : List (Int × Value)} {s : List Int} (hE : Ents es c l) (hs : s = l.map (·.1)) {seen : Array Nat} {ys : List Int} (h : Seen es seen ys) : ys.length ≤ s.length := by
  have hp : (s.filter fun n => decide (n ∈ ys)).Perm ys := (List.perm_ext_iff_of_nodup ((seenNodup hE hs).filter _) h.1).2 fun n => by
    simp only [List.mem_filter, decide_eq_true_eq]
    exact ⟨fun q => q.2, fun q => ⟨seenSub hE hs h n q, q⟩⟩
  rw [← hp.length_eq]
  exact List.length_filter_le _ _
theorem seenAll {es : Array MapEntry} {c : Nat} {l : List (Int × Value)} {s : List Int} (hE : Ents es c l) (hs : s = l.map (·.1)) {seen : Array Nat} {ys : List Int} (h : Seen es seen ys) (hall : ∀ e ∈ es.toList, seen.contains e.born = true) : ys.Perm s :=
  (List.perm_ext_iff_of_nodup h.1 (seenNodup hE hs)).2 fun n => ⟨seenSub hE hs h n, fun hn => by
    rw [hs] at hn
    obtain ⟨p, hp, rfl⟩ := List.mem_map.1 hn
    have : kvI p ∈ es.toList.map kvE := by rw [hE.is]; exact List.mem_map.2 ⟨p, hp, rfl⟩
    obtain ⟨e, he, q⟩ := List.mem_map.1 this
    exact (h.2 p.1).2 ⟨e, he, hall e he, congrArg Prod.fst q⟩⟩
theorem keysIterM_enters : ∀ args w, (callFunc 73 args).run Tryd.prog w = .ok (.enter 73 args) w := enters_of Tryd.func73 (by kernel_rfl) rfl
set_option maxHeartbeats 4000000 in
theorem iter_keysM (s : List Int) (l0 : List (Int × Value)) (hs : s = l0.map (·.1)) (M0 B : Nat) (wB : World) (hB : wB.heap[B]? = some (.cells #[.map (some M0)] 80 (0, 0))) (hM : IMap wB M0 (l0)) :
    IterS Tryd.prog 73 [.pointer (some ⟨B, 0, none⟩)] wB (fun k => k = B ∨ k = M0) (fun ys => ys.Perm s) s.length := by
  intro w hszB hneed K hK m l J Jx W hW hJ hJx hY h0
  have ltB : B < wB.heap.size := (Array.getElem?_eq_some_iff.1 hB).1
  have ltM := hM.lt
  have gB : W.heap[B]? = _ := (hW.block B (by omega)).trans ((hneed B (.inl rfl)).trans hB)
  have gM : IMap W M0 (l0) := hM.at_ ((hW.block M0 (by omega)).trans (hneed M0 (.inr rfl)))
  have nBM : B ≠ M0 := fun e => by obtain ⟨es, cl, h, _⟩ := gM; rw [← e, gB] at h; cases h
  have hszW := hW.size
  have hw0 : WOK W XNone [(B, false, cel [.map (some M0)] 80), (M0, false, hmap (l0))] W := by
    refine ⟨Kx.refl _ W, ?_, by simp [nBM], by simp⟩
    intro e he
    simp only [List.mem_cons, List.not_mem_nil, or_false] at he
    rcases he with rfl | rfl
    · exact ⟨_, gB, rfl⟩
    · exact hmap_of gM
  refine x_iter Tryd.func73 rfl rfl rfl hw0 ?_
  with_reducible repeat refine xc_seq ?_
  with_reducible refine xc_region ?_
  refine xo_load0 T_ rfl rfl rfl (by repeat (first | exact List.Mem.head _ | apply List.Mem.tail | apply List.mem_append_right)) rfl rfl ?_
  refine xo_rangeM T_ rfl rfl rfl (by repeat (first | exact List.Mem.head _ | apply List.Mem.tail | apply List.mem_append_right)) (fun es c => Rep.tail Rep.head) rfl (fun r5 es c hE => ?_)
  with_reducible refine xo_nil ?_
  with_reducible repeat (first | refine xq_then ?_ | refine xq_blockN ?_ | refine xq_scopeN ?_)
  with_reducible repeat refine xc_seq ?_
  with_reducible refine xc_block ?_
  refine xc_loopJ (γ := Array Nat × List Int) (fun q => Seen es q.1 q.2) (fun q => [(0, .func (.yield l) #[] #[]), (5, .pointer (some ⟨r5, 0, none⟩))])
    (fun q => [(r5, true, hiter M0 c q.1), (B, false, cel [.map (some M0)] 80), (M0, false, hmapE es c)]) (fun q w => J q.2 w ∧ W.heap.size ≤ r5 ∧ W.heap.size ≤ w.heap.size) (fun q => s.length - q.2.length) (#[], []) ⟨List.nodup_nil, fun n => by simp⟩ ⟨rfl, rfl, trivial⟩
    (fun w1 hw1 => ⟨hw1.bok (by repeat (first | exact List.Sublist.refl _ | apply List.Sublist.cons_cons | apply List.Sublist.cons | exact List.nil_sublist _)), hJ _ _ _ none h0 (hw1.kx.grown (fun k q => q.elim)) (fun r e => by cases e), hw1.own (b := r5) (by repeat (first | exact List.Mem.head _ | apply List.Mem.tail | apply List.mem_append_right)), hw1.kx.size⟩) ?_
  rintro ⟨seen, ys⟩ hseen wr hbok ⟨hJr, hr5, hszr⟩
  simp only at hseen hJr ⊢
  have hXW : ∀ seen b, XW [(r5, true, hiter M0 c seen), (B, false, cel [.map (some M0)] 80), (M0, false, hmapE es c)] b → r5 = b := by
    rintro seen b ⟨e, he, hwr, rfl⟩
    simp only [List.mem_cons, List.not_mem_nil, or_false] at he
    rcases he with rfl | rfl | rfl
    · rfl
    · cases hwr
    · cases hwr
  have hIr : wr.heap[r5]? = some (.mapIter (some M0) c seen c) := by
    obtain ⟨o, h5, h6⟩ := hbok.bl (r5, true, hiter M0 c seen) (by repeat (first | exact List.Mem.head _ | apply List.Mem.tail | apply List.mem_append_right))
    rw [h5]
    exact congrArg some h6
  have hwalk : ∀ (wx : World) (sn : Array Nat), wx.heap[r5]? = some (.mapIter (some M0) c sn c) → ∀ q, some r5 = some q → W.heap.size ≤ q ∧ ∃ o : Obj, wx.heap[q]? = some o ∧ o.isWalk = true := fun wx sn h q e => by
    cases e
    exact ⟨hr5, _, h, rfl⟩
  have hJn : ∀ (X : Nat → Prop) (w1 : World), (∀ b, X b → r5 = b) → Kx X wr w1 → J ys w1 := fun X w1 hX kx => hJ ys wr w1 (some r5) hJr (kx.grown (fun k q => congrArg some (hX k q))) (hwalk wr seen hIr)
  with_reducible repeat refine xc_seq ?_
  with_reducible refine xc_region ?_
  refine xo_next rfl rfl (by repeat (first | exact List.Mem.head _ | apply List.Mem.tail | apply List.mem_append_right)) (by repeat (first | exact List.Mem.head _ | apply List.Mem.tail | apply List.mem_append_right)) hE (fun seen' => Upd.head) rfl (fun hall => ?_) (fun e he hns => ?_)
  · refine xo_ext rfl rfl rfl rfl ?_
    with_reducible refine xo_nil ?_
    with_reducible repeat (first | refine xq_then ?_ | refine xq_blockN ?_ | refine xq_scopeN ?_)
    with_reducible repeat refine xc_seq ?_
    refine xc_condF rfl ?_
    with_reducible refine xc_exit ?_
    with_reducible repeat (first | refine xq_blockX ?_ | refine xq_thenE ?_ | refine xq_blockE rfl ?_ | refine xq_scopeE ?_)
    exact xq_end0 rfl fun w2 hw2 => ⟨⟨_, rfl⟩, .inl ⟨ys, seenAll hE hs hseen hall, hJn _ _ (hXW seen) hw2.kx⟩⟩
  · obtain ⟨k, hk, hk1⟩ := entsKey hE hs he
    have hst := hseen.stepM hE he hns hk1
    have hlen : ys.length < s.length := by
      have := seenLen hE hs hst
      simp at this
      omega
    rw [hk1]
    refine xo_ext rfl rfl rfl rfl ?_
    with_reducible refine xo_nil ?_
    with_reducible repeat (first | refine xq_then ?_ | refine xq_blockN ?_ | refine xq_scopeN ?_)
    with_reducible repeat refine xc_seq ?_
    refine xc_condT rfl ?_
    with_reducible refine xc_skip ?_
    with_reducible repeat (first | refine xq_then ?_ | refine xq_blockN ?_ | refine xq_scopeN ?_)
    with_reducible repeat refine xc_seq ?_
    with_reducible refine xc_block ?_
    with_reducible repeat refine xc_seq ?_
    with_reducible refine xc_region ?_
    refine xo_entry rfl rfl (by repeat (first | exact List.Mem.head _ | apply List.Mem.tail | apply List.mem_append_right)) (by repeat (first | exact List.Mem.head _ | apply List.Mem.tail | apply List.mem_append_right)) hE he rfl ?_
    rw [hk1]
    refine xo_ext rfl rfl rfl rfl ?_
    refine xo_asg rfl rfl rfl ?_
    with_reducible refine xo_nil ?_
    with_reducible repeat (first | refine xq_then ?_ | refine xq_blockN ?_ | refine xq_scopeN ?_)
    with_reducible repeat refine xc_seq ?_
    with_reducible refine xc_region ?_
    refine xo_mv rfl rfl rfl ?_
    refine xo_mv rfl rfl rfl ?_
    refine xo_yield rfl rfl rfl rfl (fun w1 hw1 => ?_)
    obtain ⟨fn, tmps, assign, body, hy1, hy2⟩ := hY ys k w1 (hJn _ _ (hXW _) hw1.kx) hlen
    refine ⟨fn, tmps, assign, body, hy1, hy2.mono ?_⟩
    have hI1 : w1.heap[r5]? = some (.mapIter (some M0) c (seen.push e.born) c) := by
      obtain ⟨o, h5, h6⟩ := hw1.bl (r5, true, hiter M0 c (seen.push e.born)) (by repeat (first | exact List.Mem.head _ | apply List.Mem.tail | apply List.mem_append_right))
      rw [h5]
      exact congrArg some h6
    have hB1 := hw1.obj (b := B) (wr := false) (cs := [.map (some M0)]) (t := 80) (by repeat (first | exact List.Mem.head _ | apply List.Mem.tail | apply List.mem_append_right))
    have hM1 : w1.heap[M0]? = some (.map es c) := by
      obtain ⟨o, h5, h6⟩ := hw1.bl (M0, false, hmapE es c) (by repeat (first | exact List.Mem.head _ | apply List.Mem.tail | apply List.mem_append_right))
      rw [h5]
      exact congrArg some h6
    have hsz1 := hw1.kx.size
    clear hw1 hy1 hy2
    rintro e2 W3 (⟨rfl, hJ3, hk3⟩ | ⟨rfl, hJx3⟩)
    · have hI3 := hk3.2.2 r5 _ (by omega) hI1 rfl
      have hB3 := (hk3.1 B (hK B (.inl rfl))).trans hB1
      have hM3 := (hk3.1 M0 (hK M0 (.inr rfl))).trans hM1
      have n5B : r5 ≠ B := by omega
      have n5M : r5 ≠ M0 := by omega
      have hsz3 : W.heap.size ≤ W3.heap.size := by have := hk3.2.1; omega
      have hbok3 : BOK [(r5, true, hiter M0 c (seen.push e.born)), (B, false, cel [.map (some M0)] 80), (M0, false, hmapE es c)] W3 := by
        refine ⟨?_, by simp [n5B, n5M, nBM]⟩
        intro e he
        simp only [List.mem_cons, List.not_mem_nil, or_false] at he
        rcases he with rfl | rfl | rfl
        · exact ⟨_, hI3, rfl⟩
        · exact ⟨_, hB3, rfl⟩
        · exact ⟨_, hM3, rfl⟩
      refine ⟨.bool true, _, W3, _, rfl, hbok3.wok, ?_⟩
      refine xo_notOp rfl rfl rfl ?_
      with_reducible refine xo_nil ?_
      with_reducible repeat (first | refine xq_then ?_ | refine xq_blockN ?_ | refine xq_scopeN ?_)
      with_reducible repeat refine xc_seq ?_
      refine xc_condF rfl ?_
      with_reducible refine xc_skip ?_
      with_reducible repeat (first | refine xq_then ?_ | refine xq_blockN ?_ | refine xq_scopeN ?_)
      refine xq_againJ _ _ _ _ _ _ (seen.push e.born, ys ++ [k]) hst (by simp only [List.length_append, List.length_cons, List.length_nil]; omega) ⟨rfl, rfl, trivial⟩
        (fun w1 hw1 => ⟨hw1.bok (by repeat (first | exact List.Sublist.refl _ | apply List.Sublist.cons_cons | apply List.Sublist.cons | exact List.nil_sublist _)), hJ _ W3 w1 (some r5) hJ3 (hw1.kx.grown (fun k q => congrArg some (hXW _ k q))) (hwalk W3 _ hI3), hr5, Nat.le_trans hsz3 hw1.kx.size⟩)
    · refine ⟨.bool false, [], W3, XNone, rfl, WOK.start _ _, ?_⟩
      refine xo_notOp rfl rfl rfl ?_
      with_reducible refine xo_nil ?_
      with_reducible repeat (first | refine xq_then ?_ | refine xq_blockN ?_ | refine xq_scopeN ?_)
      with_reducible repeat refine xc_seq ?_
      refine xc_condT rfl ?_
      with_reducible repeat refine xc_seq ?_
      with_reducible refine xc_ret ?_
      with_reducible repeat (first | refine xq_thenR ?_ | refine xq_blockR ?_ | refine xq_scopeR ?_)
      exact xq_ret0 rfl fun w2 hw2 => ⟨⟨_, rfl⟩, .inr ⟨_, trivial, hJx _ W3 w2 none hJx3 (hw2.kx.grown (fun k q => q.elim)) (fun r e => by cases e)⟩⟩
theorem keysM_enters : ∀ args w, (callFunc 53 args).run Tryd.prog w = .ok (.enter 53 args) w := enters_of Tryd.func53 (by kernel_rfl) rfl
theorem keysM_calls (M0 : Nat) (w : World) :
    Calls Tryd.prog 53 #[.map (some M0)] w fun e w' => ∃ B, e = .returned (.func (.func 73) #[] #[.pointer (some ⟨B, 0, none⟩)]) ∧ w.heap.size ≤ B ∧ w'.heap[B]? = some (.cells #[.map (some M0)] 80 (0, 0)) ∧ Below w.heap.size w w' := by
  refine x_calls (X := XNone) Tryd.func53 rfl rfl rfl ?_
  with_reducible repeat refine xc_seq ?_
  with_reducible refine xc_region ?_
  refine xo_box rfl rfl rfl rfl (fun b1 => ?_)
  refine xo_asg rfl rfl rfl ?_
  with_reducible refine xo_nil ?_
  with_reducible repeat (first | refine xq_then ?_ | refine xq_blockN ?_ | refine xq_scopeN ?_)
  with_reducible repeat refine xc_seq ?_
  with_reducible refine xc_region ?_
  refine xo_mkf rfl rfl rfl rfl ?_
  refine xo_asg rfl rfl rfl ?_
  with_reducible refine xo_nil ?_
  with_reducible repeat (first | refine xq_then ?_ | refine xq_blockN ?_ | refine xq_scopeN ?_)
  with_reducible repeat refine xc_seq ?_
  with_reducible refine xc_ret ?_
  with_reducible repeat (first | refine xq_thenR ?_ | refine xq_blockR ?_ | refine xq_scopeR ?_)
  exact xq_ret1 rfl rfl fun w' hw => ⟨b1, rfl, hw.own (by repeat (first | exact List.Mem.head _ | apply List.Mem.tail | apply List.mem_append_right)), hw.obj (wr := true) (cs := [.map (some M0)]) (by repeat (first | exact List.Mem.head _ | apply List.Mem.tail | apply List.mem_append_right)), hw.kx.below⟩
end Go.Proofs.YtcmepdamemnbkaaDoor
namespace Go.Proofs.YtcmepdamemnbkaaDoor
open Go.RowKit Go.Proofs.YtcmepdamemnbkaaDoorW.PrintWords
set_option linter.unusedVariables false
set_option linter.unusedSimpArgs false
section
variable {P : Program} {n N : Nat} {w0 : World} {fn : Func} {R : Ending → World → Prop} {σ : Slots} {η : Hp}
theorem xq_retM3 {t u s : Tmp} {v x y : Value} {D : Nat} (hf : fn.results = #[.tmp t, .tmp u, .tmp s]) (hv : slot t σ = some v) (hx : slot u σ = some x) (hy : slot s σ = some y) (h : ∀ w, WOK w0 XNone η w → R (.returned (.tuple #[v, x, y])) w) :
    XQ N [mark_ D] w0 XNone (bodyPostM Fence.wide n P fn R) .ret σ ((D, true, hdef) :: η) := by
  intro a w ha hw
  obtain ⟨o, hD, ho⟩ := hw.bl (D, true, hdef) (List.mem_cons_self ..)
  rw [show o = _ from ho] at hD
  show LeavesInM _ _ _ _ _ _ a.defers _ w
  rw [ha.df]
  refine ⟨by simp, .inl ⟨D, _, rfl, run_takeDeferred hD, ?_⟩⟩
  have hw' : WOK w0 XNone η (w.putObj D (.deferred none)) := by
    have h1 : D ∉ η.map (·.1) := by have := hw.nd; simp only [List.map_cons, List.nodup_cons] at this; exact this.1
    have h2 := hw.sub (List.sublist_cons_self _ _)
    have h3 : w0.heap.size ≤ D := by
      rcases hw.ow (D, true, hdef) (List.mem_cons_self ..) rfl with h4 | h4
      · exact h4
      · exact h4.elim
    refine ⟨Kx.of_below (below_takeD h2.kx.below h3), ?_, h2.nd, h2.ow⟩
    intro e he
    obtain ⟨o, h4, h5⟩ := h2.bl e he
    exact ⟨o, (World.putObj_heap_other (fun q => h1 (List.mem_map.2 ⟨e, he, q⟩))).trans h4, h5⟩
  exact ⟨.tuple #[v, x, y], by rw [results_tmp3 hf, getD_of (ha.sl _ _ hv), getD_of (ha.sl _ _ hx), getD_of (ha.sl _ _ hy)], h _ hw'⟩
theorem xq_retM03 {t u s : Tmp} {v x y : Value} (hf : fn.results = #[.tmp t, .tmp u, .tmp s]) (hv : slot t σ = some v) (hx : slot u σ = some x) (hy : slot s σ = some y) (h : ∀ w, WOK w0 XNone η w → R (.returned (.tuple #[v, x, y])) w) :
    XQ N [] w0 XNone (bodyPostM Fence.wide n P fn R) .ret σ η := by
  intro a w ha hw
  show LeavesInM _ _ _ _ _ _ a.defers _ w
  rw [ha.df]
  exact ⟨.tuple #[v, x, y], by rw [results_tmp3 hf, getD_of (ha.sl _ _ hv), getD_of (ha.sl _ _ hx), getD_of (ha.sl _ _ hy)], h _ hw⟩
end
theorem imDel_stM {L : List (Int × Nat)} {id : Int} (h : (L.map (·.1)).Nodup) : imDel id (stM L) = stM (L.filter fun p => !decide (p.1 = id)) := by
  induction L with
  | nil => rfl
  | cons p L ih =>
    rw [List.map_cons, List.nodup_cons] at h
    by_cases e : p.1 = id
    · have : L.filter (fun p => !decide (p.1 = id)) = L := List.filter_eq_self.2 fun q hq => by
        have : q.1 ≠ id := fun e2 => h.1 (by rw [e, ← e2]; exact List.mem_map.2 ⟨q, hq, rfl⟩)
        simp [this]
      rw [List.filter_cons, if_neg (by simp [e]), this]
      simp [stM, imDel, e]
    · rw [List.filter_cons, if_pos (by simp [e])]
      simp only [stM, List.map_cons, imDel, e, if_false]
      exact congrArg _ (ih h.2)
section
variable {P : Program} {ro : Option Nat} {n N : Nat} {ds : List Deferred} {w0 : World} {X : Nat → Prop} {Q : Exit → Act → World → Prop} {σ : Slots} {η : Hp} {ops rest : List Oper} {d : Option Tmp} {ty : TypeId} {pos : String} {aft : Array Edge} {g : Option (Nat × Bool)}
theorem xo_mdel (T : Tys P) {t tk te tk' : TypeId} {m x : Operand} {b : Nat} {L : List (Int × Nat)} {k : Int} {η' : Hp} (hg : gS ops σ g = some true) (ht : look t T.mp = some (tk, te)) (hk : look tk T.ik = some .i64) (hm : ev σ m = some (.map (some b))) (hx : ev σ x = some (.int .i64 k)) (hb : (b, true, hmap (stM L)) ∈ η) (hL : (L.map (·.1)).Nodup)
    (hU : Upd b (hmap (stM (L.filter fun p => !decide (p.1 = k)))) η η') (hN : dstOK N d = true) (h : XO P ro n N ds w0 X Q ops (putS d (.tuple #[]) σ) η' rest) :
    XO P ro n N ds w0 X Q ops σ η (⟨d, .call { callee := .builtin .delete, args := #[m, x], argTypes := #[t, tk'] }, ty, pos, aft, g⟩ :: rest) :=
  xo_base rfl hg fun a w ha hw => by
    obtain ⟨o, h1, h2⟩ := (hw.imap hb).del (T.hmp _ (look_mem ht)) (T.hik _ (look_mem hk)) ty tk' k
    rw [imDel_stM hL] at h2
    obtain ⟨o', h3, h4⟩ := hmap_of h2
    refine ⟨.value (.tuple #[]), _, _, ?_, .inl rfl, h _ _ (ha.put hN _) (hw.upd hU (OneB.putObj w b o) h3 h4)⟩
    simp only [execOp, resolve, invoke, builtin, Sem.run_bind, Sem.run_pure, Result.andThen_ok, List.map_toArray, List.map_cons, List.map_nil, ha.ev hm, ha.ev hx, h1]
end
theorem WOK.apart {w0 : World} {X : Nat → Prop} {ζ η : Hp} {w : World} (h : WOK w0 X (ζ ++ η) w) {e e' : Nat × Bool × HP} (he : e ∈ ζ) (he' : e' ∈ η) : e'.1 ≠ e.1 := by
  have := h.nd
  rw [List.map_append, List.nodup_append] at this
  exact fun q => this.2.2 _ (List.mem_map.2 ⟨e, he, rfl⟩) _ (List.mem_map.2 ⟨e', he', rfl⟩) q.symm
def delL (L : List (Int × Nat)) (ys : List Int) : List (Int × Nat) := ys.foldl (fun L n => L.filter fun p => !decide (p.1 = n)) L
theorem delL_app (L : List (Int × Nat)) (ys : List Int) (x : Int) : delL L (ys ++ [x]) = (delL L ys).filter fun p => !decide (p.1 = x) := by simp [delL]
theorem delL_sub (L : List (Int × Nat)) : ∀ ys, (delL L ys).Sublist L := by
  intro ys
  induction ys generalizing L with
  | nil => exact List.Sublist.refl _
  | cons y ys ih => exact (ih _).trans List.filter_sublist
theorem delL_keys (L : List (Int × Nat)) (ys : List Int) : (delL L ys).map (·.1) = (L.map (·.1)).filter fun n => !decide (n ∈ ys) := by
  induction ys generalizing L with
  | nil =>
    rw [List.filter_eq_self.2 (fun n _ => by simp)]
    rfl
  | cons y ys ih =>
    show (delL (L.filter fun p => !decide (p.1 = y)) ys).map (·.1) = _
    rw [ih, List.filter_map, List.filter_map, List.filter_filter]
    congr 1
    refine List.filter_congr fun p _ => ?_
    by_cases h1 : p.1 = y <;> by_cases h2 : p.1 ∈ ys <;> simp [h1, h2]
/-- how many pieces of a batch are out -/
def outF (m : List MovT) (id : Int) : Int := (storeF m id).d - (storeF m id).b
def recallC (r : List RecT) (l : List LetT) (m : List MovT) (day : Int) : Int := if checkF r l = 0 then (if countF r m then openF r l day [] else 82) else checkF r l
def heldF (r : List RecT) (l : List LetT) (day : Int) : List Int := (batchesF r).filter fun n => !decide (n ∈ holdsF r (goneF r l day))
def recallR (r : List RecT) (l : List LetT) (m : List MovT) (day : Int) : List Int := if recallC r l m day = 0 then (heldF r l day).filter fun n => decide (0 < outF m n) else []
def recallN (r : List RecT) (l : List LetT) (m : List MovT) (day : Int) : Int := ((recallR r l m day).map (outF m)).sum
theorem batches_sub (r : List RecT) : (batchesF r).Sublist (r.map fun x => x.f0) := List.Sublist.map _ List.filter_sublist
theorem batches_le {r : List RecT} (hs : SortedIds r) : (batchesF r).Pairwise fun a b => decide (a ≤ b) = true := by
  refine List.Pairwise.sublist (batches_sub r) ?_
  rw [List.pairwise_iff_getElem]
  intro i j hi hj hij
  simp only [List.length_map] at hi hj
  have := sorted_lt hs j i hij hj
  simp only [idAt, List.getD_eq_getElem?_getD, List.getElem?_eq_getElem hi, List.getElem?_eq_getElem hj, Option.getD_some] at this
  simp only [List.getElem_map, decide_eq_true_eq]
  omega
theorem openF_day {r : List RecT} {l : List LetT} {day : Int} (h : checkF r l = 0) : openF r l day [] = if inF 0 100000 day then 0 else 2 := by rw [openF, if_pos h]; simp
/-- the sum so far -/
theorem recSum_B {r : List RecT} {m : List MovT} (h : countF r m = true) : ∀ ids : List Int, -(8000000 * (ids.length : Int)) ≤ (ids.map (outF m)).sum ∧ (ids.map (outF m)).sum ≤ 8000000 * (ids.length : Int)
  | [] => by simp
  | x :: ids => by
    have h1 := recSum_B h ids
    have h2 := count_B h x
    unfold StB at h2
    simp only [List.map_cons, List.sum_cons, List.length_cons, outF] at *
    omega
set_option maxHeartbeats 16000000 in
theorem recall_calls (A B C : Option Addr) (c c' c2 : Nat) (r : List RecT) (l : List LetT) (m : List MovT) (day : Int) (w : World) (hr : Kd.C recK w A r.length r) (hl : Kd.C letK w B l.length l) (hm : Kd.C movK w C m.length m) (hk : Bytes r) (hkl : BytesL l) (hkm : BytesM m) (hglob : GlobOK w) :
    Calls Tryd.prog 15 #[.slice A r.length c, .slice B l.length c', .slice C m.length c2, .int .i64 day] w fun e w' => ∃ rr : RowR, e = .returned (.tuple #[valR rr (recallR r l m day).length, .int .i64 (recallN r l m day), .int .i64 (recallC r l m day)]) ∧ RowAt 3 w.heap.size w' rr (recallR r l m day) ∧ Below w.heap.size w w' := by
  refine x_callsM 3 Tryd.func15 rfl rfl rfl (WOK.start XNone w) ?_
  with_reducible repeat refine xc_seq ?_
  with_reducible refine xc_region ?_
  refine xo_asg rfl rfl rfl ?_
  refine xo_asg rfl rfl rfl ?_
  refine xo_asg rfl rfl rfl ?_
  with_reducible refine xo_nil ?_
  with_reducible repeat (first | refine xq_then ?_ | refine xq_blockN ?_ | refine xq_scopeN ?_)
  with_reducible repeat refine xc_seq ?_
  with_reducible refine xc_region ?_
  refine xo_mv rfl rfl rfl ?_
  refine xo_mv rfl rfl rfl ?_
  refine xo_callB (fs := []) (cs := []) rfl rfl rfl check_enters rfl (fun w1 hw1 => check_calls A B c c' r l w1 (Kd.C_below hr hw1.kx.below) (Kd.C_below hl hw1.kx.below) hk hkl) ?_
  refine xo_asg rfl rfl rfl ?_
  with_reducible refine xo_nil ?_
  with_reducible repeat (first | refine xq_then ?_ | refine xq_blockN ?_ | refine xq_scopeN ?_)
  with_reducible repeat refine xc_seq ?_
  with_reducible refine xc_region ?_
  refine xo_mv rfl rfl rfl ?_
  refine xo_neq rfl rfl rfl rfl ?_
  with_reducible refine xo_nil ?_
  with_reducible repeat (first | refine xq_then ?_ | refine xq_blockN ?_ | refine xq_scopeN ?_)
  with_reducible repeat refine xc_seq ?_
  refine xc_cond rfl (fun hck => ?_) (fun hck => ?_)
  · have hck : ¬ checkF r l = 0 := by simpa using hck
    have e1 : recallC r l m day = checkF r l := by rw [recallC, if_neg hck]
    have e2 : recallR r l m day = [] := by rw [recallR, e1, if_neg hck]
    have e3 : recallN r l m day = 0 := by rw [recallN, e2]; rfl
    with_reducible repeat refine xc_seq ?_
    with_reducible refine xc_region ?_
    refine xo_mv rfl rfl rfl ?_
    refine xo_asg rfl rfl rfl ?_
    refine xo_asg rfl rfl rfl ?_
    refine xo_asg rfl rfl rfl ?_
    with_reducible refine xo_nil ?_
    with_reducible repeat (first | refine xq_then ?_ | refine xq_blockN ?_ | refine xq_scopeN ?_)
    with_reducible repeat refine xc_seq ?_
    with_reducible refine xc_ret ?_
    with_reducible repeat (first | refine xq_thenR ?_ | refine xq_blockR ?_ | refine xq_scopeR ?_)
    refine xq_retM03 rfl rfl rfl rfl fun w' hw => ⟨none, by rw [e1, e2, e3]; rfl, ?_, hw.kx.below⟩
    rw [e2]
    exact ⟨fun _ => rfl, fun p hp => by cases hp⟩
  have hck : checkF r l = 0 := by simpa using hck
  have hrec := check_zero hck
  have hs := sorted_of hrec
  have hlen := recorded_len hrec
  with_reducible refine xc_skip ?_
  with_reducible repeat (first | refine xq_then ?_ | refine xq_blockN ?_ | refine xq_scopeN ?_)
  cases hcf : countF r m
  · have e1 : recallC r l m day = 82 := by rw [recallC, if_pos hck, hcf]; rfl
    have e2 : recallR r l m day = [] := by rw [recallR, e1]; rfl
    have e3 : recallN r l m day = 0 := by rw [recallN, e2]; rfl
    with_reducible repeat refine xc_seq ?_
    with_reducible refine xc_region ?_
    refine xo_mv rfl rfl rfl ?_
    refine xo_mv rfl rfl rfl ?_
    refine xo_call (fs := []) (cs := []) rfl rfl rfl count_enters rfl (fun w1 hw1 => (count_calls A C c c2 r m w1 (Kd.C_below hr hw1.kx.below) (Kd.C_below hm hw1.kx.below) hkm hs (by omega) (hglob.below hw1.kx.below)).mono ?_)
    rintro e w2 (⟨_, rfl, hb⟩ | ⟨h, _⟩)
    rotate_left
    · rw [hcf] at h; cases h
    refine ⟨_, _, rfl, hw1.below hb, ?_⟩
    clear hb hw1
    refine xo_mv rfl rfl rfl ?_
    refine xo_ext rfl rfl rfl rfl ?_
    refine xo_ext rfl rfl rfl rfl ?_
    refine xo_alloc T_ rfl rfl rfl rfl (fun b12 => ?_)
    refine xo_store T_ rfl rfl rfl rfl (by repeat (first | exact List.Mem.head _ | apply List.Mem.tail | apply List.mem_append_right)) rfl rfl rfl rfl (by repeat (first | exact Upd.head | apply Upd.tail | apply Upd.app)) rfl ?_
    refine xo_asg rfl rfl rfl ?_
    with_reducible refine xo_nil ?_
    with_reducible repeat (first | refine xq_then ?_ | refine xq_blockN ?_ | refine xq_scopeN ?_)
    with_reducible repeat refine xc_seq ?_
    with_reducible refine xc_region ?_
    refine xo_mv rfl rfl rfl ?_
    refine xo_notOp rfl rfl rfl ?_
    with_reducible refine xo_nil ?_
    with_reducible repeat (first | refine xq_then ?_ | refine xq_blockN ?_ | refine xq_scopeN ?_)
    with_reducible repeat refine xc_seq ?_
    refine xc_condT rfl ?_
    with_reducible repeat refine xc_seq ?_
    with_reducible refine xc_region ?_
    refine xo_asg rfl rfl rfl ?_
    refine xo_asg rfl rfl rfl ?_
    refine xo_asg rfl rfl rfl ?_
    with_reducible refine xo_nil ?_
    with_reducible repeat (first | refine xq_then ?_ | refine xq_blockN ?_ | refine xq_scopeN ?_)
    with_reducible repeat refine xc_seq ?_
    with_reducible refine xc_ret ?_
    with_reducible repeat (first | refine xq_thenR ?_ | refine xq_blockR ?_ | refine xq_scopeR ?_)
    refine xq_retM03 rfl rfl rfl rfl fun w' hw => ⟨none, by rw [e1, e2, e3]; rfl, ?_, hw.kx.below⟩
    rw [e2]
    exact ⟨fun _ => rfl, fun p hp => by cases hp⟩
  with_reducible repeat refine xc_seq ?_
  with_reducible refine xc_region ?_
  refine xo_mv rfl rfl rfl ?_
  refine xo_mv rfl rfl rfl ?_
  refine xo_call (fs := []) (cs := []) rfl rfl rfl count_enters rfl (fun w1 hw1 => (count_calls A C c c2 r m w1 (Kd.C_below hr hw1.kx.below) (Kd.C_below hm hw1.kx.below) hkm hs (by omega) (hglob.below hw1.kx.below)).mono ?_)
  rintro e w2 (⟨h, _⟩ | ⟨_, M, L, rfl, hL, hz⟩)
  · rw [hcf] at h; cases h
  refine ⟨_, _, rfl, hw1.join hz (fun e he => (List.mem_cons.1 he).elim (fun q => by rw [q]) (stH_true e)), ?_⟩
  clear hz hw1
  refine xo_mv rfl rfl rfl ?_
  refine xo_ext rfl rfl rfl rfl ?_
  refine xo_ext rfl rfl rfl rfl ?_
  refine xo_alloc T_ rfl rfl rfl rfl (fun b12 => ?_)
  refine xo_store T_ rfl rfl rfl rfl (by repeat (first | exact List.Mem.head _ | apply List.Mem.tail | apply List.mem_append_right)) rfl rfl rfl rfl (by repeat (first | exact Upd.head | apply Upd.tail | apply Upd.app)) rfl ?_
  refine xo_asg rfl rfl rfl ?_
  with_reducible refine xo_nil ?_
  with_reducible repeat (first | refine xq_then ?_ | refine xq_blockN ?_ | refine xq_scopeN ?_)
  have hnd : (L.map (·.1)).Nodup := by
    have := batches_nodup hs r.length (Nat.le_refl _)
    rw [List.take_of_length_le (Nat.le_refl _)] at this
    rw [hL]
    exact this
  with_reducible repeat refine xc_seq ?_
  with_reducible refine xc_region ?_
  refine xo_mv rfl rfl rfl ?_
  refine xo_notOp rfl rfl rfl ?_
  with_reducible refine xo_nil ?_
  with_reducible repeat (first | refine xq_then ?_ | refine xq_blockN ?_ | refine xq_scopeN ?_)
  with_reducible repeat refine xc_seq ?_
  refine xc_condF rfl ?_
  with_reducible refine xc_skip ?_
  with_reducible repeat (first | refine xq_then ?_ | refine xq_blockN ?_ | refine xq_scopeN ?_)
  have e0 : recallC r l m day = openF r l day [] := by rw [recallC, if_pos hck, hcf]; rfl
  by_cases ho : openF r l day [] = 0
  rotate_left
  · have hd : (!decide (openF r l day [] = 0)) = true := by simp [ho]
    have e2 : recallR r l m day = [] := by rw [recallR, e0, if_neg ho]
    have e3 : recallN r l m day = 0 := by rw [recallN, e2]; rfl
    with_reducible repeat refine xc_seq ?_
    with_reducible refine xc_region ?_
    refine xo_mv rfl rfl rfl ?_
    refine xo_mv rfl rfl rfl ?_
    refine xo_mv rfl rfl rfl ?_
    refine xo_call (fs := []) (cs := []) rfl rfl rfl open_enters rfl (fun w1 hw1 => (open_calls A B none c c' 0 r l day [] w1 (Kd.C_below hr hw1.kx.below) (Kd.C_below hl hw1.kx.below) (Kd.C_nil _ _) hk hkl).mono ?_)
    rintro e w2 ⟨sv, rfl, hb, hne, h0⟩
    obtain rfl := hne ho
    refine ⟨_, _, rfl, hw1.below hb, ?_⟩
    clear hb hne h0 hw1
    refine xo_mv rfl rfl rfl ?_
    refine xo_ext rfl rfl rfl rfl ?_
    refine xo_ext rfl rfl rfl rfl ?_
    refine xo_alloc T_ rfl rfl rfl rfl (fun b14 => ?_)
    refine xo_store T_ rfl rfl rfl rfl (by repeat (first | exact List.Mem.head _ | apply List.Mem.tail | apply List.mem_append_right)) rfl rfl rfl rfl (by repeat (first | exact Upd.head | apply Upd.tail | apply Upd.app)) rfl ?_
    refine xo_asg rfl rfl rfl ?_
    with_reducible refine xo_nil ?_
    with_reducible repeat (first | refine xq_then ?_ | refine xq_blockN ?_ | refine xq_scopeN ?_)
    with_reducible repeat refine xc_seq ?_
    with_reducible refine xc_region ?_
    refine xo_mv rfl rfl rfl ?_
    refine xo_neq rfl rfl rfl rfl ?_
    refine xo_as (i := 41) rfl (congrArg Value.bool hd) ?_
    with_reducible refine xo_nil ?_
    with_reducible repeat (first | refine xq_then ?_ | refine xq_blockN ?_ | refine xq_scopeN ?_)
    with_reducible repeat refine xc_seq ?_
    refine xc_condT rfl ?_
    with_reducible repeat refine xc_seq ?_
    with_reducible refine xc_region ?_
    refine xo_mv rfl rfl rfl ?_
    refine xo_asg rfl rfl rfl ?_
    refine xo_asg rfl rfl rfl ?_
    refine xo_asg rfl rfl rfl ?_
    with_reducible refine xo_nil ?_
    with_reducible repeat (first | refine xq_then ?_ | refine xq_blockN ?_ | refine xq_scopeN ?_)
    with_reducible repeat refine xc_seq ?_
    with_reducible refine xc_ret ?_
    with_reducible repeat (first | refine xq_thenR ?_ | refine xq_blockR ?_ | refine xq_scopeR ?_)
    refine xq_retM03 rfl rfl rfl rfl fun w' hw => ⟨none, by rw [e0, e2, e3]; rfl, ?_, hw.kx.below⟩
    rw [e2]
    exact ⟨fun _ => rfl, fun p hp => by cases hp⟩
  have hd : (!decide (openF r l day [] = 0)) = false := by simp [ho]
  have e2 : recallR r l m day = (heldF r l day).filter fun n => decide (0 < outF m n) := by rw [recallR, e0, if_pos ho]
  with_reducible repeat refine xc_seq ?_
  with_reducible refine xc_region ?_
  refine xo_mv rfl rfl rfl ?_
  refine xo_mv rfl rfl rfl ?_
  refine xo_mv rfl rfl rfl ?_
  refine xo_call (fs := []) (cs := []) rfl rfl rfl open_enters rfl (fun w1 hw1 => (open_calls A B none c c' 0 r l day [] w1 (Kd.C_below hr hw1.kx.below) (Kd.C_below hl hw1.kx.below) (Kd.C_nil _ _) hk hkl).mono ?_)
  rintro e w2 ⟨sv, rfl, hb, hne, h0⟩
  obtain ⟨G, rfl, hM1, hM2⟩ := h0 ho
  obtain ⟨oM, hM3, hM4⟩ := hmap_of hM2
  refine ⟨_, _, rfl, hw1.more hb hM1 hM3 hM4, ?_⟩
  clear hb hM2 hM3 hM4 hne h0 hM1 hw1
  refine xo_mv rfl rfl rfl ?_
  refine xo_ext rfl rfl rfl rfl ?_
  refine xo_ext rfl rfl rfl rfl ?_
  refine xo_alloc T_ rfl rfl rfl rfl (fun b14 => ?_)
  refine xo_store T_ rfl rfl rfl rfl (by repeat (first | exact List.Mem.head _ | apply List.Mem.tail | apply List.mem_append_right)) rfl rfl rfl rfl (by repeat (first | exact Upd.head | apply Upd.tail | apply Upd.app)) rfl ?_
  refine xo_asg rfl rfl rfl ?_
  with_reducible refine xo_nil ?_
  with_reducible repeat (first | refine xq_then ?_ | refine xq_blockN ?_ | refine xq_scopeN ?_)
  with_reducible repeat refine xc_seq ?_
  with_reducible refine xc_region ?_
  refine xo_mv rfl rfl rfl ?_
  refine xo_neq rfl rfl rfl rfl ?_
  refine xo_as (i := 41) rfl (congrArg Value.bool hd) ?_
  with_reducible refine xo_nil ?_
  with_reducible repeat (first | refine xq_then ?_ | refine xq_blockN ?_ | refine xq_scopeN ?_)
  with_reducible repeat refine xc_seq ?_
  refine xc_condF rfl ?_
  with_reducible refine xc_skip ?_
  with_reducible repeat (first | refine xq_then ?_ | refine xq_blockN ?_ | refine xq_scopeN ?_)
  with_reducible repeat refine xc_seq ?_
  with_reducible refine xc_region ?_
  refine xo_loadN T_ rfl rfl rfl (by repeat (first | exact List.Mem.head _ | apply List.Mem.tail | apply List.mem_append_right)) rfl rfl ?_
  refine xo_fa T_ rfl rfl rfl rfl rfl ?_
  refine xo_load0 T_ rfl rfl rfl (by repeat (first | exact List.Mem.head _ | apply List.Mem.tail | apply List.mem_append_right)) rfl rfl ?_
  refine xo_holds rfl rfl rfl rfl (fun b2 b3 => ?_)
  with_reducible refine xo_nil ?_
  with_reducible repeat (first | refine xq_then ?_ | refine xq_blockN ?_ | refine xq_scopeN ?_)
  with_reducible repeat refine xc_seq ?_
  with_reducible refine xc_block ?_
  refine xc_know (φ := (∀ e ∈ ((b12, true, cel [.map (some M)] 80) :: (M, true, hmap (stM L)) :: (stH (storeF m) L ++ []) : Hp), ¬ needOf w b2 b3 G e.1) ∧ b2 ≠ b3) (fun w1 hw1 => ?_) fun hφ => ?_
  · refine ⟨fun e he hne => ?_, ne_of_nd hw1⟩
    have hap := fun e0 (h0 : e0 ∈ ([(b3, true, cel [.map (some G)] 62), (b2, true, cel [.slice A r.length c, .map (some G)] 91), (b14, true, cel [.slice A r.length c, .map (some G)] 91), (G, true, hmap (setV (goneF r l day)))] : Hp)) => hw1.apart (ζ := [(b3, true, cel [.map (some G)] 62), (b2, true, cel [.slice A r.length c, .map (some G)] 91), (b14, true, cel [.slice A r.length c, .map (some G)] 91), (G, true, hmap (setV (goneF r l day)))]) (η := (b12, true, cel [.map (some M)] 80) :: (M, true, hmap (stM L)) :: (stH (storeF m) L ++ [])) h0 he
    have htr : e.2.1 = true := by
      rcases List.mem_cons.1 he with rfl | he
      · rfl
      rcases List.mem_cons.1 he with rfl | he
      · rfl
      · rw [List.append_nil] at he
        exact stH_true e he
    have hown := hw1.ow e (List.mem_append_right [(b3, true, cel [.map (some G)] 62), (b2, true, cel [.slice A r.length c, .map (some G)] 91), (b14, true, cel [.slice A r.length c, .map (some G)] 91), (G, true, hmap (setV (goneF r l day)))] he) htr
    rcases hown with hown | hown
    · rcases hne with h | h | h | h
      · omega
      · exact hap _ (List.Mem.tail _ (List.Mem.head _)) h
      · exact hap _ (List.Mem.head _) h
      · exact hap _ (List.Mem.tail _ (List.Mem.tail _ (List.Mem.tail _ (List.Mem.head _)))) h
    · exact hown
  obtain ⟨hφ, h23⟩ := hφ
  have hkeys : ∀ ys, ((delL L ys).map (·.1)).Nodup := fun ys => by rw [delL_keys]; exact hnd.filter _
  refine xc_range (xs := holdsF r (goneF r l day)) (by omega) rfl iter_enters rfl (needOf w b2 b3 G) (fun w1 hw1 k hk => ?_) (fun w1 hw1 => (iter_holds A c r (goneF r l day) G G b2 b3 w w1 hr (SameB.of_below hw1.kx.below) hw1.kx.size (hw1.obj (by repeat (first | exact List.Mem.head _ | apply List.Mem.tail | apply List.mem_append_right))) (hw1.obj (by repeat (first | exact List.Mem.head _ | apply List.Mem.tail | apply List.mem_append_right))) (hw1.imap (wr := true) (by repeat (first | exact List.Mem.head _ | apply List.Mem.tail | apply List.mem_append_right))) h23) w1 (Nat.le_refl _) (fun k hk => rfl) _ (fun k hk => hk) _)
    (γ := Unit) (fun _ _ => True) (fun ys _ => (b12, true, cel [.map (some M)] 80) :: (M, true, hmap (stM (delL L ys))) :: (stH (storeF m) L ++ [])) () trivial ?_ ?_ ?_ (fun x => [(12, .pointer (some ⟨b12, 0, none⟩)), (15, .int .i64 x)]) ?_ ?_ ?_
  · rcases hk with hk | rfl | rfl | rfl
    · exact Nat.lt_of_lt_of_le hk hw1.kx.size
    · exact hw1.lt (e := (k, true, cel [.slice A r.length c, .map (some G)] 91)) (by repeat (first | exact List.Mem.head _ | apply List.Mem.tail | apply List.mem_append_right))
    · exact hw1.lt (e := (k, true, cel [.map (some G)] 62)) (by repeat (first | exact List.Mem.head _ | apply List.Mem.tail | apply List.mem_append_right))
    · exact hw1.lt (e := (k, true, hmap (setV (goneF r l day)))) (by repeat (first | exact List.Mem.head _ | apply List.Mem.tail | apply List.mem_append_right))
  · exact (by repeat (first | exact List.Sublist.refl _ | apply List.Sublist.cons_cons | apply List.Sublist.cons | exact List.nil_sublist _))
  · intro ys _ _ e he
    right
    rcases List.mem_cons.1 he with rfl | he
    · exact ⟨(b12, true, cel [.map (some M)] 80), (by repeat (first | exact List.Mem.head _ | apply List.Mem.tail | apply List.mem_append_right)), rfl⟩
    rcases List.mem_cons.1 he with rfl | he
    · exact ⟨(M, true, hmap (stM L)), (by repeat (first | exact List.Mem.head _ | apply List.Mem.tail | apply List.mem_append_right)), rfl⟩
    · exact ⟨e, List.Mem.tail _ (List.Mem.tail _ (List.Mem.tail _ (List.Mem.tail _ (List.Mem.tail _ (List.Mem.tail _ he))))), rfl⟩
  · intro ys _ _ e he _
    rcases List.mem_cons.1 he with rfl | he
    · exact hφ (b12, true, cel [.map (some M)] 80) (List.Mem.head _)
    rcases List.mem_cons.1 he with rfl | he
    · exact hφ (M, true, hmap (stM L)) (List.Mem.tail _ (List.Mem.head _))
    · exact hφ e (List.Mem.tail _ (List.Mem.tail _ he))
  · intro lb x W
    with_reducible repeat refine xc_seq ?_
    with_reducible refine xc_region ?_
    refine xo_asg rfl rfl rfl ?_
    with_reducible refine xo_nil ?_
    with_reducible repeat (first | refine xq_then ?_ | refine xq_blockN ?_ | refine xq_scopeN ?_)
    exact fun a w1 ha hw1 => ⟨ha.sub ⟨rfl, rfl, trivial⟩, hw1.kx⟩
  · rintro lb ys x _ W _ hlt hW
    with_reducible repeat refine xc_seq ?_
    with_reducible refine xc_block ?_
    with_reducible repeat refine xc_seq ?_
    with_reducible refine xc_region ?_
    refine xo_load0 T_ rfl rfl rfl (by repeat (first | exact List.Mem.head _ | apply List.Mem.tail | apply List.mem_append_right)) rfl rfl ?_
    refine xo_mv rfl rfl rfl ?_
    refine xo_mdel T_ rfl rfl rfl rfl rfl (by repeat (first | exact List.Mem.head _ | apply List.Mem.tail | apply List.mem_append_right)) (hkeys ys) (by repeat (first | exact Upd.head | apply Upd.tail | apply Upd.app)) rfl ?_
    with_reducible refine xo_nil ?_
    with_reducible repeat (first | refine xq_then ?_ | refine xq_blockN ?_ | refine xq_scopeN ?_)
    intro a w1 ha hw1
    exact ⟨(), trivial, by simp only [delL_app]; exact hw1⟩
  rintro D _ _
  have hkk : heldF r l day = (stM (delL L (holdsF r (goneF r l day)))).map (·.1) := by
    rw [heldF, ← hL, ← delL_keys, stM, List.map_map]
    rfl
  have hsort : sortF (heldF r l day) = heldF r l day := sortF_id ((batches_le hs).sublist List.filter_sublist)
  have hids : (heldF r l day).length ≤ r.length := Nat.le_trans (List.length_filter_le _ _) (by have := (batches_sub r).length_le; simpa using this)
  have hmem : ∀ n ∈ heldF r l day, ∃ b, (n, b) ∈ L ∧ imGet n (stM (delL L (holdsF r (goneF r l day)))) = some (.pointer (some ⟨b, 0, none⟩)) := fun n hn => by
    rcases imGet_stM (L := delL L (holdsF r (goneF r l day))) (id := n) with ⟨b, h1, h2⟩ | ⟨h1, _⟩
    · exact ⟨b, (delL_sub L _).subset h1, h2⟩
    · rw [hkk, stM, List.map_map] at hn
      exact absurd hn h1
  have hacc1 : ∀ k, ((((heldF r l day).take k).filter fun n => decide (0 < outF m n)).length : Int) ≤ k ∧ ((((heldF r l day).take k).filter fun n => decide (0 < outF m n)).length : Int) ≤ (heldF r l day).length := fun k => by
    have h1 := List.length_filter_le (fun n => decide (0 < outF m n)) ((heldF r l day).take k)
    rw [List.length_take] at h1
    omega
  have hsucc : ∀ k, k < (heldF r l day).length → (((heldF r l day).take (k + 1)).filter fun n => decide (0 < outF m n)) = (((heldF r l day).take k).filter fun n => decide (0 < outF m n)) ++ (if 0 < outF m ((heldF r l day).getD k 0) then [(heldF r l day).getD k 0] else []) := fun k hk => by
    have h1 : (heldF r l day).getD k 0 = (heldF r l day)[k] := by simp [List.getD_eq_getElem?_getD, List.getElem?_eq_getElem hk]
    rw [List.take_succ_eq_append_getElem hk, List.filter_append, h1]
    congr 1
    by_cases q : 0 < outF m (heldF r l day)[k]
    · simp [q]
    · simp [q]
  with_reducible repeat (first | refine xq_then ?_ | refine xq_blockN ?_ | refine xq_scopeN ?_)
  with_reducible repeat refine xc_seq ?_
  with_reducible refine xc_region ?_
  refine xo_load0 T_ rfl rfl rfl (by repeat (first | exact List.Mem.head _ | apply List.Mem.tail | apply List.mem_append_right)) rfl rfl ?_
  refine xo_call (fs := []) (cs := []) rfl rfl rfl keysM_enters rfl (fun w1 hw1 => (keysM_calls M w1).mono ?_)
  rintro e w2 ⟨BK, rfl, hB1, hB2, hb⟩
  refine ⟨_, _, rfl, hw1.more (φ := cel [.map (some M)] 80) hb hB1 hB2 rfl, ?_⟩
  clear hB1 hB2 hb hw1
  refine xo_call (fs := []) (cs := []) rfl rfl rfl sorted_enters rfl (fun w1 hw1 => (sorted_calls 73 [.pointer (some ⟨BK, 0, none⟩)] keysIterM_enters (fun k => k = BK ∨ k = M) (heldF r l day) (heldF r l day).length w1 (iter_keysM (heldF r l day) _ hkk M BK w1 (hw1.obj (wr := true) (cs := [.map (some M)]) (by repeat (first | exact List.Mem.head _ | apply List.Mem.tail | apply List.mem_append_right))) (hw1.imap (wr := true) (by repeat (first | exact List.Mem.head _ | apply List.Mem.tail | apply List.mem_append_right)))) (fun k hk => hk.elim (fun e => e ▸ hw1.lt (e := (BK, true, cel [.map (some M)] 80)) (by repeat (first | exact List.Mem.head _ | apply List.Mem.tail | apply List.mem_append_right))) (fun e => e ▸ hw1.lt (e := (M, true, hmap (stM (delL L (holdsF r (goneF r l day)))))) (by repeat (first | exact List.Mem.head _ | apply List.Mem.tail | apply List.mem_append_right)))) (by omega) (by omega)).mono ?_)
  rintro e w2 ⟨r11, rfl, hrw, hb⟩
  rw [hsort] at hrw ⊢
  have h11 := hrw.1
  refine ⟨_, _, rfl, hw1.row hb hrw, ?_⟩
  clear hrw hb hw1
  refine xo_lenR T_ rfl rfl (fun h => by rw [h11 h]; rfl) rfl rfl ?_
  refine xo_mv rfl rfl rfl ?_
  with_reducible refine xo_nil ?_
  with_reducible repeat (first | refine xq_then ?_ | refine xq_blockN ?_ | refine xq_scopeN ?_)
  with_reducible repeat refine xc_seq ?_
  with_reducible refine xc_block ?_
  refine xc_sub (η' := (hpR 3 1 r11 (heldF r l day).length ((heldF r l day).map (.int .i64)) ++ ((D, true, hdef) :: ((b12, true, cel [.map (some M)] 80) :: (M, true, hmap (stM (delL L (holdsF r (goneF r l day))))) :: (stH (storeF m) L ++ []))))) (List.Sublist.append (List.Sublist.refl _) (List.sublist_cons_self _ _)) ?_
  refine xc_loop (γ := Nat × RowR) (fun q => q.1 ≤ (heldF r l day).length ∧ (q.2 = none → (((heldF r l day).take q.1).filter fun n => decide (0 < outF m n)) = [])) (fun q => [(12, .pointer (some ⟨b12, 0, none⟩)), (8, valR q.2 (((heldF r l day).take q.1).filter fun n => decide (0 < outF m n)).length), (9, .int .i64 (((((heldF r l day).take q.1).filter fun n => decide (0 < outF m n)).map (outF m)).sum)), (52, valR r11 (heldF r l day).length), (53, .int .i64 ((heldF r l day).length : Int)), (54, .int .i64 (q.1 : Int))])
    (fun q => hpR 3 1 q.2 (((heldF r l day).take q.1).filter fun n => decide (0 < outF m n)).length ((((heldF r l day).take q.1).filter fun n => decide (0 < outF m n)).map (.int .i64)) ++ (hpR 3 1 r11 (heldF r l day).length ((heldF r l day).map (.int .i64)) ++ ((D, true, hdef) :: ((b12, true, cel [.map (some M)] 80) :: (M, true, hmap (stM (delL L (holdsF r (goneF r l day))))) :: (stH (storeF m) L ++ []))))) (fun q => (heldF r l day).length - q.1) (0, none) ⟨Nat.zero_le _, fun _ => rfl⟩ ⟨rfl, rfl, rfl, rfl, rfl, rfl, trivial⟩ (List.Sublist.refl _) ?_
  rintro ⟨k, rr⟩ ⟨hk1, hrr⟩
  simp only at hk1 hrr ⊢
  with_reducible repeat refine xc_seq ?_
  with_reducible refine xc_region ?_
  refine xo_lss rfl rfl rfl rfl ?_
  with_reducible refine xo_nil ?_
  with_reducible repeat (first | refine xq_then ?_ | refine xq_blockN ?_ | refine xq_scopeN ?_)
  with_reducible repeat refine xc_seq ?_
  refine xc_cond rfl (fun h => ?_) (fun h => ?_)
  · have hlt : k < (heldF r l day).length := by have := of_decide_eq_true h; omega
    have hsk := hsucc k hlt
    have hin := getD_mem (heldF r l day) 0 k hlt
    obtain ⟨b, hb1, hb2⟩ := hmem _ hin
    have hBs := count_B hcf ((heldF r l day).getD k 0)
    have hsum := recSum_B hcf (((heldF r l day).take k).filter fun n => decide (0 < outF m n))
    have hac := hacc1 k
    have hxk : ((heldF r l day).map (Value.int .i64))[k]? = some (.int .i64 ((heldF r l day).getD k 0)) := by simp [List.getD_eq_getElem?_getD, List.getElem?_eq_getElem hlt]
    unfold StB at hBs
    with_reducible refine xc_skip ?_
    with_reducible repeat (first | refine xq_then ?_ | refine xq_blockN ?_ | refine xq_scopeN ?_)
    with_reducible repeat refine xc_seq ?_
    with_reducible refine xc_block ?_
    rcases r11 with _ | ⟨g11, cap11⟩
    · rw [h11 rfl] at hlt
      exact absurd hlt (by simp)
    with_reducible repeat refine xc_seq ?_
    with_reducible refine xc_region ?_
    refine xo_ia T_ rfl rfl rfl rfl rfl ⟨by omega, by omega⟩ rfl ?_
    refine xo_loadO (v := .int .i64 ((heldF r l day).getD k 0)) T_ rfl rfl rfl (by repeat (first | exact List.Mem.head _ | exact List.mem_append_left _ (List.Mem.head _) | apply List.mem_append_right | apply List.Mem.tail)) (by simp only [szN, Int.toNat_natCast]; simpa using hxk) rfl ?_
    refine xo_asg rfl rfl rfl ?_
    with_reducible refine xo_nil ?_
    with_reducible repeat (first | refine xq_then ?_ | refine xq_blockN ?_ | refine xq_scopeN ?_)
    with_reducible repeat refine xc_seq ?_
    apply xc_drawN
    · exact T_.mixed
    · rfl
    · rfl
    · rfl
    · rfl
    · apply DrawOps.cons
      · intro τ
        refine xo_load0 T_ rfl rfl rfl (t := 80) (by repeat (first | exact List.Mem.head _ | exact List.mem_append_left _ (List.Mem.head _) | apply List.mem_append_right | apply List.Mem.tail)) rfl rfl ?_
        exact xo_fin rfl
      apply DrawOps.cons
      · intro τ
        refine xo_mv rfl rfl rfl ?_
        exact xo_fin rfl
      apply DrawOps.cons
      · intro τ
        refine xo_look1 T_ rfl rfl rfl rfl rfl rfl (by repeat (first | exact List.Mem.head _ | exact List.mem_append_left _ (List.Mem.head _) | apply List.mem_append_right | apply List.Mem.tail)) (by rw [hb2]) rfl ?_
        exact xo_fin rfl
      apply DrawOps.cons
      · intro τ
        refine xo_nilck rfl rfl rfl ?_
        exact xo_fin rfl
      apply DrawOps.cons
      · intro τ
        refine xo_fa T_ rfl rfl rfl rfl rfl ?_
        exact xo_fin rfl
      apply DrawOps.cons
      · intro τ
        refine xo_load0 T_ rfl rfl rfl (List.mem_append_right _ (List.mem_append_right _ (List.Mem.tail _ (List.Mem.tail _ (List.Mem.tail _ (List.mem_append_left _ (stH_mem hb1))))))) rfl rfl ?_
        exact xo_fin rfl
      apply DrawOps.cons
      · intro τ
        refine xo_load0 T_ rfl rfl rfl (by repeat (first | exact List.Mem.head _ | exact List.mem_append_left _ (List.Mem.head _) | apply List.mem_append_right | apply List.Mem.tail)) rfl rfl ?_
        exact xo_fin rfl
      apply DrawOps.cons
      · intro τ
        refine xo_mv rfl rfl rfl ?_
        exact xo_fin rfl
      apply DrawOps.cons
      · intro τ
        refine xo_look1 T_ rfl rfl rfl rfl rfl rfl (by repeat (first | exact List.Mem.head _ | exact List.mem_append_left _ (List.Mem.head _) | apply List.mem_append_right | apply List.Mem.tail)) (by rw [hb2]) rfl ?_
        exact xo_fin rfl
      apply DrawOps.cons
      · intro τ
        refine xo_nilck rfl rfl rfl ?_
        exact xo_fin rfl
      apply DrawOps.cons
      · intro τ
        refine xo_fa T_ rfl rfl rfl rfl rfl ?_
        exact xo_fin rfl
      apply DrawOps.cons
      · intro τ
        refine xo_load0 T_ rfl rfl rfl (List.mem_append_right _ (List.mem_append_right _ (List.Mem.tail _ (List.Mem.tail _ (List.Mem.tail _ (List.mem_append_left _ (stH_mem hb1))))))) rfl rfl ?_
        exact xo_fin rfl
      apply DrawOps.cons
      · intro τ
        refine xo_sub rfl rfl rfl (by omega) rfl ?_
        exact xo_fin rfl
      apply DrawOps.cons
      · intro τ
        refine xo_asg rfl rfl rfl ?_
        exact xo_fin rfl
      exact DrawOps.nil
    · rfl
    with_reducible repeat (first | refine xq_then ?_ | refine xq_blockN ?_ | refine xq_scopeN ?_)
    with_reducible repeat refine xc_seq ?_
    with_reducible refine xc_region ?_
    refine xo_mv rfl rfl rfl ?_
    refine xo_gtr rfl rfl rfl rfl ?_
    with_reducible refine xo_nil ?_
    with_reducible repeat (first | refine xq_then ?_ | refine xq_blockN ?_ | refine xq_scopeN ?_)
    with_reducible repeat refine xc_seq ?_
    refine xc_cond rfl (fun h0 => ?_) (fun h0 => ?_)
    · have h0 : 0 < outF m ((heldF r l day).getD k 0) := of_decide_eq_true h0
      rw [if_pos h0] at hsk
      have hs9 := congrArg (fun l => (l.map (outF m)).sum) hsk
      simp only [List.map_append, List.sum_append, List.map_cons, List.map_nil, List.sum_cons, List.sum_nil, Int.add_zero] at hs9
      have hs8 := congrArg List.length hsk
      simp only [List.length_append, List.length_cons, List.length_nil, Nat.zero_add] at hs8
      have hs7 := congrArg (fun l => l.map (Value.int .i64)) hsk
      simp only [List.map_append, List.map_cons, List.map_nil] at hs7
      with_reducible repeat refine xc_seq ?_
      with_reducible refine xc_region ?_
      refine xo_mv rfl rfl rfl ?_
      refine xo_mv rfl rfl rfl ?_
      refine xo_bs1 T_ rfl rfl rfl rfl rfl rfl rfl rfl (fun b75 => ?_)
      refine xo_app TR_ rfl rfl rfl rfl rfl rfl rfl rfl (by simp) rfl rfl (fun h => by rw [hrr h]; rfl) (by omega) rfl rfl (fun r' hr' => ?_)
      refine xo_asg rfl rfl rfl ?_
      with_reducible refine xo_nil ?_
      with_reducible repeat (first | refine xq_then ?_ | refine xq_blockN ?_ | refine xq_scopeN ?_)
      with_reducible repeat refine xc_seq ?_
      with_reducible refine xc_region ?_
      refine xo_mv rfl rfl rfl ?_
      refine xo_mv rfl rfl rfl ?_
      refine xo_add rfl rfl rfl (by omega) rfl ?_
      refine xo_asg rfl rfl rfl ?_
      with_reducible refine xo_nil ?_
      with_reducible repeat (first | refine xq_then ?_ | refine xq_blockN ?_ | refine xq_scopeN ?_)
      with_reducible repeat refine xc_seq ?_
      with_reducible refine xc_region ?_
      refine xo_add rfl rfl rfl (by omega) rfl ?_
      refine xo_mv rfl rfl rfl ?_
      with_reducible refine xo_nil ?_
      with_reducible repeat (first | refine xq_then ?_ | refine xq_blockN ?_ | refine xq_scopeN ?_)
      refine xq_again _ _ _ _ _ (k + 1, r') ⟨hlt, fun h => absurd h hr'⟩ (by first | omega | (simp only; omega)) ⟨rfl, by simp only [hs8]; rfl, by simp only [hs9]; rfl, rfl, rfl, rfl, trivial⟩ ?_
      simp only [hs8, hs7]
      exact List.Sublist.refl _
    · have h0 : ¬ 0 < outF m ((heldF r l day).getD k 0) := of_decide_eq_false h0
      rw [if_neg h0, List.append_nil] at hsk
      with_reducible refine xc_skip ?_
      with_reducible repeat (first | refine xq_then ?_ | refine xq_blockN ?_ | refine xq_scopeN ?_)
      with_reducible repeat refine xc_seq ?_
      with_reducible refine xc_region ?_
      refine xo_add rfl rfl rfl (by omega) rfl ?_
      refine xo_mv rfl rfl rfl ?_
      with_reducible refine xo_nil ?_
      with_reducible repeat (first | refine xq_then ?_ | refine xq_blockN ?_ | refine xq_scopeN ?_)
      refine xq_again _ _ _ _ _ (k + 1, rr) ⟨hlt, by rw [hsk]; exact hrr⟩ (by first | omega | (simp only; omega)) ⟨rfl, by simp only [hsk]; rfl, by simp only [hsk]; rfl, rfl, rfl, rfl, trivial⟩ ?_
      simp only [hsk]
      exact List.Sublist.refl _
  · have hge : ¬ k < (heldF r l day).length := by have := of_decide_eq_false h; omega
    have hall : (((heldF r l day).take k).filter fun n => decide (0 < outF m n)) = recallR r l m day := by rw [e2, List.take_of_length_le (by omega)]
    simp only [hall] at hrr ⊢
    with_reducible refine xc_exit ?_
    with_reducible repeat (first | refine xq_blockX ?_ | refine xq_thenE ?_ | refine xq_blockE rfl ?_ | refine xq_scopeE ?_)
    with_reducible repeat (first | refine xq_then ?_ | refine xq_blockN ?_ | refine xq_scopeN ?_)
    with_reducible repeat refine xc_seq ?_
    with_reducible refine xc_region ?_
    refine xo_mv rfl rfl rfl ?_
    refine xo_mv rfl rfl rfl ?_
    refine xo_asg rfl rfl rfl ?_
    refine xo_asg rfl rfl rfl ?_
    refine xo_asg rfl rfl rfl ?_
    with_reducible refine xo_nil ?_
    with_reducible repeat (first | refine xq_then ?_ | refine xq_blockN ?_ | refine xq_scopeN ?_)
    with_reducible repeat refine xc_seq ?_
    with_reducible refine xc_ret ?_
    with_reducible repeat (first | refine xq_thenR ?_ | refine xq_blockR ?_ | refine xq_scopeR ?_)
    refine xq_perm (η' := (D, true, hdef) :: (hpR 3 1 rr (recallR r l m day).length ((recallR r l m day).map (.int .i64)) ++ (hpR 3 1 r11 (heldF r l day).length ((heldF r l day).map (.int .i64)) ++ ((b12, true, cel [.map (some M)] 80) :: (M, true, hmap (stM (delL L (holdsF r (goneF r l day))))) :: (stH (storeF m) L ++ []))))) (by rw [← List.append_assoc, ← List.append_assoc]; exact List.perm_middle) ?_
    exact xq_retM3 rfl rfl rfl rfl fun w' hw => ⟨rr, by rw [e0, ho]; rfl, RowAt.of hw hrr, hw.kx.below⟩
theorem recall_enters : ∀ args w, (callFunc 15 args).run Tryd.prog w = .ok (.enter 15 args) w := enters_of Tryd.func15 (by kernel_rfl) rfl
end Go.Proofs.YtcmepdamemnbkaaDoor
