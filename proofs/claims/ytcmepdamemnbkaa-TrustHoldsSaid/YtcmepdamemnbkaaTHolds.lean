/- trust.open, Holds, Takes. -/
import Derived.Test.YtcmepdamemnbkaaTIter
import Derived.Test.YtcmepdamemnbkaaTDel
namespace Go.Proofs.Ytcmepdamemnbkaa
open Go.RowKit Go.Proofs.YtcmepdamemnbkaaW.PrintWords
set_option linter.unusedVariables false
set_option linter.unusedSimpArgs false
def openF (r : List RecT) (l : List LetT) (day : Int) (ids : List Int) : Int := if checkF r l = 0 then (if inF 0 100000 day then (if ids.all (knownF r) then 0 else 6) else 2) else checkF r l
theorem on_enters : ∀ args w, (callFunc 45 args).run Try.prog w = .ok (.enter 45 args) w := enters_of Try.func45 (by kernel_rfl) rfl
set_option maxHeartbeats 4000000 in
theorem open_calls (A B D : Option Addr) (c c' c2 : Nat) (r : List RecT) (l : List LetT) (day : Int) (ids : List Int) (w : World) (hr : Kd.C recK w A r.length r) (hl : Kd.C letK w B l.length l) (hi : Kd.C (Kd.int .i64) w D ids.length ids) (hk : Bytes r) (hkl : BytesL l) :
    Calls Try.prog 20 #[.slice A r.length c, .slice B l.length c', .int .i64 day, .slice D ids.length c2] w fun e w' => ∃ sv : List Value, e = .returned (.tuple #[.agg sv.toArray, .int .i64 (openF r l day ids)]) ∧ Below w.heap.size w w' ∧
      (openF r l day ids ≠ 0 → sv = [.slice none 0 0, .map none]) ∧ (openF r l day ids = 0 → ∃ M, sv = [.slice A r.length c, .map (some M)] ∧ w.heap.size ≤ M ∧ IMap w' M (setV (goneF r l day))) := by
  have hn := hi.2.1
  refine x_calls (X := XNone) Try.func20 rfl rfl rfl ?_
  with_reducible repeat refine xc_seq ?_
  with_reducible refine xc_region ?_
  refine xo_alloc T_ rfl rfl rfl rfl (fun b8 => ?_)
  refine xo_asg rfl rfl rfl ?_
  with_reducible refine xo_nil ?_
  with_reducible repeat (first | refine xq_then ?_ | refine xq_blockN ?_ | refine xq_scopeN ?_)
  with_reducible repeat refine xc_seq ?_
  with_reducible refine xc_region ?_
  refine xo_mv rfl rfl rfl ?_
  refine xo_mv rfl rfl rfl ?_
  refine xo_callB (fs := []) (cs := []) rfl rfl rfl check_enters rfl (fun w1 hw1 => check_calls A B c c' r l w1 (Kd.C_below hr hw1.kx.below) (Kd.C_below hl hw1.kx.below) hk hkl) ?_
  refine xo_asg rfl rfl rfl ?_
  with_reducible refine xo_nil ?_
  with_reducible repeat (first | refine xq_then ?_ | refine xq_blockN ?_ | refine xq_scopeN ?_)
  with_reducible repeat refine xc_seq ?_
  with_reducible refine xc_region ?_
  refine xo_mv rfl rfl rfl ?_
  refine xo_neq rfl rfl rfl rfl ?_
  with_reducible refine xo_nil ?_
  with_reducible repeat (first | refine xq_then ?_ | refine xq_blockN ?_ | refine xq_scopeN ?_)
  with_reducible repeat refine xc_seq ?_
  refine xc_cond rfl (fun h => ?_) (fun h => ?_)
  · have hc : ¬ checkF r l = 0 := by simpa using h
    have ho : openF r l day ids = checkF r l := if_neg hc
    with_reducible repeat refine xc_seq ?_
    with_reducible refine xc_region ?_
    refine xo_build TB_ rfl rfl rfl rfl rfl ?_
    refine xo_mv rfl rfl rfl ?_
    refine xo_store T_ rfl rfl rfl rfl (by repeat (first | exact List.Mem.head _ | apply List.Mem.tail | apply List.mem_append_right)) rfl rfl rfl rfl (by repeat (first | exact Upd.head | apply Upd.tail | apply Upd.app)) rfl ?_
    refine xo_asg rfl rfl rfl ?_
    with_reducible refine xo_nil ?_
    with_reducible repeat (first | refine xq_then ?_ | refine xq_blockN ?_ | refine xq_scopeN ?_)
    with_reducible repeat refine xc_seq ?_
    with_reducible refine xc_ret ?_
    with_reducible repeat (first | refine xq_thenR ?_ | refine xq_blockR ?_ | refine xq_scopeR ?_)
    exact xq_retC1 T_ rfl rfl rfl rfl (by repeat (first | exact List.Mem.head _ | apply List.Mem.tail | apply List.mem_append_right)) rfl fun w' hw => ⟨_, by rw [ho], hw.kx.below, fun _ => rfl, fun h => absurd (ho ▸ h) hc⟩
  have hc : checkF r l = 0 := by simpa using h
  with_reducible refine xc_skip ?_
  with_reducible repeat (first | refine xq_then ?_ | refine xq_blockN ?_ | refine xq_scopeN ?_)
  with_reducible repeat refine xc_seq ?_
  with_reducible refine xc_region ?_
  refine xo_mv rfl rfl rfl ?_
  refine xo_bs1 T_ rfl rfl rfl rfl rfl rfl rfl rfl (fun b21 => ?_)
  refine xo_callB (fs := []) (cs := []) rfl rfl rfl in_enters rfl (fun w1 hw1 => in_calls hw1 _ _ _ (by repeat (first | exact List.Mem.head _ | apply List.Mem.tail | apply List.mem_append_right))) ?_
  refine xo_notOp rfl rfl rfl ?_
  with_reducible refine xo_nil ?_
  with_reducible repeat (first | refine xq_then ?_ | refine xq_blockN ?_ | refine xq_scopeN ?_)
  with_reducible repeat refine xc_seq ?_
  refine xc_cond rfl (fun hd => ?_) (fun hd => ?_)
  · have ho : openF r l day ids = 2 := by
      simp only [Bool.not_eq_true'] at hd
      simp [openF, hc, hd]
    with_reducible repeat refine xc_seq ?_
    with_reducible refine xc_region ?_
    refine xo_build TB_ rfl rfl rfl rfl rfl ?_
    refine xo_store T_ rfl rfl rfl rfl (by repeat (first | exact List.Mem.head _ | apply List.Mem.tail | apply List.mem_append_right)) rfl rfl rfl rfl (by repeat (first | exact Upd.head | apply Upd.tail | apply Upd.app)) rfl ?_
    refine xo_asg rfl rfl rfl ?_
    with_reducible refine xo_nil ?_
    with_reducible repeat (first | refine xq_then ?_ | refine xq_blockN ?_ | refine xq_scopeN ?_)
    with_reducible repeat refine xc_seq ?_
    with_reducible refine xc_ret ?_
    with_reducible repeat (first | refine xq_thenR ?_ | refine xq_blockR ?_ | refine xq_scopeR ?_)
    exact xq_retC1 T_ rfl rfl rfl rfl (by repeat (first | exact List.Mem.head _ | apply List.Mem.tail | apply List.mem_append_right)) rfl fun w' hw => ⟨_, by rw [ho], hw.kx.below, fun _ => rfl, fun h => by rw [ho] at h; cases h⟩
  simp only [Bool.not_eq_false'] at hd
  with_reducible refine xc_skip ?_
  with_reducible repeat (first | refine xq_then ?_ | refine xq_blockN ?_ | refine xq_scopeN ?_)
  with_reducible repeat refine xc_seq ?_
  with_reducible refine xc_region ?_
  refine xo_mv rfl rfl rfl ?_
  refine xo_len T_ rfl rfl rfl rfl ?_
  refine xo_mv rfl rfl rfl ?_
  with_reducible refine xo_nil ?_
  with_reducible repeat (first | refine xq_then ?_ | refine xq_blockN ?_ | refine xq_scopeN ?_)
  with_reducible repeat refine xc_seq ?_
  with_reducible refine xc_block ?_
  refine xc_loop (γ := Nat) (fun k => k ≤ ids.length ∧ ids.all (knownF r) = (ids.drop k).all (knownF r)) (fun k => [(0, .slice A r.length c), (1, .slice B l.length c'), (2, .int .i64 day), (8, .pointer (some ⟨b8, 0, none⟩)), (25, .slice D ids.length c2), (26, .int .i64 (ids.length : Int)), (27, .int .i64 (k : Int))])
    (fun _ => [(b8, true, cel [.slice none 0 0, .map none] 46)]) (fun k => ids.length - k) 0 ⟨Nat.zero_le _, rfl⟩ ⟨rfl, rfl, rfl, rfl, rfl, rfl, rfl, trivial⟩ (by repeat (first | exact List.Sublist.refl _ | apply List.Sublist.cons_cons | apply List.Sublist.cons | exact List.nil_sublist _)) ?_
  rintro k ⟨hk1, hall⟩
  with_reducible repeat refine xc_seq ?_
  with_reducible refine xc_region ?_
  refine xo_lss rfl rfl rfl rfl ?_
  with_reducible refine xo_nil ?_
  with_reducible repeat (first | refine xq_then ?_ | refine xq_blockN ?_ | refine xq_scopeN ?_)
  with_reducible repeat refine xc_seq ?_
  refine xc_cond rfl (fun h2 => ?_) (fun h2 => ?_)
  · have hlt : k < ids.length := by have := of_decide_eq_true h2; omega
    obtain ⟨ad, rfl, r1⟩ := int_at hi k hlt
    rw [drop_at ids 0 k hlt, List.all_cons] at hall
    generalize ids.getD k 0 = y at *
    with_reducible refine xc_skip ?_
    with_reducible repeat (first | refine xq_then ?_ | refine xq_blockN ?_ | refine xq_scopeN ?_)
    with_reducible repeat refine xc_seq ?_
    with_reducible refine xc_block ?_
    with_reducible repeat refine xc_seq ?_
    with_reducible refine xc_region ?_
    refine xo_ia T_ rfl rfl rfl rfl rfl ⟨by omega, by omega⟩ rfl ?_
    refine xo_loadR0 T_ rfl rfl rfl (by assumption) rfl ?_
    refine xo_asg rfl rfl rfl ?_
    with_reducible refine xo_nil ?_
    with_reducible repeat (first | refine xq_then ?_ | refine xq_blockN ?_ | refine xq_scopeN ?_)
    with_reducible repeat refine xc_seq ?_
    with_reducible refine xc_region ?_
    refine xo_mv rfl rfl rfl ?_
    refine xo_mv rfl rfl rfl ?_
    refine xo_callB (fs := []) (cs := []) rfl rfl rfl known_enters rfl (fun w1 hw1 => known_calls A c r _ w1 (Kd.C_below hr hw1.kx.below)) ?_
    refine xo_notOp rfl rfl rfl ?_
    with_reducible refine xo_nil ?_
    with_reducible repeat (first | refine xq_then ?_ | refine xq_blockN ?_ | refine xq_scopeN ?_)
    with_reducible repeat refine xc_seq ?_
    refine xc_cond rfl (fun h3 => ?_) (fun h3 => ?_)
    · have ho : openF r l day ids = 6 := by
        simp only [Bool.not_eq_true'] at h3
        simp [openF, hc, hd, hall, h3]
      with_reducible repeat refine xc_seq ?_
      with_reducible refine xc_region ?_
      refine xo_build TB_ rfl rfl rfl rfl rfl ?_
      refine xo_store T_ rfl rfl rfl rfl (by repeat (first | exact List.Mem.head _ | apply List.Mem.tail | apply List.mem_append_right)) rfl rfl rfl rfl (by repeat (first | exact Upd.head | apply Upd.tail | apply Upd.app)) rfl ?_
      refine xo_asg rfl rfl rfl ?_
      with_reducible refine xo_nil ?_
      with_reducible repeat (first | refine xq_then ?_ | refine xq_blockN ?_ | refine xq_scopeN ?_)
      with_reducible repeat refine xc_seq ?_
      with_reducible refine xc_ret ?_
      with_reducible repeat (first | refine xq_thenR ?_ | refine xq_blockR ?_ | refine xq_scopeR ?_)
      exact xq_retC1 T_ rfl rfl rfl rfl (by repeat (first | exact List.Mem.head _ | apply List.Mem.tail | apply List.mem_append_right)) rfl fun w' hw => ⟨_, by rw [ho], hw.kx.below, fun _ => rfl, fun h => by rw [ho] at h; cases h⟩
    · simp only [Bool.not_eq_false'] at h3
      with_reducible refine xc_skip ?_
      with_reducible repeat (first | refine xq_then ?_ | refine xq_blockN ?_ | refine xq_scopeN ?_)
      with_reducible repeat refine xc_seq ?_
      with_reducible refine xc_region ?_
      refine xo_add rfl rfl rfl (by omega) rfl ?_
      refine xo_mv rfl rfl rfl ?_
      with_reducible refine xo_nil ?_
      with_reducible repeat (first | refine xq_then ?_ | refine xq_blockN ?_ | refine xq_scopeN ?_)
      exact xq_again _ _ _ _ _ (k + 1) ⟨hlt, by rw [hall, h3, Bool.true_and]⟩ (by omega) ⟨rfl, rfl, rfl, rfl, rfl, rfl, rfl, trivial⟩ (by repeat (first | exact List.Sublist.refl _ | apply List.Sublist.cons_cons | apply List.Sublist.cons | exact List.nil_sublist _))
  · have hge : ¬ k < ids.length := by have := of_decide_eq_false h2; omega
    rw [List.drop_of_length_le (by omega)] at hall
    have ho : openF r l day ids = 0 := by simp [openF, hc, hd, hall]
    with_reducible refine xc_exit ?_
    with_reducible repeat (first | refine xq_blockX ?_ | refine xq_thenE ?_ | refine xq_blockE rfl ?_ | refine xq_scopeE ?_)
    with_reducible repeat (first | refine xq_then ?_ | refine xq_blockN ?_ | refine xq_scopeN ?_)
    with_reducible repeat refine xc_seq ?_
    with_reducible refine xc_region ?_
    refine xo_mv rfl rfl rfl ?_
    refine xo_mv rfl rfl rfl ?_
    refine xo_mv rfl rfl rfl ?_
    refine xo_call (fs := []) (cs := []) rfl rfl rfl on_enters rfl (fun w1 hw1 => (on_calls A B c c' r l day w1 (Kd.C_below hr hw1.kx.below) (Kd.C_below hl hw1.kx.below)).mono ?_)
    rintro e w2 ⟨M, rfl, hM1, hM2, hb⟩
    obtain ⟨oM, hM3, hM4⟩ := hmap_of hM2
    refine ⟨_, _, rfl, hw1.more hb hM1 hM3 hM4, ?_⟩
    refine xo_store T_ rfl rfl rfl rfl (by repeat (first | exact List.Mem.head _ | apply List.Mem.tail | apply List.mem_append_right)) rfl rfl rfl rfl (by repeat (first | exact Upd.head | apply Upd.tail | apply Upd.app)) rfl ?_
    refine xo_asg rfl rfl rfl ?_
    with_reducible refine xo_nil ?_
    with_reducible repeat (first | refine xq_then ?_ | refine xq_blockN ?_ | refine xq_scopeN ?_)
    with_reducible repeat refine xc_seq ?_
    with_reducible refine xc_ret ?_
    with_reducible repeat (first | refine xq_thenR ?_ | refine xq_blockR ?_ | refine xq_scopeR ?_)
    exact xq_retC1 T_ rfl rfl rfl rfl (by repeat (first | exact List.Mem.head _ | apply List.Mem.tail | apply List.mem_append_right)) rfl fun w' hw => ⟨_, by rw [ho], hw.kx.below, fun h => absurd ho h, fun _ => ⟨M, rfl, hw.own (List.Mem.head _), hw.imap (wr := true) (by repeat (first | exact List.Mem.head _ | apply List.Mem.tail | apply List.mem_append_right))⟩⟩
theorem open_enters : ∀ args w, (callFunc 20 args).run Try.prog w = .ok (.enter 20 args) w := enters_of Try.func20 (by kernel_rfl) rfl
theorem holdsL_len (gone : List Int) : ∀ (r : List RecT) (bs : List Int), (holdsL gone bs r).length ≤ r.length
  | [], _ => by simp [holdsL]
  | x :: r, bs => by
    unfold holdsL
    split
    · have := holdsL_len gone r bs; simp; omega
    · have := holdsL_len gone r (insN x.f0 bs); simp; omega
theorem openF_len {r : List RecT} {l : List LetT} {day : Int} {ids : List Int} (h : openF r l day ids = 0) : r.length ≤ 12 := by
  unfold openF at h
  split at h
  · rename_i hc
    unfold checkF at hc
    split at hc
    · rename_i hr
      unfold recordedF at hr
      simp only [Bool.and_eq_true, decide_eq_true_eq] at hr
      exact hr.2
    · cases hc
  · rename_i hc
    exact absurd h hc
def holdsR (r : List RecT) (l : List LetT) (day : Int) : List Int := if openF r l day [] = 0 then holdsF r (goneF r l day) else []
set_option maxHeartbeats 4000000 in
theorem trustHolds_calls (A B : Option Addr) (c c' : Nat) (r : List RecT) (l : List LetT) (day : Int) (w : World) (hr : Kd.C recK w A r.length r) (hl : Kd.C letK w B l.length l) (hk : Bytes r) (hkl : BytesL l) :
    Calls Try.prog 7 #[.slice A r.length c, .slice B l.length c', .int .i64 day] w fun e w' => ∃ rr : RowR, e = .returned (.tuple #[valR rr (holdsR r l day).length, .int .i64 (openF r l day [])]) ∧ RowAt 3 w.heap.size w' rr (holdsR r l day) ∧ Below w.heap.size w w' := by
  refine x_calls (X := XNone) Try.func7 rfl rfl rfl ?_
  with_reducible repeat refine xc_seq ?_
  with_reducible refine xc_region ?_
  refine xo_asg rfl rfl rfl ?_
  refine xo_asg rfl rfl rfl ?_
  with_reducible refine xo_nil ?_
  with_reducible repeat (first | refine xq_then ?_ | refine xq_blockN ?_ | refine xq_scopeN ?_)
  with_reducible repeat refine xc_seq ?_
  with_reducible refine xc_region ?_
  refine xo_mv rfl rfl rfl ?_
  refine xo_mv rfl rfl rfl ?_
  refine xo_mv rfl rfl rfl ?_
  refine xo_call (fs := []) (cs := []) rfl rfl rfl open_enters rfl (fun w1 hw1 => (open_calls A B none c c' 0 r l day [] w1 (Kd.C_below hr hw1.kx.below) (Kd.C_below hl hw1.kx.below) (Kd.C_nil _ _) hk hkl).mono ?_)
  rintro e w2 ⟨sv, rfl, hb, hne, h0⟩
  by_cases ho : openF r l day [] = 0
  · obtain ⟨M, rfl, hM1, hM2⟩ := h0 ho
    obtain ⟨oM, hM3, hM4⟩ := hmap_of hM2
    rw [ho]
    refine ⟨_, _, rfl, hw1.more hb hM1 hM3 hM4, ?_⟩
    clear hb hM2 hM3 hM4 hne h0 hM1
    have hlen : (holdsF r (goneF r l day)).length ≤ 1000000 := by have := holdsL_len (goneF r l day) r []; have := openF_len ho; unfold holdsF; omega
    refine xo_mv rfl rfl rfl ?_
    refine xo_ext rfl rfl rfl rfl ?_
    refine xo_ext rfl rfl rfl rfl ?_
    refine xo_alloc T_ rfl rfl rfl rfl (fun b8 => ?_)
    refine xo_store T_ rfl rfl rfl rfl (by repeat (first | exact List.Mem.head _ | apply List.Mem.tail | apply List.mem_append_right)) rfl rfl rfl rfl (by repeat (first | exact Upd.head | apply Upd.tail | apply Upd.app)) rfl ?_
    refine xo_asg rfl rfl rfl ?_
    with_reducible refine xo_nil ?_
    with_reducible repeat (first | refine xq_then ?_ | refine xq_blockN ?_ | refine xq_scopeN ?_)
    with_reducible repeat refine xc_seq ?_
    with_reducible refine xc_region ?_
    refine xo_mv rfl rfl rfl ?_
    refine xo_neq rfl rfl rfl rfl ?_
    with_reducible refine xo_nil ?_
    with_reducible repeat (first | refine xq_then ?_ | refine xq_blockN ?_ | refine xq_scopeN ?_)
    with_reducible repeat refine xc_seq ?_
    refine xc_condF rfl ?_
    with_reducible refine xc_skip ?_
    with_reducible repeat (first | refine xq_then ?_ | refine xq_blockN ?_ | refine xq_scopeN ?_)
    with_reducible repeat refine xc_seq ?_
    with_reducible refine xc_region ?_
    refine xo_loadN T_ rfl rfl rfl (by repeat (first | exact List.Mem.head _ | apply List.Mem.tail | apply List.mem_append_right)) rfl rfl ?_
    refine xo_fa T_ rfl rfl rfl rfl rfl ?_
    refine xo_load0 T_ rfl rfl rfl (by repeat (first | exact List.Mem.head _ | apply List.Mem.tail | apply List.mem_append_right)) rfl rfl ?_
    refine xo_holds rfl rfl rfl rfl (fun b2 b3 => ?_)
    refine xo_collect (r := r) hr (by have := openF_len ho; omega) rfl rfl (by repeat (first | exact List.Mem.head _ | apply List.Mem.tail | apply List.mem_append_right)) (by repeat (first | exact List.Mem.head _ | apply List.Mem.tail | apply List.mem_append_right)) (by repeat (first | exact List.Mem.head _ | apply List.Mem.tail | apply List.mem_append_right)) (fun w1 hw1 => ne_of_nd hw1) rfl (fun rr hrr => ?_)
    refine xo_asg rfl rfl rfl ?_
    refine xo_asg rfl rfl rfl ?_
    with_reducible refine xo_nil ?_
    with_reducible repeat (first | refine xq_then ?_ | refine xq_blockN ?_ | refine xq_scopeN ?_)
    with_reducible repeat refine xc_seq ?_
    with_reducible refine xc_ret ?_
    with_reducible repeat (first | refine xq_thenR ?_ | refine xq_blockR ?_ | refine xq_scopeR ?_)
    refine xq_ret2 rfl rfl rfl fun w' hw => ⟨rr, by rw [holdsR, if_pos ho], ?_, hw.kx.below⟩
    rw [holdsR, if_pos ho]
    exact RowAt.of hw hrr
  · obtain rfl := hne ho
    refine ⟨_, _, rfl, hw1.below hb, ?_⟩
    clear hb hne h0
    refine xo_mv rfl rfl rfl ?_
    refine xo_ext rfl rfl rfl rfl ?_
    refine xo_ext rfl rfl rfl rfl ?_
    refine xo_alloc T_ rfl rfl rfl rfl (fun b8 => ?_)
    refine xo_store T_ rfl rfl rfl rfl (by repeat (first | exact List.Mem.head _ | apply List.Mem.tail | apply List.mem_append_right)) rfl rfl rfl rfl (by repeat (first | exact Upd.head | apply Upd.tail | apply Upd.app)) rfl ?_
    refine xo_asg rfl rfl rfl ?_
    with_reducible refine xo_nil ?_
    with_reducible repeat (first | refine xq_then ?_ | refine xq_blockN ?_ | refine xq_scopeN ?_)
    have hd : (!decide (openF r l day [] = 0)) = true := by simp [ho]
    with_reducible repeat refine xc_seq ?_
    with_reducible refine xc_region ?_
    refine xo_mv rfl rfl rfl ?_
    refine xo_neq rfl rfl rfl rfl ?_
    refine xo_as (i := 18) rfl (congrArg Value.bool hd) ?_
    with_reducible refine xo_nil ?_
    with_reducible repeat (first | refine xq_then ?_ | refine xq_blockN ?_ | refine xq_scopeN ?_)
    with_reducible repeat refine xc_seq ?_
    refine xc_condT rfl ?_
    with_reducible repeat refine xc_seq ?_
    with_reducible refine xc_region ?_
    refine xo_mv rfl rfl rfl ?_
    refine xo_asg rfl rfl rfl ?_
    refine xo_asg rfl rfl rfl ?_
    with_reducible refine xo_nil ?_
    with_reducible repeat (first | refine xq_then ?_ | refine xq_blockN ?_ | refine xq_scopeN ?_)
    with_reducible repeat refine xc_seq ?_
    with_reducible refine xc_ret ?_
    with_reducible repeat (first | refine xq_thenR ?_ | refine xq_blockR ?_ | refine xq_scopeR ?_)
    refine xq_ret2 rfl rfl rfl fun w' hw => ⟨none, by rw [holdsR, if_neg ho]; rfl, ?_, hw.kx.below⟩
    rw [holdsR, if_neg ho]
    exact ⟨fun _ => rfl, fun p hp => by cases hp⟩
end Go.Proofs.Ytcmepdamemnbkaa
