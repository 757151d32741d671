/- ref08.Takes. -/
import Derived.Test.YtcmepdamemnbkaaRHolds
namespace Go.Proofs.Ytcmepdamemnbkaa
open Go.RowKit Go.Proofs.YtcmepdamemnbkaaW.PrintWords
set_option linter.unusedVariables false
set_option linter.unusedSimpArgs false
theorem inB_at {r : List RecT} {H : List Int} {i : Nat} : (inB r H)[i]? = if i < r.length then some (decide (idAt r i ∈ H)) else none := by
  by_cases h : i < r.length
  · simp [inB, idAt, h, List.getD_eq_getElem?_getD, List.getElem?_eq_getElem h]
  · simp [inB, h]
theorem in_upd {r : List RecT} {G : List Int} {id : Int} {k b : Nat} {t : TypeId} {e : Nat × Bool × HP} {η : Hp} (hs : SortedIds r) (hk : k < r.length) (hid : idAt r k = id) :
    Upd b (cel (((inB r G).map Value.bool).set (0 + (k : Int).toNat * szN 0) (.bool true)) t) (e :: (b, true, cel ((inB r G).map Value.bool) t) :: η) (e :: (b, true, cel ((inB r (insN id G)).map Value.bool) t) :: η) := by
  have : ((inB r G).set k true) = inB r (insN id G) := by
    apply List.ext_getElem?
    intro i
    rw [List.getElem?_set, inB_at, inB_at, inB_len]
    by_cases h : i < r.length
    · by_cases e : k = i
      · subst e; simp [h, hid, mem_insN]
      · simp only [e, if_false, h, if_true]
        have : idAt r i ≠ id := fun q => e (sorted_inj hs hk h (hid.trans q.symm))
        congr 1
        rw [decide_eq_decide, mem_insN]
        exact ⟨.inr, fun q => q.resolve_left this⟩
    · by_cases e : k = i
      · subst e; omega
      · simp [e, h]
  rw [show 0 + (k : Int).toNat * szN 0 = k by simp [szN], ← List.map_set, this]
  exact Upd.tail Upd.head
theorem in_load {r : List RecT} {H : List Int} {k : Nat} (hk : k < r.length) : ((inB r H).map Value.bool)[0 + (k : Int).toNat * szN 0]? = some (.bool (decide (idAt r k ∈ H))) := by
  rw [show 0 + (k : Int).toNat * szN 0 = k by simp [szN], List.getElem?_map, inB_at, if_pos hk]
  rfl
def mixB (r : List RecT) (H H2 : List Int) (k : Nat) : List Bool := (List.range r.length).map fun i => decide (idAt r i ∈ H) && !(decide (i < k) && decide (idAt r i ∈ H2))
theorem mixB_len (r : List RecT) (H H2 : List Int) (k : Nat) : (mixB r H H2 k).length = r.length := by simp [mixB]
theorem mixB_at {r : List RecT} {H H2 : List Int} {k i : Nat} : (mixB r H H2 k)[i]? = if i < r.length then some (decide (idAt r i ∈ H) && !(decide (i < k) && decide (idAt r i ∈ H2))) else none := by
  by_cases h : i < r.length
  · simp [mixB, h]
  · simp [mixB, h]
theorem mixB_zero (r : List RecT) (H H2 : List Int) : mixB r H H2 0 = inB r H := by
  apply List.ext_getElem?
  intro i
  rw [mixB_at, inB_at]
  simp
theorem mixB_full (r : List RecT) (H H2 : List Int) : mixB r H H2 r.length = pB r fun n => decide (n ∈ H) && !decide (n ∈ H2) := by
  apply List.ext_getElem?
  intro i
  rw [mixB_at]
  by_cases h : i < r.length
  · simp [pB, h, idAt, List.getD_eq_getElem?_getD, List.getElem?_eq_getElem h]
  · simp [pB, h]
theorem mix_load {r : List RecT} {H H2 : List Int} {k : Nat} {q : Bool} (hk : k < r.length) (hq : decide (idAt r k ∈ H) = q) : ((mixB r H H2 k).map Value.bool)[0 + (k : Int).toNat * szN 0]? = some (.bool q) := by
  rw [show 0 + (k : Int).toNat * szN 0 = k by simp [szN], List.getElem?_map, mixB_at, if_pos hk, hq]
  simp
theorem mix_upd {r : List RecT} {H H2 : List Int} {k b : Nat} {v : Bool} {t : TypeId} {e : Nat × Bool × HP} {η : Hp} (hk : k < r.length) (hv : v = (decide (idAt r k ∈ H) && !decide (idAt r k ∈ H2))) :
    Upd b (cel (((mixB r H H2 k).map Value.bool).set (0 + (k : Int).toNat * szN 0) (.bool v)) t) (e :: (b, true, cel ((mixB r H H2 k).map Value.bool) t) :: η) (e :: (b, true, cel ((mixB r H H2 (k + 1)).map Value.bool) t) :: η) := by
  have : ((mixB r H H2 k).set k v) = mixB r H H2 (k + 1) := by
    apply List.ext_getElem?
    intro i
    rw [List.getElem?_set, mixB_at, mixB_at, mixB_len]
    by_cases h : i < r.length
    · by_cases e : k = i
      · subst e; simp [h, hv]
      · simp only [e, if_false, h, if_true]
        rw [show decide (i < k + 1) = decide (i < k) from decide_eq_decide.2 (by omega)]
    · by_cases e : k = i
      · subst e; omega
      · simp [e, h]
  rw [show 0 + (k : Int).toNat * szN 0 = k by simp [szN], ← List.map_set, this]
  exact Upd.tail Upd.head
theorem idsF_and (r : List RecT) (p q : Int → Bool) : idsF r (fun n => p n && q n) = (idsF r p).filter q := by
  unfold idsF
  rw [List.filter_map, List.filter_filter]
  congr 1
  refine List.filter_congr fun x _ => ?_
  simp [Bool.and_comm]
set_option maxHeartbeats 16000000 in
theorem refTakes_calls (A B : Option Addr) (c c' : Nat) (r : List RecT) (l : List LetT) (day id : Int) (w : World) (hr : Kd.C recK w A r.length r) (hl : Kd.C letK w B l.length l) (hk : Bytes r) (hkl : BytesL l) :
    Calls Try.prog 10 #[.slice A r.length c, .slice B l.length c', .int .i64 day, .int .i64 id] w fun e w' => ∃ rr : RowR, e = .returned (.tuple #[valR rr (takesR r l day id).length, .int .i64 (openF r l day [id])]) ∧ RowAt 3 w.heap.size w' rr (takesR r l day id) ∧ Below w.heap.size w w' := by
  refine x_calls (X := XNone) Try.func10 rfl rfl rfl ?_
  with_reducible repeat refine xc_seq ?_
  with_reducible refine xc_region ?_
  refine xo_asg rfl rfl rfl ?_
  refine xo_asg rfl rfl rfl ?_
  with_reducible refine xo_nil ?_
  with_reducible repeat (first | refine xq_then ?_ | refine xq_blockN ?_ | refine xq_scopeN ?_)
  by_cases ho : openF r l day [id] = 0
  rotate_left
  · have hd : (!decide (openF r l day [id] = 0)) = true := by simp [ho]
    with_reducible repeat refine xc_seq ?_
    with_reducible refine xc_region ?_
    refine xo_mv rfl rfl rfl ?_
    refine xo_mv rfl rfl rfl ?_
    refine xo_mv rfl rfl rfl ?_
    refine xo_mv rfl rfl rfl ?_
    refine xo_call (fs := []) (cs := []) rfl rfl rfl refOpen_enters rfl (fun w1 hw1 => (refOpen_calls A B c c' r l day id w1 (Kd.C_below hr hw1.kx.below) (Kd.C_below hl hw1.kx.below) hk hkl).mono ?_)
    rintro e w2 ⟨a, v1, v2, rfl, hb, _⟩
    refine ⟨_, _, rfl, hw1.below hb, ?_⟩
    refine xo_mv rfl rfl rfl ?_
    refine xo_ext rfl rfl rfl rfl ?_
    refine xo_ext rfl rfl rfl rfl ?_
    refine xo_ext rfl rfl rfl rfl ?_
    refine xo_ext rfl rfl rfl rfl ?_
    refine xo_asg rfl rfl rfl ?_
    refine xo_asg rfl rfl rfl ?_
    refine xo_asg rfl rfl rfl ?_
    refine xo_asg rfl rfl rfl ?_
    with_reducible refine xo_nil ?_
    with_reducible repeat (first | refine xq_then ?_ | refine xq_blockN ?_ | refine xq_scopeN ?_)
    with_reducible repeat refine xc_seq ?_
    with_reducible refine xc_region ?_
    refine xo_mv rfl rfl rfl ?_
    refine xo_neq rfl rfl rfl rfl ?_
    refine xo_as (i := 27) rfl (congrArg Value.bool hd) ?_
    with_reducible refine xo_nil ?_
    with_reducible repeat (first | refine xq_then ?_ | refine xq_blockN ?_ | refine xq_scopeN ?_)
    with_reducible repeat refine xc_seq ?_
    refine xc_condT rfl ?_
    with_reducible repeat refine xc_seq ?_
    with_reducible refine xc_region ?_
    refine xo_mv rfl rfl rfl ?_
    refine xo_asg rfl rfl rfl ?_
    refine xo_asg rfl rfl rfl ?_
    with_reducible refine xo_nil ?_
    with_reducible repeat (first | refine xq_then ?_ | refine xq_blockN ?_ | refine xq_scopeN ?_)
    with_reducible repeat refine xc_seq ?_
    with_reducible refine xc_ret ?_
    with_reducible repeat (first | refine xq_thenR ?_ | refine xq_blockR ?_ | refine xq_scopeR ?_)
    refine xq_ret2 rfl rfl rfl fun w' hw => ⟨none, by rw [takesR, if_neg ho]; rfl, ?_, hw.kx.below⟩
    rw [takesR, if_neg ho]
    exact ⟨fun _ => rfl, fun p hp => by cases hp⟩
  have hd : (!decide (openF r l day [id] = 0)) = false := by simp [ho]
  have hck : checkF r l = 0 := by
    unfold openF at ho
    split at ho
    · assumption
    · exact absurd ho (by assumption)
  have hok := check_zero hck
  have hlen := recorded_len hok
  have hsrt := sorted_of hok
  have hkn : knownF r id = true := by
    unfold openF at ho
    rw [if_pos hck] at ho
    split at ho
    · split at ho
      · rename_i h; simpa using h
      · cases ho
    · cases ho
  have hT : takesR r l day id = idsF r (fun n => decide (n ∈ holdsF r (goneF r l day)) && !decide (n ∈ holdsF r (insN id (goneF r l day)))) := by
    rw [takesR, if_pos ho, idsF_and, ids_holds hsrt]
    rfl
  with_reducible repeat refine xc_seq ?_
  with_reducible refine xc_region ?_
  refine xo_mv rfl rfl rfl ?_
  refine xo_mv rfl rfl rfl ?_
  refine xo_mv rfl rfl rfl ?_
  refine xo_mv rfl rfl rfl ?_
  refine xo_call (fs := []) (cs := []) rfl rfl rfl refOpen_enters rfl (fun w1 hw1 => (refOpen_calls A B c c' r l day id w1 (Kd.C_below hr hw1.kx.below) (Kd.C_below hl hw1.kx.below) hk hkl).mono ?_)
  rintro e w2 ⟨a, v1, v2, rfl, hb, h0⟩
  obtain ⟨k, bg, bh, og, oh, rfl, rfl, rfl, hk1, hk2, _, hg1, hh1, hne, h1, h2, h3, h4⟩ := h0 ho
  refine ⟨_, _, rfl, hw1.more2 (φ := cel ((inB r (goneF r l day)).map .bool) 4) (φ2 := cel ((inB r (holdsF r (goneF r l day))).map .bool) 4) hb hg1 hh1 hne h1 h3 h2 h4, ?_⟩
  clear hb hg1 hh1 hne h1 h2 h3 h4 h0
  refine xo_mv rfl rfl rfl ?_
  refine xo_ext rfl rfl rfl rfl ?_
  refine xo_ext rfl rfl rfl rfl ?_
  refine xo_ext rfl rfl rfl rfl ?_
  refine xo_ext rfl rfl rfl rfl ?_
  refine xo_asg rfl rfl rfl ?_
  refine xo_asg rfl rfl rfl ?_
  refine xo_asg rfl rfl rfl ?_
  refine xo_asg rfl rfl rfl ?_
  with_reducible refine xo_nil ?_
  with_reducible repeat (first | refine xq_then ?_ | refine xq_blockN ?_ | refine xq_scopeN ?_)
  with_reducible repeat refine xc_seq ?_
  with_reducible refine xc_region ?_
  refine xo_mv rfl rfl rfl ?_
  refine xo_neq rfl rfl rfl rfl ?_
  refine xo_as (i := 27) rfl (congrArg Value.bool hd) ?_
  with_reducible refine xo_nil ?_
  with_reducible repeat (first | refine xq_then ?_ | refine xq_blockN ?_ | refine xq_scopeN ?_)
  with_reducible repeat refine xc_seq ?_
  refine xc_condF rfl ?_
  with_reducible refine xc_skip ?_
  with_reducible repeat (first | refine xq_then ?_ | refine xq_blockN ?_ | refine xq_scopeN ?_)
  with_reducible repeat refine xc_seq ?_
  with_reducible refine xc_region ?_
  refine xo_mv rfl rfl rfl ?_
  refine xo_mv rfl rfl rfl ?_
  refine xo_ia T_ rfl rfl rfl rfl rfl ⟨by omega, by omega⟩ rfl ?_
  refine xo_storeI T_ rfl rfl rfl rfl (by repeat (first | exact List.Mem.head _ | apply List.Mem.tail | apply List.mem_append_right)) rfl rfl (by rw [List.length_map, inB_len]; simpa [szN] using hk1) (in_upd hsrt hk1 hk2) rfl ?_
  with_reducible refine xo_nil ?_
  with_reducible repeat (first | refine xq_then ?_ | refine xq_blockN ?_ | refine xq_scopeN ?_)
  with_reducible repeat refine xc_seq ?_
  with_reducible refine xc_region ?_
  refine xo_mv rfl rfl rfl ?_
  refine xo_mv rfl rfl rfl ?_
  refine xo_call (fs := []) (cs := []) rfl rfl rfl hold_enters rfl (fun w1 hw1 => (hold_calls A _ c _ r (insN id (goneF r l day)) w1 (Kd.C_below hr hw1.kx.below) (C_inB hw1 (by repeat (first | exact List.Mem.head _ | apply List.Mem.tail | apply List.mem_append_right)) (by omega)) hok).mono ?_)
  rintro e w3 ⟨b2, o2, rfl, hb, hge, h1, h2⟩
  refine ⟨_, _, rfl, hw1.more hb hge h1 h2, ?_⟩
  clear hb hge h1 h2
  refine xo_asg rfl rfl rfl ?_
  with_reducible refine xo_nil ?_
  with_reducible repeat (first | refine xq_then ?_ | refine xq_blockN ?_ | refine xq_scopeN ?_)
  with_reducible repeat refine xc_seq ?_
  with_reducible refine xc_region ?_
  refine xo_asg rfl rfl rfl ?_
  with_reducible refine xo_nil ?_
  with_reducible repeat (first | refine xq_then ?_ | refine xq_blockN ?_ | refine xq_scopeN ?_)
  with_reducible repeat refine xc_seq ?_
  with_reducible refine xc_block ?_
  refine xc_loop (γ := Nat) (fun k => k ≤ r.length) (fun k => [(0, .slice A r.length c), (12, .slice (some ⟨bh, 0, none⟩) r.length r.length), (14, .slice (some ⟨b2, 0, none⟩) r.length r.length), (15, .int .i64 (k : Int))])
    (fun k => [(b2, true, cel ((inB r (holdsF r (insN id (goneF r l day)))).map .bool) 4), (bh, true, cel ((mixB r (holdsF r (goneF r l day)) (holdsF r (insN id (goneF r l day))) k).map .bool) 4)]) (fun k => r.length - k) 0
    (Nat.zero_le _) ⟨rfl, rfl, rfl, rfl, trivial⟩ (by rw [mixB_zero]; exact (by repeat (first | exact List.Sublist.refl _ | apply List.Sublist.cons_cons | apply List.Sublist.cons | exact List.nil_sublist _))) ?_
  intro k hk1
  with_reducible repeat refine xc_seq ?_
  with_reducible refine xc_region ?_
  refine xo_mv rfl rfl rfl ?_
  refine xo_mv rfl rfl rfl ?_
  refine xo_len T_ rfl rfl rfl rfl ?_
  refine xo_lss rfl rfl rfl rfl ?_
  with_reducible refine xo_nil ?_
  with_reducible repeat (first | refine xq_then ?_ | refine xq_blockN ?_ | refine xq_scopeN ?_)
  with_reducible repeat refine xc_seq ?_
  refine xc_cond rfl (fun h => ?_) (fun h => ?_)
  · have hlt : k < r.length := by have := of_decide_eq_true h; omega
    with_reducible refine xc_skip ?_
    with_reducible repeat (first | refine xq_then ?_ | refine xq_blockN ?_ | refine xq_scopeN ?_)
    with_reducible repeat refine xc_seq ?_
    with_reducible refine xc_block ?_
    cases hq : decide (idAt r k ∈ holdsF r (goneF r l day))
    all_goals
      with_reducible repeat refine xc_seq ?_
      with_reducible refine xc_region ?_
      refine xo_mv rfl rfl rfl ?_
      refine xo_mv rfl rfl rfl ?_
      refine xo_mv rfl rfl rfl ?_
      refine xo_mv rfl rfl rfl ?_
      refine xo_ia T_ rfl rfl rfl rfl rfl ⟨by omega, by omega⟩ rfl ?_
      refine xo_loadI T_ rfl rfl rfl (by repeat (first | exact List.Mem.head _ | apply List.Mem.tail | apply List.mem_append_right)) (mix_load hlt hq) rfl ?_
      refine xo_mv rfl rfl rfl ?_
      first
        | refine xo_not rfl rfl ?_
        | (refine xo_mv rfl rfl rfl ?_)
      first
        | refine xo_not rfl rfl ?_
        | (refine xo_mv rfl rfl rfl ?_)
      first
        | refine xo_not rfl rfl ?_
        | (refine xo_ia T_ rfl rfl rfl rfl rfl ⟨by omega, by omega⟩ rfl ?_)
      first
        | refine xo_not rfl rfl ?_
        | (refine xo_loadI T_ rfl rfl rfl (by repeat (first | exact List.Mem.head _ | apply List.Mem.tail | apply List.mem_append_right)) (in_load hlt) rfl ?_)
      first
        | refine xo_not rfl rfl ?_
        | (refine xo_notOp rfl rfl rfl ?_)
      first | refine xo_pickT rfl rfl rfl rfl ?_ | refine xo_pickF rfl rfl rfl rfl ?_
      refine xo_ia T_ rfl rfl rfl rfl rfl ⟨by omega, by omega⟩ rfl ?_
      refine xo_storeI T_ rfl rfl rfl rfl (by repeat (first | exact List.Mem.head _ | apply List.Mem.tail | apply List.mem_append_right)) rfl rfl (by rw [List.length_map, mixB_len]; simpa [szN] using hlt) (mix_upd hlt (by rw [hq]; rfl)) rfl ?_
      with_reducible refine xo_nil ?_
      with_reducible repeat (first | refine xq_then ?_ | refine xq_blockN ?_ | refine xq_scopeN ?_)
      with_reducible repeat refine xc_seq ?_
      with_reducible refine xc_region ?_
      refine xo_mv rfl rfl rfl ?_
      refine xo_add rfl rfl rfl (by omega) rfl ?_
      refine xo_asg rfl rfl rfl ?_
      with_reducible refine xo_nil ?_
      with_reducible repeat (first | refine xq_then ?_ | refine xq_blockN ?_ | refine xq_scopeN ?_)
      exact xq_again _ _ _ _ _ (k + 1) (by omega) (by omega) ⟨rfl, rfl, rfl, rfl, trivial⟩ (by repeat (first | exact List.Sublist.refl _ | apply List.Sublist.cons_cons | apply List.Sublist.cons | exact List.nil_sublist _))
  · have hge : ¬ k < r.length := by have := of_decide_eq_false h; omega
    have hkk : k = r.length := by omega
    subst hkk
    rw [mixB_full]
    with_reducible refine xc_exit ?_
    with_reducible repeat (first | refine xq_blockX ?_ | refine xq_thenE ?_ | refine xq_blockE rfl ?_ | refine xq_scopeE ?_)
    with_reducible repeat (first | refine xq_then ?_ | refine xq_blockN ?_ | refine xq_scopeN ?_)
    with_reducible repeat refine xc_seq ?_
    with_reducible refine xc_region ?_
    refine xo_mv rfl rfl rfl ?_
    refine xo_mv rfl rfl rfl ?_
    refine xo_call (fs := []) (cs := []) rfl rfl rfl ids_enters rfl (fun w1 hw1 => (ids_calls A _ c _ r (fun n => decide (n ∈ holdsF r (goneF r l day)) && !decide (n ∈ holdsF r (insN id (goneF r l day)))) w1 (Kd.C_below hr hw1.kx.below) (by have := C_celB hw1 (xs := pB r _) (List.Mem.tail _ (List.Mem.head _)) (by simp [pB]; omega); rwa [pB, List.length_map] at this) (by omega)).mono ?_)
    rintro e w4 ⟨rr, rfl, hrow, hb⟩
    have hrr := hrow.1
    refine ⟨_, _, rfl, hw1.row hb hrow, ?_⟩
    refine xo_asg rfl rfl rfl ?_
    refine xo_asg rfl rfl rfl ?_
    with_reducible refine xo_nil ?_
    with_reducible repeat (first | refine xq_then ?_ | refine xq_blockN ?_ | refine xq_scopeN ?_)
    with_reducible repeat refine xc_seq ?_
    with_reducible refine xc_ret ?_
    with_reducible repeat (first | refine xq_thenR ?_ | refine xq_blockR ?_ | refine xq_scopeR ?_)
    refine xq_ret2 rfl rfl rfl fun w' hw => ⟨rr, by rw [hT, ho], ?_, hw.kx.below⟩
    rw [hT]
    exact RowAt.of hw hrr
theorem refTakes_enters : ∀ args w, (callFunc 10 args).run Try.prog w = .ok (.enter 10 args) w := enters_of Try.func10 (by kernel_rfl) rfl
end Go.Proofs.Ytcmepdamemnbkaa
