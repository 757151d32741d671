/- ref08.Holds, open. -/
import Derived.Test.YtcmepdamemnbkaaRIds
namespace Go.Proofs.Ytcmepdamemnbkaa
open Go.RowKit Go.Proofs.YtcmepdamemnbkaaW.PrintWords
set_option linter.unusedVariables false
set_option linter.unusedSimpArgs false
theorem goneL_mem {l : List LetT} {day : Int} : ∀ (r : List RecT) (acc : List Int) (n : Int), n ∈ goneL l day acc r ↔ n ∈ acc ∨ ∃ x ∈ r, x.f0 = n ∧ goneB l day x.f0 = true
  | [], acc, n => by simp [goneL]
  | x :: r, acc, n => by
    rw [goneL, goneL_mem r]
    by_cases h : goneB l day x.f0 = true
    · rw [if_pos h, mem_insN]
      constructor
      · rintro ((rfl | h1) | ⟨y, h1, h2⟩)
        · exact .inr ⟨x, by simp, rfl, h⟩
        · exact .inl h1
        · exact .inr ⟨y, by simp [h1], h2⟩
      · rintro (h1 | ⟨y, h1, h2, h3⟩)
        · exact .inl (.inr h1)
        · rcases List.mem_cons.1 h1 with rfl | h1
          · exact .inl (.inl h2.symm)
          · exact .inr ⟨y, h1, h2, h3⟩
    · rw [if_neg h]
      constructor
      · rintro (h1 | ⟨y, h1, h2⟩)
        · exact .inl h1
        · exact .inr ⟨y, by simp [h1], h2⟩
      · rintro (h1 | ⟨y, h1, h2, h3⟩)
        · exact .inl h1
        · rcases List.mem_cons.1 h1 with rfl | h1
          · exact absurd h3 h
          · exact .inr ⟨y, h1, h2, h3⟩
theorem goneBs_in (r : List RecT) (l : List LetT) (day : Int) : goneBs r l day = inB r (goneF r l day) := by
  unfold goneBs inB
  refine List.map_congr_left fun x hx => ?_
  rw [Bool.eq_iff_iff, decide_eq_true_eq, goneF, goneL_mem]
  constructor
  · intro h; exact .inr ⟨x, hx, rfl, h⟩
  · rintro (h | ⟨y, _, h1, h2⟩)
    · cases h
    · rwa [h1] at h2
theorem inB_len (r : List RecT) (H : List Int) : (inB r H).length = r.length := by simp [inB]
theorem C_inB {w0 : World} {X : Nat → Prop} {η : Hp} {w : World} (hw : WOK w0 X η w) {b : Nat} {wr : Bool} {r : List RecT} {H : List Int} {t : TypeId} (hm : (b, wr, cel ((inB r H).map .bool) t) ∈ η) (hl : r.length ≤ 1000000) : Kd.C Kd.bool w (some ⟨b, 0, none⟩) r.length (inB r H) := by
  have := C_celB hw hm (by rw [inB_len]; omega)
  rwa [inB_len] at this
theorem check_zero {r : List RecT} {l : List LetT} (h : checkF r l = 0) : recordedF r = true := by
  unfold checkF at h
  split at h
  · assumption
  · cases h
set_option maxHeartbeats 16000000 in
theorem refHolds_calls (A B : Option Addr) (c c' : Nat) (r : List RecT) (l : List LetT) (day : Int) (w : World) (hr : Kd.C recK w A r.length r) (hl : Kd.C letK w B l.length l) (hk : Bytes r) (hkl : BytesL l) :
    Calls Try.prog 8 #[.slice A r.length c, .slice B l.length c', .int .i64 day] w fun e w' => ∃ rr : RowR, e = .returned (.tuple #[valR rr (holdsR r l day).length, .int .i64 (openF r l day [])]) ∧ RowAt 3 w.heap.size w' rr (holdsR r l day) ∧ Below w.heap.size w w' := by
  refine x_calls (X := XNone) Try.func8 rfl rfl rfl ?_
  with_reducible repeat refine xc_seq ?_
  with_reducible refine xc_region ?_
  refine xo_asg rfl rfl rfl ?_
  refine xo_asg rfl rfl rfl ?_
  with_reducible refine xo_nil ?_
  with_reducible repeat (first | refine xq_then ?_ | refine xq_blockN ?_ | refine xq_scopeN ?_)
  with_reducible repeat refine xc_seq ?_
  with_reducible refine xc_region ?_
  refine xo_mv rfl rfl rfl ?_
  refine xo_mv rfl rfl rfl ?_
  refine xo_callB (fs := []) (cs := []) rfl rfl rfl refCheck_enters rfl (fun w1 hw1 => refCheck_calls A B c c' r l w1 (Kd.C_below hr hw1.kx.below) (Kd.C_below hl hw1.kx.below) hk hkl) ?_
  refine xo_asg rfl rfl rfl ?_
  with_reducible refine xo_nil ?_
  with_reducible repeat (first | refine xq_then ?_ | refine xq_blockN ?_ | refine xq_scopeN ?_)
  with_reducible repeat refine xc_seq ?_
  with_reducible refine xc_region ?_
  refine xo_mv rfl rfl rfl ?_
  refine xo_neq rfl rfl rfl rfl ?_
  with_reducible refine xo_nil ?_
  with_reducible repeat (first | refine xq_then ?_ | refine xq_blockN ?_ | refine xq_scopeN ?_)
  with_reducible repeat refine xc_seq ?_
  refine xc_cond rfl (fun hc => ?_) (fun hc => ?_)
  · have hc : checkF r l ≠ 0 := by simpa using hc
    have ho : openF r l day [] = checkF r l := by rw [openF, if_neg hc]
    with_reducible repeat refine xc_seq ?_
    with_reducible refine xc_region ?_
    refine xo_mv rfl rfl rfl ?_
    refine xo_asg rfl rfl rfl ?_
    refine xo_asg rfl rfl rfl ?_
    with_reducible refine xo_nil ?_
    with_reducible repeat (first | refine xq_then ?_ | refine xq_blockN ?_ | refine xq_scopeN ?_)
    with_reducible repeat refine xc_seq ?_
    with_reducible refine xc_ret ?_
    with_reducible repeat (first | refine xq_thenR ?_ | refine xq_blockR ?_ | refine xq_scopeR ?_)
    refine xq_ret2 rfl rfl rfl fun w' hw => ⟨none, by rw [holdsR, ho, if_neg hc]; rfl, ?_, hw.kx.below⟩
    rw [holdsR, ho, if_neg hc]
    exact ⟨fun _ => rfl, fun p hp => by cases hp⟩
  have hc : checkF r l = 0 := by simpa using hc
  have hok := check_zero hc
  have hlen := recorded_len hok
  with_reducible refine xc_skip ?_
  with_reducible repeat (first | refine xq_then ?_ | refine xq_blockN ?_ | refine xq_scopeN ?_)
  with_reducible repeat refine xc_seq ?_
  with_reducible refine xc_region ?_
  refine xo_mv rfl rfl rfl ?_
  refine xo_callB (fs := []) (cs := []) rfl rfl rfl within_enters rfl (fun w1 hw1 => within_calls _ _ _ w1) ?_
  refine xo_notOp rfl rfl rfl ?_
  with_reducible refine xo_nil ?_
  with_reducible repeat (first | refine xq_then ?_ | refine xq_blockN ?_ | refine xq_scopeN ?_)
  with_reducible repeat refine xc_seq ?_
  refine xc_cond rfl (fun hd => ?_) (fun hd => ?_)
  · simp only [Bool.not_eq_true'] at hd
    have ho : openF r l day [] = 2 := by rw [openF, if_pos hc, hd]; rfl
    with_reducible repeat refine xc_seq ?_
    with_reducible refine xc_region ?_
    refine xo_asg rfl rfl rfl ?_
    refine xo_asg rfl rfl rfl ?_
    with_reducible refine xo_nil ?_
    with_reducible repeat (first | refine xq_then ?_ | refine xq_blockN ?_ | refine xq_scopeN ?_)
    with_reducible repeat refine xc_seq ?_
    with_reducible refine xc_ret ?_
    with_reducible repeat (first | refine xq_thenR ?_ | refine xq_blockR ?_ | refine xq_scopeR ?_)
    refine xq_ret2 rfl rfl rfl fun w' hw => ⟨none, by rw [holdsR, ho]; rfl, ?_, hw.kx.below⟩
    rw [holdsR, ho]
    exact ⟨fun _ => rfl, fun p hp => by cases hp⟩
  simp only [Bool.not_eq_false'] at hd
  have ho : openF r l day [] = 0 := by rw [openF, if_pos hc, hd]; rfl
  have hR : holdsR r l day = idsF r (fun n => decide (n ∈ holdsF r (goneF r l day))) := by rw [holdsR, if_pos ho, ids_holds (sorted_of hok)]
  with_reducible refine xc_skip ?_
  with_reducible repeat (first | refine xq_then ?_ | refine xq_blockN ?_ | refine xq_scopeN ?_)
  with_reducible repeat refine xc_seq ?_
  with_reducible refine xc_region ?_
  refine xo_mv rfl rfl rfl ?_
  refine xo_mv rfl rfl rfl ?_
  refine xo_mv rfl rfl rfl ?_
  refine xo_mv rfl rfl rfl ?_
  refine xo_mv rfl rfl rfl ?_
  refine xo_call (fs := []) (cs := []) rfl rfl rfl gone_enters rfl (fun w1 hw1 => (gone_calls A B c c' r l day w1 (Kd.C_below hr hw1.kx.below) (Kd.C_below hl hw1.kx.below) (by omega) hkl).mono ?_)
  rintro e w2 ⟨bg, og, rfl, hb, hge, h1, h2⟩
  rw [goneBs_in] at h2
  refine ⟨_, _, rfl, hw1.more hb hge h1 h2, ?_⟩
  refine xo_call (fs := []) (cs := []) rfl rfl rfl hold_enters rfl (fun w1 hw1 => (hold_calls A _ c _ r (goneF r l day) w1 (Kd.C_below hr hw1.kx.below) (C_inB hw1 (by repeat (first | exact List.Mem.head _ | apply List.Mem.tail | apply List.mem_append_right)) (by omega)) hok).mono ?_)
  rintro e w3 ⟨bh, oh, rfl, hb, hge, h1, h2⟩
  refine ⟨_, _, rfl, hw1.more hb hge h1 h2, ?_⟩
  refine xo_call (fs := []) (cs := []) rfl rfl rfl ids_enters rfl (fun w1 hw1 => (ids_calls A _ c _ r (fun n => decide (n ∈ holdsF r (goneF r l day))) w1 (Kd.C_below hr hw1.kx.below) (C_inB hw1 (by repeat (first | exact List.Mem.head _ | apply List.Mem.tail | apply List.mem_append_right)) (by omega)) (by omega)).mono ?_)
  rintro e w4 ⟨rr, rfl, hrow, hb⟩
  have hrr := hrow.1
  refine ⟨_, _, rfl, hw1.row hb hrow, ?_⟩
  refine xo_asg rfl rfl rfl ?_
  refine xo_asg rfl rfl rfl ?_
  with_reducible refine xo_nil ?_
  with_reducible repeat (first | refine xq_then ?_ | refine xq_blockN ?_ | refine xq_scopeN ?_)
  with_reducible repeat refine xc_seq ?_
  with_reducible refine xc_ret ?_
  with_reducible repeat (first | refine xq_thenR ?_ | refine xq_blockR ?_ | refine xq_scopeR ?_)
  refine xq_ret2 rfl rfl rfl fun w' hw => ⟨rr, by rw [hR, ho], ?_, hw.kx.below⟩
  rw [hR]
  exact RowAt.of hw hrr
theorem refHolds_enters : ∀ args w, (callFunc 8 args).run Try.prog w = .ok (.enter 8 args) w := enters_of Try.func8 (by kernel_rfl) rfl
section
variable {P : Program} {N : Nat} {w0 : World} {X : Nat → Prop} {fn : Func} {R : Ending → World → Prop} {σ : Slots} {η : Hp}
theorem xq_ret4 {t u a b : Tmp} {v x y z : Value} (hf : fn.results = #[.tmp t, .tmp u, .tmp a, .tmp b]) (hv : slot t σ = some v) (hx : slot u σ = some x) (hy : slot a σ = some y) (hz : slot b σ = some z) (h : ∀ w, WOK w0 X η w → R (.returned (.tuple #[v, x, y, z])) w) : XQ N [] w0 X (bodyPost P fn R) .ret σ η :=
  fun ac w ha hw => ⟨ha.df, .tuple #[v, x, y, z], by simp [results, hf, ha.sl _ _ hv, ha.sl _ _ hx, ha.sl _ _ hy, ha.sl _ _ hz], h w hw⟩
end
set_option maxHeartbeats 16000000 in
theorem refOpen_calls (A B : Option Addr) (c c' : Nat) (r : List RecT) (l : List LetT) (day id : Int) (w : World) (hr : Kd.C recK w A r.length r) (hl : Kd.C letK w B l.length l) (hk : Bytes r) (hkl : BytesL l) :
    Calls Try.prog 30 #[.slice A r.length c, .slice B l.length c', .int .i64 day, .int .i64 id] w fun e w' => ∃ a v1 v2, e = .returned (.tuple #[.int .i64 a, v1, v2, .int .i64 (openF r l day [id])]) ∧ Below w.heap.size w w' ∧
      (openF r l day [id] = 0 → ∃ (k bg bh : Nat) (og oh : Obj), a = (k : Int) ∧ v1 = .slice (some ⟨bg, 0, none⟩) r.length r.length ∧ v2 = .slice (some ⟨bh, 0, none⟩) r.length r.length ∧ k < r.length ∧ idAt r k = id ∧ recordedF r = true ∧ w.heap.size ≤ bg ∧ w.heap.size ≤ bh ∧ bg ≠ bh ∧ w'.heap[bg]? = some og ∧ cel ((inB r (goneF r l day)).map .bool) 4 og ∧ w'.heap[bh]? = some oh ∧ cel ((inB r (holdsF r (goneF r l day))).map .bool) 4 oh) := by
  refine x_calls (X := XNone) Try.func30 rfl rfl rfl ?_
  with_reducible repeat refine xc_seq ?_
  with_reducible refine xc_region ?_
  refine xo_asg rfl rfl rfl ?_
  refine xo_asg rfl rfl rfl ?_
  refine xo_asg rfl rfl rfl ?_
  refine xo_asg rfl rfl rfl ?_
  with_reducible refine xo_nil ?_
  with_reducible repeat (first | refine xq_then ?_ | refine xq_blockN ?_ | refine xq_scopeN ?_)
  with_reducible repeat refine xc_seq ?_
  with_reducible refine xc_region ?_
  refine xo_mv rfl rfl rfl ?_
  refine xo_mv rfl rfl rfl ?_
  refine xo_callB (fs := []) (cs := []) rfl rfl rfl refCheck_enters rfl (fun w1 hw1 => refCheck_calls A B c c' r l w1 (Kd.C_below hr hw1.kx.below) (Kd.C_below hl hw1.kx.below) hk hkl) ?_
  refine xo_asg rfl rfl rfl ?_
  with_reducible refine xo_nil ?_
  with_reducible repeat (first | refine xq_then ?_ | refine xq_blockN ?_ | refine xq_scopeN ?_)
  with_reducible repeat refine xc_seq ?_
  with_reducible refine xc_region ?_
  refine xo_mv rfl rfl rfl ?_
  refine xo_neq rfl rfl rfl rfl ?_
  with_reducible refine xo_nil ?_
  with_reducible repeat (first | refine xq_then ?_ | refine xq_blockN ?_ | refine xq_scopeN ?_)
  with_reducible repeat refine xc_seq ?_
  refine xc_cond rfl (fun hc => ?_) (fun hc => ?_)
  · have hc : checkF r l ≠ 0 := by simpa using hc
    have ho : openF r l day [id] = checkF r l := by rw [openF, if_neg hc]
    with_reducible repeat refine xc_seq ?_
    with_reducible refine xc_region ?_
    refine xo_mv rfl rfl rfl ?_
    refine xo_asg rfl rfl rfl ?_
    refine xo_asg rfl rfl rfl ?_
    refine xo_asg rfl rfl rfl ?_
    refine xo_asg rfl rfl rfl ?_
    with_reducible refine xo_nil ?_
    with_reducible repeat (first | refine xq_then ?_ | refine xq_blockN ?_ | refine xq_scopeN ?_)
    with_reducible repeat refine xc_seq ?_
    with_reducible refine xc_ret ?_
    with_reducible repeat (first | refine xq_thenR ?_ | refine xq_blockR ?_ | refine xq_scopeR ?_)
    exact xq_ret4 rfl rfl rfl rfl rfl fun w' hw => ⟨_, _, _, by rw [ho], hw.kx.below, fun h => absurd (ho.symm.trans h) hc⟩
  have hc : checkF r l = 0 := by simpa using hc
  have hok := check_zero hc
  have hlen := recorded_len hok
  with_reducible refine xc_skip ?_
  with_reducible repeat (first | refine xq_then ?_ | refine xq_blockN ?_ | refine xq_scopeN ?_)
  with_reducible repeat refine xc_seq ?_
  with_reducible refine xc_region ?_
  refine xo_mv rfl rfl rfl ?_
  refine xo_callB (fs := []) (cs := []) rfl rfl rfl within_enters rfl (fun w1 hw1 => within_calls _ _ _ w1) ?_
  refine xo_notOp rfl rfl rfl ?_
  with_reducible refine xo_nil ?_
  with_reducible repeat (first | refine xq_then ?_ | refine xq_blockN ?_ | refine xq_scopeN ?_)
  with_reducible repeat refine xc_seq ?_
  refine xc_cond rfl (fun hd => ?_) (fun hd => ?_)
  · simp only [Bool.not_eq_true'] at hd
    have ho : openF r l day [id] = 2 := by rw [openF, if_pos hc, hd]; rfl
    with_reducible repeat refine xc_seq ?_
    with_reducible refine xc_region ?_
    refine xo_asg rfl rfl rfl ?_
    refine xo_asg rfl rfl rfl ?_
    refine xo_asg rfl rfl rfl ?_
    refine xo_asg rfl rfl rfl ?_
    with_reducible refine xo_nil ?_
    with_reducible repeat (first | refine xq_then ?_ | refine xq_blockN ?_ | refine xq_scopeN ?_)
    with_reducible repeat refine xc_seq ?_
    with_reducible refine xc_ret ?_
    with_reducible repeat (first | refine xq_thenR ?_ | refine xq_blockR ?_ | refine xq_scopeR ?_)
    exact xq_ret4 rfl rfl rfl rfl rfl fun w' hw => ⟨_, _, _, by rw [ho], hw.kx.below, fun h => absurd (ho.symm.trans h) (by decide)⟩
  simp only [Bool.not_eq_false'] at hd
  with_reducible refine xc_skip ?_
  with_reducible repeat (first | refine xq_then ?_ | refine xq_blockN ?_ | refine xq_scopeN ?_)
  with_reducible repeat refine xc_seq ?_
  with_reducible refine xc_region ?_
  refine xo_mv rfl rfl rfl ?_
  refine xo_mv rfl rfl rfl ?_
  refine xo_callB (fs := []) (cs := []) rfl rfl rfl at_enters rfl (fun w1 hw1 => at_calls _ _ _ _ w1 (Kd.C_below hr hw1.kx.below)) ?_
  refine xo_asg rfl rfl rfl ?_
  with_reducible refine xo_nil ?_
  with_reducible repeat (first | refine xq_then ?_ | refine xq_blockN ?_ | refine xq_scopeN ?_)
  with_reducible repeat refine xc_seq ?_
  with_reducible refine xc_region ?_
  refine xo_mv rfl rfl rfl ?_
  refine xo_lss rfl rfl rfl rfl ?_
  with_reducible refine xo_nil ?_
  with_reducible repeat (first | refine xq_then ?_ | refine xq_blockN ?_ | refine xq_scopeN ?_)
  with_reducible repeat refine xc_seq ?_
  refine xc_cond rfl (fun hi => ?_) (fun hi => ?_)
  · rw [atF_neg, Bool.not_eq_true'] at hi
    have ho : openF r l day [id] = 6 := by rw [openF, if_pos hc, hd]; simp [hi]
    with_reducible repeat refine xc_seq ?_
    with_reducible refine xc_region ?_
    refine xo_asg rfl rfl rfl ?_
    refine xo_asg rfl rfl rfl ?_
    refine xo_asg rfl rfl rfl ?_
    refine xo_asg rfl rfl rfl ?_
    with_reducible refine xo_nil ?_
    with_reducible repeat (first | refine xq_then ?_ | refine xq_blockN ?_ | refine xq_scopeN ?_)
    with_reducible repeat refine xc_seq ?_
    with_reducible refine xc_ret ?_
    with_reducible repeat (first | refine xq_thenR ?_ | refine xq_blockR ?_ | refine xq_scopeR ?_)
    exact xq_ret4 rfl rfl rfl rfl rfl fun w' hw => ⟨_, _, _, by rw [ho], hw.kx.below, fun h => absurd (ho.symm.trans h) (by decide)⟩
  rw [atF_neg, Bool.not_eq_false'] at hi
  have ho : openF r l day [id] = 0 := by rw [openF, if_pos hc, hd]; simp [hi]
  obtain ⟨k, hk1, hk2, hk3⟩ := atF_known hi
  with_reducible refine xc_skip ?_
  with_reducible repeat (first | refine xq_then ?_ | refine xq_blockN ?_ | refine xq_scopeN ?_)
  with_reducible repeat refine xc_seq ?_
  with_reducible refine xc_region ?_
  refine xo_mv rfl rfl rfl ?_
  refine xo_mv rfl rfl rfl ?_
  refine xo_mv rfl rfl rfl ?_
  refine xo_call (fs := []) (cs := []) rfl rfl rfl gone_enters rfl (fun w1 hw1 => (gone_calls A B c c' r l day w1 (Kd.C_below hr hw1.kx.below) (Kd.C_below hl hw1.kx.below) (by omega) hkl).mono ?_)
  rintro e w2 ⟨bg, og, rfl, hb, hge, h1, h2⟩
  rw [goneBs_in] at h2
  refine ⟨_, _, rfl, hw1.more hb hge h1 h2, ?_⟩
  refine xo_asg rfl rfl rfl ?_
  with_reducible refine xo_nil ?_
  with_reducible repeat (first | refine xq_then ?_ | refine xq_blockN ?_ | refine xq_scopeN ?_)
  with_reducible repeat refine xc_seq ?_
  with_reducible refine xc_region ?_
  refine xo_mv rfl rfl rfl ?_
  refine xo_mv rfl rfl rfl ?_
  refine xo_mv rfl rfl rfl ?_
  refine xo_mv rfl rfl rfl ?_
  refine xo_call (fs := []) (cs := []) rfl rfl rfl hold_enters rfl (fun w1 hw1 => (hold_calls A _ c _ r (goneF r l day) w1 (Kd.C_below hr hw1.kx.below) (C_inB hw1 (by repeat (first | exact List.Mem.head _ | apply List.Mem.tail | apply List.mem_append_right)) (by omega)) hok).mono ?_)
  rintro e w3 ⟨bh, oh, rfl, hb, hge, h1, h2⟩
  refine ⟨_, _, rfl, hw1.more hb hge h1 h2, ?_⟩
  refine xo_asg rfl rfl rfl ?_
  refine xo_asg rfl rfl rfl ?_
  refine xo_asg rfl rfl rfl ?_
  refine xo_asg rfl rfl rfl ?_
  with_reducible refine xo_nil ?_
  with_reducible repeat (first | refine xq_then ?_ | refine xq_blockN ?_ | refine xq_scopeN ?_)
  with_reducible repeat refine xc_seq ?_
  with_reducible refine xc_ret ?_
  with_reducible repeat (first | refine xq_thenR ?_ | refine xq_blockR ?_ | refine xq_scopeR ?_)
  refine xq_ret4 rfl rfl rfl rfl rfl fun w' hw => ⟨_, _, _, by rw [ho], hw.kx.below, fun _ => ?_⟩
  obtain ⟨oh, h3, h4⟩ := hw.bl _ (List.Mem.head _)
  obtain ⟨og, h5, h6⟩ := hw.bl _ (List.Mem.tail _ (List.Mem.head _))
  exact ⟨k, bg, bh, og, oh, hk2, rfl, rfl, hk1, hk3, hok, hw.own (List.Mem.tail _ (List.Mem.head _)), hw.own (List.Mem.head _), ne_of_nd hw, h5, h6, h3, h4⟩
theorem refOpen_enters : ∀ args w, (callFunc 30 args).run Try.prog w = .ok (.enter 30 args) w := enters_of Try.func30 (by kernel_rfl) rfl
end Go.Proofs.Ytcmepdamemnbkaa
