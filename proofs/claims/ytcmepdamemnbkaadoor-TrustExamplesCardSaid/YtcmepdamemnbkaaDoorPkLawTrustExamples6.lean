/- slices.Sort of a nil row; slices.Sorted over a set's keys. / ref08.ids, Holds, open. / ref08.Holds, open. / ref08.Takes. / ref08: members, Carries, Ahead. / ref08.Twin: a copy of records, ways and all. / ref08: Ahead, Rests. / cmp.Compare, slices.Compare of rows that are equally long. / maps.Clone of a set: a copy. / ref08.Rests: the walk. / ref08.Causes. / The least list that is good: both searches find it. Plain Lean. / What records rest on, and causes: both searches go over the same good lists. Plain Lean. / trust.fewest: the search over a row's sets. / trust.fewest: the walk. / what holds depends on what is gone by membership alone. Plain Lean. / trust.Rests$1: what the search for what a record rests on asks of a set. / trust.Causes$1: what the search for causes asks of a set. / who is withdrawn, in order; what the searches of the code and of the reference find is the same. Plain Lean. / SX: remainders and quotients of what is not negative; truths that are compared. No program in sight. / law08: what its own small functions answer: ready, day, set, next. / what holds, what is gone, and what one takes with it: laws. Plain Lean. / SX: slices of several elements, written out. No program in sight. / law08: the chapter's examples: records, letters, moves as the program writes them. -/
import Derived.Test.YtcmepdamemnbkaaDoorPkLawTrustExamples5
import Derived.Test.YtcmepdamemnbkaaDoorPkLawTrustExamples3
import Derived.Shelf.SlMaps.Clone
import Derived.Laws.Small
import Derived.Test.YtcmepdamemnbkaaDoorPkLawTrustExamples4
namespace Go.Proofs.YtcmepdamemnbkaaDoor
open Go.RowKit
set_option linter.unusedVariables false
set_option linter.unusedSimpArgs false
theorem insertion_nil (w : World) : Calls Tryd.prog 87 #[.slice none 0 0, .int .i64 0, .int .i64 0] w fun e w' => e = .returned (.tuple #[]) ∧ Below w.heap.size w w' := by
  refine x_calls (X := XNone) Tryd.func87 rfl rfl rfl ?_
  with_reducible repeat refine xc_seq ?_
  with_reducible refine xc_region ?_
  refine xo_mv rfl rfl rfl ?_
  refine xo_add rfl rfl rfl (by omega) rfl ?_
  refine xo_asg rfl rfl rfl ?_
  with_reducible refine xo_nil ?_
  with_reducible repeat (first | refine xq_then ?_ | refine xq_blockN ?_ | refine xq_scopeN ?_)
  with_reducible repeat refine xc_seq ?_
  with_reducible refine xc_block ?_
  refine xc_loop (γ := Unit) (fun _ => True) (fun _ => [(2, .int .i64 0), (6, .int .i64 1)]) (fun _ => []) (fun _ => 0) () trivial ⟨rfl, rfl, trivial⟩ (List.Sublist.refl _) ?_
  rintro _ _
  with_reducible repeat refine xc_seq ?_
  with_reducible refine xc_region ?_
  refine xo_mv rfl rfl rfl ?_
  refine xo_mv rfl rfl rfl ?_
  refine xo_lss rfl rfl rfl rfl ?_
  with_reducible refine xo_nil ?_
  with_reducible repeat (first | refine xq_then ?_ | refine xq_blockN ?_ | refine xq_scopeN ?_)
  with_reducible repeat refine xc_seq ?_
  refine xc_condF rfl ?_
  with_reducible refine xc_exit ?_
  with_reducible repeat (first | refine xq_blockX ?_ | refine xq_thenE ?_ | refine xq_blockE rfl ?_ | refine xq_scopeE ?_)
  exact xq_end0 rfl fun w2 hw2 => ⟨rfl, hw2.kx.below⟩
theorem pdq_nil (x : Int) (w : World) : Calls Tryd.prog 84 #[.slice none 0 0, .int .i64 0, .int .i64 0, .int .i64 x] w fun e w' => e = .returned (.tuple #[]) ∧ Below w.heap.size w w' := by
  have eg := enters_of Tryd.func87 (by kernel_rfl) rfl
  refine x_calls (X := XNone) Tryd.func84 rfl rfl rfl ?_
  with_reducible repeat refine xc_seq ?_
  with_reducible refine xc_region ?_
  refine xo_asg rfl rfl rfl ?_
  with_reducible refine xo_nil ?_
  with_reducible repeat (first | refine xq_then ?_ | refine xq_blockN ?_ | refine xq_scopeN ?_)
  with_reducible repeat refine xc_seq ?_
  with_reducible refine xc_region ?_
  refine xo_asg rfl rfl rfl ?_
  with_reducible refine xo_nil ?_
  with_reducible repeat (first | refine xq_then ?_ | refine xq_blockN ?_ | refine xq_scopeN ?_)
  with_reducible repeat refine xc_seq ?_
  with_reducible refine xc_block ?_
  refine xc_loop (γ := Unit) (fun _ => True) (fun _ => [(0, .slice none 0 0), (1, .int .i64 0), (2, .int .i64 0)]) (fun _ => []) (fun _ => 0) () trivial ⟨rfl, rfl, rfl, trivial⟩ (List.Sublist.refl _) ?_
  rintro _ _
  with_reducible repeat refine xc_seq ?_
  with_reducible refine xc_block ?_
  with_reducible repeat refine xc_seq ?_
  with_reducible refine xc_region ?_
  refine xo_mv rfl rfl rfl ?_
  refine xo_mv rfl rfl rfl ?_
  refine xo_sub rfl rfl rfl (by omega) rfl ?_
  refine xo_asg rfl rfl rfl ?_
  with_reducible refine xo_nil ?_
  with_reducible repeat (first | refine xq_then ?_ | refine xq_blockN ?_ | refine xq_scopeN ?_)
  with_reducible repeat refine xc_seq ?_
  with_reducible refine xc_region ?_
  refine xo_mv rfl rfl rfl ?_
  refine xo_leq rfl rfl rfl rfl ?_
  with_reducible refine xo_nil ?_
  with_reducible repeat (first | refine xq_then ?_ | refine xq_blockN ?_ | refine xq_scopeN ?_)
  with_reducible repeat refine xc_seq ?_
  refine xc_condT rfl ?_
  with_reducible repeat refine xc_seq ?_
  with_reducible refine xc_region ?_
  refine xo_mv rfl rfl rfl ?_
  refine xo_mv rfl rfl rfl ?_
  refine xo_mv rfl rfl rfl ?_
  refine xo_callB (fs := []) (cs := []) rfl rfl rfl eg rfl (fun w1 hw1 => insertion_nil w1) ?_
  with_reducible refine xo_nil ?_
  with_reducible repeat (first | refine xq_then ?_ | refine xq_blockN ?_ | refine xq_scopeN ?_)
  with_reducible repeat refine xc_seq ?_
  with_reducible refine xc_ret ?_
  with_reducible repeat (first | refine xq_thenR ?_ | refine xq_blockR ?_ | refine xq_scopeR ?_)
  exact xq_ret0 rfl fun w2 hw2 => ⟨rfl, hw2.kx.below⟩
theorem sort_nil (w : World) : Calls Tryd.prog 72 #[.slice none 0 0] w fun e w' => e = .returned (.tuple #[]) ∧ Below w.heap.size w w' := by
  have eg := enters_of Tryd.func84 (by kernel_rfl) rfl
  have eg2 := enters_of Tryd.func85 (by kernel_rfl) rfl
  refine x_calls (X := XNone) Tryd.func72 rfl rfl rfl ?_
  with_reducible repeat refine xc_seq ?_
  with_reducible refine xc_region ?_
  refine xo_mv rfl rfl rfl ?_
  refine xo_len T_ rfl rfl rfl rfl ?_
  refine xo_asg rfl rfl rfl ?_
  with_reducible refine xo_nil ?_
  with_reducible repeat (first | refine xq_then ?_ | refine xq_blockN ?_ | refine xq_scopeN ?_)
  with_reducible repeat refine xc_seq ?_
  with_reducible refine xc_region ?_
  refine xo_mv rfl rfl rfl ?_
  refine xo_mv rfl rfl rfl ?_
  refine xo_mv rfl rfl rfl ?_
  refine xo_conv T_ rfl rfl rfl rfl (by decide) rfl ?_
  refine xo_callB (fs := []) (cs := []) rfl rfl rfl eg2 rfl (fun w1 hw1 => (Any.bits_Len lays125 0 w1 (by omega) (by omega)).mono (fun e w' h => ⟨h.1, by rw [h.2]; exact Below.refl _ _⟩)) ?_
  refine xo_callB (fs := []) (cs := []) rfl rfl rfl eg rfl (fun w1 hw1 => pdq_nil _ w1) ?_
  with_reducible refine xo_nil ?_
  with_reducible repeat (first | refine xq_then ?_ | refine xq_blockN ?_ | refine xq_scopeN ?_)
  exact xq_end0 rfl fun w2 hw2 => ⟨rfl, hw2.kx.below⟩
theorem collectS_enters : ∀ args w, (callFunc 56 args).run Tryd.prog w = .ok (.enter 56 args) w := enters_of Tryd.func56 (by kernel_rfl) rfl
theorem sorted_enters : ∀ args w, (callFunc 52 args).run Tryd.prog w = .ok (.enter 52 args) w := enters_of Tryd.func52 (by kernel_rfl) rfl
theorem sorted_calls (g : Nat) (cs : List Value) (eg : ∀ args w, (callFunc g args).run Tryd.prog w = .ok (.enter g args) w) (need : Nat → Prop) (s : List Int) (M : Nat) (w : World) (hit : IterS Tryd.prog g cs w need (fun ys => ys.Perm s) M) (hneed : ∀ k, need k → k < w.heap.size) (hlen : M ≤ 1000000) (hs : s.length ≤ 1000000) :
    Calls Tryd.prog 52 #[.func (.func g) #[] cs.toArray] w fun e w' => ∃ r : RowR, e = .returned (valR r (sortF s).length) ∧ RowAt 3 w.heap.size w' r (sortF s) ∧ Below w.heap.size w w' := by
  refine x_calls (X := XNone) Tryd.func52 rfl rfl rfl ?_
  with_reducible repeat refine xc_seq ?_
  with_reducible refine xc_region ?_
  refine xo_asg rfl rfl rfl ?_
  with_reducible refine xo_nil ?_
  with_reducible repeat (first | refine xq_then ?_ | refine xq_blockN ?_ | refine xq_scopeN ?_)
  with_reducible repeat refine xc_seq ?_
  with_reducible refine xc_region ?_
  refine xo_mv rfl rfl rfl ?_
  refine xo_call (fs := []) (cs := []) rfl rfl rfl collectS_enters rfl (fun w1 hw1 => (collectS_calls g cs eg need _ M w1 (fun w2 h1 h2 => hit w2 (Nat.le_trans hw1.kx.size h1) (fun k hk => (h2 k hk).trans (hw1.kx.below.block k (hneed k hk)))) (fun k hk => Nat.lt_of_lt_of_le (hneed k hk) hw1.kx.size) hlen).mono ?_)
  rintro e w2 ⟨xs, r, hS, rfl, hrow, hb⟩
  have h0 := hrow.1
  refine ⟨_, _, rfl, hw1.row hb hrow, ?_⟩
  clear hrow hb hw1
  have hxl : xs.length = s.length := hS.length_eq
  have hsx : sortF s = sortF xs := (sortF_perm hS).symm
  refine xo_asg rfl rfl rfl ?_
  with_reducible refine xo_nil ?_
  with_reducible repeat (first | refine xq_then ?_ | refine xq_blockN ?_ | refine xq_scopeN ?_)
  rcases r with _ | ⟨b, cap⟩
  · obtain rfl := h0 rfl
    with_reducible repeat refine xc_seq ?_
    with_reducible refine xc_region ?_
    refine xo_mv rfl rfl rfl ?_
    refine xo_callB (fs := []) (cs := []) rfl rfl rfl sort_enters rfl (fun w1 hw1 => sort_nil w1) ?_
    with_reducible refine xo_nil ?_
    with_reducible repeat (first | refine xq_then ?_ | refine xq_blockN ?_ | refine xq_scopeN ?_)
    with_reducible repeat refine xc_seq ?_
    with_reducible refine xc_region ?_
    refine xo_mv rfl rfl rfl ?_
    refine xo_asg rfl rfl rfl ?_
    with_reducible refine xo_nil ?_
    with_reducible repeat (first | refine xq_then ?_ | refine xq_blockN ?_ | refine xq_scopeN ?_)
    with_reducible repeat refine xc_seq ?_
    with_reducible refine xc_ret ?_
    with_reducible repeat (first | refine xq_thenR ?_ | refine xq_blockR ?_ | refine xq_scopeR ?_)
    refine xq_ret1 rfl rfl fun w' hw => ⟨none, rfl, ?_, hw.kx.below⟩
    rw [hsx]
    exact ⟨fun _ => by simp [sortF], fun p hp => by cases hp⟩
  · with_reducible repeat refine xc_seq ?_
    with_reducible refine xc_region ?_
    refine xo_mv rfl rfl rfl ?_
    refine xo_call (fs := []) (cs := []) rfl rfl rfl sort_enters rfl (fun w1 hw1 => ?_)
    obtain ⟨o1, ho1, ho2⟩ := hw1.bl (b, true, orow 3 1 xs.length cap (xs.map (.int .i64))) (List.Mem.head _)
    refine (sort_calls b cap xs w1 o1 ho1 ho2 (by omega)).mono ?_
    rintro e w3 ⟨rfl, hk3, o3, ho3, ho4⟩
    refine ⟨_, _, rfl, hw1.updK (φ' := orow 3 1 xs.length cap ((sortF xs).map (.int .i64))) Upd.head hk3 ho3 ho4, ?_⟩
    clear ho3 ho4 hk3 ho1 ho2 hw1
    with_reducible refine xo_nil ?_
    with_reducible repeat (first | refine xq_then ?_ | refine xq_blockN ?_ | refine xq_scopeN ?_)
    with_reducible repeat refine xc_seq ?_
    with_reducible refine xc_region ?_
    refine xo_mv rfl rfl rfl ?_
    refine xo_asg rfl rfl rfl ?_
    with_reducible refine xo_nil ?_
    with_reducible repeat (first | refine xq_then ?_ | refine xq_blockN ?_ | refine xq_scopeN ?_)
    with_reducible repeat refine xc_seq ?_
    with_reducible refine xc_ret ?_
    with_reducible repeat (first | refine xq_thenR ?_ | refine xq_blockR ?_ | refine xq_scopeR ?_)
    refine xq_ret1 rfl rfl fun w' hw => ⟨some (b, cap), by rw [hsx, sortF_len], ?_, hw.kx.below⟩
    rw [hsx]
    refine RowAt.of (η := []) ?_ (fun h => by cases h)
    rw [sortF_len]
    exact hw.sub (List.Sublist.cons_cons _ (List.nil_sublist _))
end Go.Proofs.YtcmepdamemnbkaaDoor
namespace Go.Proofs.YtcmepdamemnbkaaDoor
open Go.RowKit Go.Proofs.YtcmepdamemnbkaaDoorW.PrintWords
set_option linter.unusedVariables false
set_option linter.unusedSimpArgs false
def idsF (r : List RecT) (p : Int → Bool) : List Int := (r.filter fun x => p x.f0).map (·.f0)
theorem idsF_holdsL {G : List Int} {H : List Int} : ∀ (r : List RecT) (bs : List Int), SortedIds r → (∀ i, i < r.length → (idAt r i ∈ H ↔ idAt r i ∈ holdsL G bs r)) → idsF r (fun n => decide (n ∈ H)) = holdsL G bs r
  | [], _, _, _ => rfl
  | x :: r, bs, hs, h => by
    have hs2 : SortedIds r := fun j hj => by
      have := hs (j + 1) (by simpa using hj)
      simpa [idAt] using this
    have h0 := h 0 (by simp)
    have hx : idAt (x :: r) 0 = x.f0 := rfl
    rw [hx] at h0
    have hi : ∀ i, idAt (x :: r) (i + 1) = idAt r i := fun i => by simp [idAt]
    have hne : ∀ i, i < r.length → idAt r i ≠ x.f0 := fun i hil e => by
      have := sorted_inj hs (i := i + 1) (j := 0) (by simpa using hil) (by simp) (by rw [hi, hx, e])
      omega
    have hno : ∀ bs, x.f0 ∉ holdsL G bs r := fun bs hm => by
      obtain ⟨i, h1, h2⟩ := holdsL_mem r bs _ hm
      exact hne i h1 h2
    unfold holdsL at h0 h ⊢
    split
    · rename_i hc
      rw [if_pos hc] at h0
      have ih := idsF_holdsL (H := H) r bs hs2 fun i hil => by
        have := h (i + 1) (by simpa using hil)
        rwa [if_pos hc, hi] at this
      rw [← ih, idsF, List.filter_cons, if_neg (by simp; exact fun q => hno _ (h0.1 q))]
      rfl
    · rename_i hc
      rw [if_neg hc] at h0
      have ih := idsF_holdsL (H := H) r (insN x.f0 bs) hs2 fun i hil => by
        have := h (i + 1) (by simpa using hil)
        rw [if_neg hc, hi, List.mem_cons] at this
        rw [this]
        exact ⟨fun q => q.resolve_left (hne i hil), .inr⟩
      rw [← ih, idsF, List.filter_cons, if_pos (by simp; exact h0.2 (List.mem_cons_self ..))]
      rfl
theorem ids_holds {r : List RecT} (hs : SortedIds r) (G : List Int) : idsF r (fun n => decide (n ∈ holdsF r G)) = holdsF r G := idsF_holdsL r [] hs fun _ _ => Iff.rfl
end Go.Proofs.YtcmepdamemnbkaaDoor
namespace Go.Proofs.YtcmepdamemnbkaaDoor
open Go.RowKit Go.Proofs.YtcmepdamemnbkaaDoorW.PrintWords
set_option linter.unusedVariables false
set_option linter.unusedSimpArgs false
theorem check_zero {r : List RecT} {l : List LetT} (h : checkF r l = 0) : recordedF r = true := by
  unfold checkF at h
  split at h
  · assumption
  · cases h
end Go.Proofs.YtcmepdamemnbkaaDoor
namespace Go.Proofs.YtcmepdamemnbkaaDoor
open Go.RowKit Go.Proofs.YtcmepdamemnbkaaDoorW.PrintWords
set_option linter.unusedVariables false
set_option linter.unusedSimpArgs false
end Go.Proofs.YtcmepdamemnbkaaDoor
namespace Go.Proofs.YtcmepdamemnbkaaDoor
open Go.RowKit Go.Proofs.YtcmepdamemnbkaaDoorW.PrintWords
set_option linter.unusedVariables false
set_option linter.unusedSimpArgs false
def bitB (k i : Nat) : Bool := decide (((k / 2 ^ i % 2 : Nat) : Int) = 1)
/-- the ids that a mask picks -/
def selM (r : List RecT) (k : Nat) : List Int := ((List.range r.length).filter (bitB k)).map (idAt r)
theorem selM_iff {r : List RecT} (hs : SortedIds r) {k i : Nat} (hi : i < r.length) : idAt r i ∈ selM r k ↔ bitB k i = true := by
  simp only [selM, List.mem_map, List.mem_filter, List.mem_range]
  constructor
  · rintro ⟨j, ⟨h1, h2⟩, h3⟩
    rwa [sorted_inj hs h1 hi h3] at h2
  · intro h
    exact ⟨i, ⟨hi, h⟩, rfl⟩
/-- the ids of r that are not in S -/
def compl (r : List RecT) (S : List Int) : List Int := idsF r fun n => !decide (n ∈ S)
theorem compl_mem {r : List RecT} {S : List Int} {i : Nat} (hi : i < r.length) : idAt r i ∈ compl r S ↔ idAt r i ∉ S := by
  simp only [compl, idsF, List.mem_map, List.mem_filter, Bool.not_eq_true', decide_eq_false_iff_not]
  constructor
  · rintro ⟨x, ⟨_, h1⟩, h2⟩
    rwa [← h2]
  · intro h
    exact ⟨r.getD i zRec, ⟨getD_mem r zRec i hi, h⟩, rfl⟩
def carriesF (r : List RecT) (S : List Int) : Bool := (List.range r.length).all fun i => !decide (idAt r i ∈ S) || decide (idAt r i ∈ holdsF r (compl r S))
end Go.Proofs.YtcmepdamemnbkaaDoor
namespace Go.Proofs.YtcmepdamemnbkaaDoor
open Go.RowKit Go.Proofs.YtcmepdamemnbkaaDoorW.PrintWords
set_option linter.unusedVariables false
set_option linter.unusedSimpArgs false
theorem ad3 (b i j : Nat) : (Addr.add (Addr.add ⟨b, 0, none⟩ ((i : Int).toNat * szN 3)) j) = ⟨b, i * 3 + j, none⟩ := by
  rw [Addr.add_lit, Addr.add_lit, show szN 3 = 3 from rfl]
  simp
theorem flat_ones (vs : List Value) : (vs.map fun v => [v]).flatten = vs := by
  induction vs with
  | nil => rfl
  | cons v vs ih => rw [List.map_cons, List.flatten_cons, ih]; rfl
def intRow (F : Hp) (v : Value) (xs : List Int) : Prop := ∃ b cap, v = .slice (some ⟨b, 0, none⟩) xs.length cap ∧ (b, true, orow 3 1 xs.length cap (xs.map (.int .i64))) ∈ F
def wayRow (F : Hp) (v : Value) (ways : List (List Int)) : Prop := ∃ b cap vs, v = .slice (some ⟨b, 0, none⟩) ways.length cap ∧ (b, true, orow 33 1 ways.length cap vs) ∈ F ∧ vs.length = ways.length ∧ ∀ k u, k < ways.length → vs[k]? = some u → intRow F u (ways.getD k [])
theorem intRow.mono {F G : Hp} {v : Value} {xs : List Int} (h : intRow F v xs) (hs : ∀ e ∈ F, e ∈ G) : intRow G v xs := by
  obtain ⟨b, cap, h1, h2⟩ := h
  exact ⟨b, cap, h1, hs _ h2⟩
theorem wayRow.mono {F G : Hp} {v : Value} {ways : List (List Int)} (h : wayRow F v ways) (hs : ∀ e ∈ F, e ∈ G) : wayRow G v ways := by
  obtain ⟨b, cap, vs, h1, h2, h3, h4⟩ := h
  exact ⟨b, cap, vs, h1, hs _ h2, h3, fun k u hk hu => (h4 k u hk hu).mono hs⟩
theorem intRow.C {F : Hp} {w0 w : World} {X : Nat → Prop} (hw : WOK w0 X F w) {v : Value} {xs : List Int} (h : intRow F v xs) (hm : xs.length ≤ 9223372036854775807) : ∃ A c, v = .slice A xs.length c ∧ xs.length ≤ c ∧ Kd.C (Kd.int .i64) w A xs.length xs := by
  obtain ⟨b, cap, h1, h2⟩ := h
  obtain ⟨o, h3, h4⟩ := hw.bl _ h2
  have h5 : xs.length ≤ cap := by obtain ⟨_, _, h5, _⟩ := h4; exact h5
  exact ⟨_, cap, h1, h5, C_orow h3 h4 rfl hm⟩
theorem wayRow.C {F : Hp} {w0 w : World} {X : Nat → Prop} (hw : WOK w0 X F w) {v : Value} {ways : List (List Int)} (h : wayRow F v ways) (hm : ways.length ≤ 9223372036854775807) (hm2 : ∀ k, k < ways.length → (ways.getD k []).length ≤ 9223372036854775807) : ∃ A c, v = .slice A ways.length c ∧ ways.length ≤ c ∧ Kd.C waysK w A ways.length ways := by
  obtain ⟨b, cap, vs, h1, h2, h3, h4⟩ := h
  obtain ⟨o, h5, h6⟩ := hw.bl _ h2
  have h7 : ways.length ≤ cap := by obtain ⟨_, _, h7, _⟩ := h6; exact h7
  refine ⟨_, cap, h1, h7, C_row (d := waysK) (cells := vs.map fun v => [v]) h5 (e := 33) (cap := cap) ?_ (by simp [h3]) (by intro c hc; obtain ⟨v, _, rfl⟩ := List.mem_map.1 hc; rfl) ?_ hm⟩
  · rw [flat_ones, List.length_map, h3]
    exact h6
  · intro j x c hx hc
    have hj : j < ways.length := (List.getElem?_eq_some_iff.1 hx).1
    have hxd : ways.getD j [] = x := by simp [List.getD_eq_getElem?_getD, hx]
    rw [List.getElem?_map] at hc
    obtain ⟨u, hu, rfl⟩ := Option.map_eq_some_iff.1 hc
    have hlx := hm2 j hj
    obtain ⟨A, c, h8, h9, h10⟩ := (h4 j u hj hu).C hw hlx
    rw [hxd] at h8 h9 h10
    subst h8
    exact ⟨A, c, rfl, h9, h10⟩
/-- a copy of a row, in four steps: nothing yet, the literal, the copy, stored -/
inductive Stg where
  | s0
  | s1 (b : Nat)
  | s2 (b b' cap : Nat)
  | s3 (b b' cap : Nat)
def Stg.x : Stg → Nat
  | .s0 => 0
  | .s1 b => b
  | .s2 b _ _ => b
  | .s3 b _ _ => b
def Stg.y : Stg → Nat
  | .s2 _ b _ => b
  | .s3 _ b _ => b
  | _ => 0
def Stg.z : Stg → Nat
  | .s2 _ _ c => c
  | .s3 _ _ c => c
  | _ => 0
def hG (m : Nat) (ints : List Value) (base : Hp) (base' : Nat → Nat → Hp) : Stg → Hp
  | .s0 => base
  | .s1 b => (b, true, orow 3 1 0 0 []) :: base
  | .s2 _ b' cap => (b', true, orow 3 1 m cap ints) :: base
  | .s3 _ b' cap => (b', true, orow 3 1 m cap ints) :: base' b' cap
end Go.Proofs.YtcmepdamemnbkaaDoor
namespace Go.Proofs.YtcmepdamemnbkaaDoor
open Go.RowKit Go.Proofs.YtcmepdamemnbkaaDoorW.PrintWords
set_option linter.unusedVariables false
set_option linter.unusedSimpArgs false
def lexF : List Int → List Int → Bool
  | x :: a, y :: b => if x = y then lexF a b else decide (x < y)
  | _, _ => false
def aheadF (xs ys : List Int) : Bool := if xs.length = ys.length then lexF xs ys else decide (xs.length < ys.length)
section
variable {P : Program} {ro : Option Nat} {n N : Nat} {ds : List Deferred} {w0 : World} {X : Nat → Prop} {Q : Exit → Act → World → Prop} {σ : Slots} {η : Hp} {ops rest : List Oper} {d : Option Tmp} {ty t t' : TypeId} {pos : String} {aft : Array Edge} {g : Option (Nat × Bool)}
theorem xo_lenR (T : Tys P) {x : Operand} {t e : TypeId} {r : RowR} {m : Nat} (hg : gS ops σ g = some true) (hx : ev σ x = some (valR r m)) (h0 : r = none → m = 0) (ht : look t T.el = some e) (hN : dstOK N d = true) (h : XO P ro n N ds w0 X Q ops (putS d (.int .i64 (m : Int)) σ) η rest) :
    XO P ro n N ds w0 X Q ops σ η (⟨d, .call { callee := .builtin .len, args := #[x], argTypes := #[t] }, ty, pos, aft, g⟩ :: rest) := by
  rcases r with _ | p
  · have := h0 rfl
    subst this
    exact xo_len T hg hx ht hN h
  · exact xo_len T hg hx ht hN h
end
def okI (r : List RecT) (H : List Int) (at_ k i : Nat) : Bool := bitB k at_ && (List.range i).all fun j => !bitB k j || decide (idAt r j ∈ H)
/-- one mask of the search -/
def restsStep (r : List RecT) (H : List Int) (at_ : Nat) (best : List Int) (k : Nat) : List Int :=
  if okI r H at_ k r.length && carriesF r (selM r k) && (decide ((best.length : Int) = 0) || aheadF (idsF r fun n => decide (n ∈ selM r k)) best) then idsF r fun n => decide (n ∈ selM r k) else best
def restsBest (r : List RecT) (H : List Int) (at_ m : Nat) : List Int := (List.range m).foldl (restsStep r H at_) []
end Go.Proofs.YtcmepdamemnbkaaDoor
namespace Go.Proofs.YtcmepdamemnbkaaDoor
open Go.RowKit Go.Proofs.YtcmepdamemnbkaaDoorW.PrintWords
set_option linter.unusedVariables false
set_option linter.unusedSimpArgs false
theorem isNaN_calls (x : Int) (w : World) : Calls Tryd.prog 98 #[.int .i64 x] w fun e w' => e = .returned (.bool false) ∧ Below w.heap.size w w' := by
  refine x_calls (X := XNone) Tryd.func98 rfl rfl rfl ?_
  with_reducible repeat refine xc_seq ?_
  with_reducible refine xc_region ?_
  refine xo_asg rfl rfl rfl ?_
  with_reducible refine xo_nil ?_
  with_reducible repeat (first | refine xq_then ?_ | refine xq_blockN ?_ | refine xq_scopeN ?_)
  with_reducible repeat refine xc_seq ?_
  with_reducible refine xc_region ?_
  refine xo_mv rfl rfl rfl ?_
  refine xo_mv rfl rfl rfl ?_
  refine xo_neq rfl rfl rfl rfl ?_
  refine xo_as (i := 5) rfl (congrArg Value.bool (ne_ff x)) ?_
  refine xo_asg rfl rfl rfl ?_
  with_reducible refine xo_nil ?_
  with_reducible repeat (first | refine xq_then ?_ | refine xq_blockN ?_ | refine xq_scopeN ?_)
  with_reducible repeat refine xc_seq ?_
  with_reducible refine xc_ret ?_
  with_reducible repeat (first | refine xq_thenR ?_ | refine xq_blockR ?_ | refine xq_scopeR ?_)
  exact xq_ret1 rfl rfl fun w' hw => ⟨rfl, hw.kx.below⟩
def cmpI (x y : Int) : Int := if x < y then -1 else if y < x then 1 else 0
theorem cmp_calls (x y : Int) (w : World) : Calls Tryd.prog 86 #[.int .i64 x, .int .i64 y] w fun e w' => e = .returned (.int .i64 (cmpI x y)) ∧ Below w.heap.size w w' := by
  have eg := enters_of Tryd.func98 (by kernel_rfl) rfl
  refine x_calls (X := XNone) Tryd.func86 rfl rfl rfl ?_
  with_reducible repeat refine xc_seq ?_
  with_reducible refine xc_region ?_
  refine xo_asg rfl rfl rfl ?_
  with_reducible refine xo_nil ?_
  with_reducible repeat (first | refine xq_then ?_ | refine xq_blockN ?_ | refine xq_scopeN ?_)
  with_reducible repeat refine xc_seq ?_
  with_reducible refine xc_region ?_
  refine xo_mv rfl rfl rfl ?_
  refine xo_callB (fs := []) (cs := []) rfl rfl rfl eg rfl (fun w1 hw1 => isNaN_calls x w1) ?_
  refine xo_asg rfl rfl rfl ?_
  with_reducible refine xo_nil ?_
  with_reducible repeat (first | refine xq_then ?_ | refine xq_blockN ?_ | refine xq_scopeN ?_)
  with_reducible repeat refine xc_seq ?_
  with_reducible refine xc_region ?_
  refine xo_mv rfl rfl rfl ?_
  refine xo_callB (fs := []) (cs := []) rfl rfl rfl eg rfl (fun w1 hw1 => isNaN_calls y w1) ?_
  refine xo_asg rfl rfl rfl ?_
  with_reducible refine xo_nil ?_
  with_reducible repeat (first | refine xq_then ?_ | refine xq_blockN ?_ | refine xq_scopeN ?_)
  with_reducible repeat refine xc_seq ?_
  with_reducible refine xc_region ?_
  refine xo_mv rfl rfl rfl ?_
  with_reducible refine xo_nil ?_
  with_reducible repeat (first | refine xq_then ?_ | refine xq_blockN ?_ | refine xq_scopeN ?_)
  with_reducible repeat refine xc_seq ?_
  refine xc_condF rfl ?_
  with_reducible refine xc_skip ?_
  with_reducible repeat (first | refine xq_then ?_ | refine xq_blockN ?_ | refine xq_scopeN ?_)
  with_reducible repeat refine xc_seq ?_
  with_reducible refine xc_region ?_
  refine xo_mv rfl rfl rfl ?_
  with_reducible refine xo_nil ?_
  with_reducible repeat (first | refine xq_then ?_ | refine xq_blockN ?_ | refine xq_scopeN ?_)
  with_reducible repeat refine xc_seq ?_
  refine xc_condF rfl ?_
  with_reducible refine xc_skip ?_
  with_reducible repeat (first | refine xq_then ?_ | refine xq_blockN ?_ | refine xq_scopeN ?_)
  with_reducible repeat refine xc_seq ?_
  with_reducible refine xc_region ?_
  refine xo_mv rfl rfl rfl ?_
  refine xo_mv rfl rfl rfl ?_
  refine xo_lss rfl rfl rfl rfl ?_
  with_reducible refine xo_nil ?_
  with_reducible repeat (first | refine xq_then ?_ | refine xq_blockN ?_ | refine xq_scopeN ?_)
  with_reducible repeat refine xc_seq ?_
  refine xc_cond rfl (fun h1 => ?_) (fun h1 => ?_)
  · with_reducible repeat refine xc_seq ?_
    with_reducible refine xc_region ?_
    refine xo_asg rfl rfl rfl ?_
    with_reducible refine xo_nil ?_
    with_reducible repeat (first | refine xq_then ?_ | refine xq_blockN ?_ | refine xq_scopeN ?_)
    with_reducible repeat refine xc_seq ?_
    with_reducible refine xc_ret ?_
    with_reducible repeat (first | refine xq_thenR ?_ | refine xq_blockR ?_ | refine xq_scopeR ?_)
    exact xq_ret1 rfl rfl fun w' hw => ⟨by rw [cmpI, if_pos (of_decide_eq_true h1)], hw.kx.below⟩
  with_reducible refine xc_skip ?_
  with_reducible repeat (first | refine xq_then ?_ | refine xq_blockN ?_ | refine xq_scopeN ?_)
  with_reducible repeat refine xc_seq ?_
  with_reducible refine xc_region ?_
  refine xo_mv rfl rfl rfl ?_
  refine xo_mv rfl rfl rfl ?_
  refine xo_gtr rfl rfl rfl rfl ?_
  with_reducible refine xo_nil ?_
  with_reducible repeat (first | refine xq_then ?_ | refine xq_blockN ?_ | refine xq_scopeN ?_)
  with_reducible repeat refine xc_seq ?_
  refine xc_cond rfl (fun h2 => ?_) (fun h2 => ?_)
  · with_reducible repeat refine xc_seq ?_
    with_reducible refine xc_region ?_
    refine xo_asg rfl rfl rfl ?_
    with_reducible refine xo_nil ?_
    with_reducible repeat (first | refine xq_then ?_ | refine xq_blockN ?_ | refine xq_scopeN ?_)
    with_reducible repeat refine xc_seq ?_
    with_reducible refine xc_ret ?_
    with_reducible repeat (first | refine xq_thenR ?_ | refine xq_blockR ?_ | refine xq_scopeR ?_)
    exact xq_ret1 rfl rfl fun w' hw => ⟨by rw [cmpI, if_neg (of_decide_eq_false h1), if_pos (of_decide_eq_true h2)], hw.kx.below⟩
  with_reducible refine xc_skip ?_
  with_reducible repeat (first | refine xq_then ?_ | refine xq_blockN ?_ | refine xq_scopeN ?_)
  with_reducible repeat refine xc_seq ?_
  with_reducible refine xc_region ?_
  refine xo_asg rfl rfl rfl ?_
  with_reducible refine xo_nil ?_
  with_reducible repeat (first | refine xq_then ?_ | refine xq_blockN ?_ | refine xq_scopeN ?_)
  with_reducible repeat refine xc_seq ?_
  with_reducible refine xc_ret ?_
  with_reducible repeat (first | refine xq_thenR ?_ | refine xq_blockR ?_ | refine xq_scopeR ?_)
  exact xq_ret1 rfl rfl fun w' hw => ⟨by rw [cmpI, if_neg (of_decide_eq_false h1), if_neg (of_decide_eq_false h2)], hw.kx.below⟩
def cmpF : List Int → List Int → Int
  | x :: a, y :: b => if cmpI x y = 0 then cmpF a b else cmpI x y
  | _, _ => 0
theorem cmpF_lex : ∀ a b : List Int, decide (0 ≤ cmpF a b) = !lexF a b
  | [], _ => by simp [cmpF, lexF]
  | _ :: _, [] => by simp [cmpF, lexF]
  | x :: a, y :: b => by
    rw [cmpF, lexF, cmpI]
    by_cases h1 : x < y
    · rw [if_pos h1, if_neg (by decide), if_neg (by omega), decide_eq_true h1]; rfl
    · by_cases h2 : y < x
      · rw [if_neg h1, if_pos h2, if_neg (by decide), if_neg (by omega), decide_eq_false h1]; rfl
      · rw [if_neg h1, if_neg h2, if_pos rfl, if_pos (by omega)]
        exact cmpF_lex a b
theorem compare_enters : ∀ args w, (callFunc 76 args).run Tryd.prog w = .ok (.enter 76 args) w := enters_of Tryd.func76 (by kernel_rfl) rfl
theorem compare_calls (A B : Option Addr) (c c' : Nat) (xs ys : List Int) (w : World) (hr : Kd.C (Kd.int .i64) w A xs.length xs) (hl : Kd.C (Kd.int .i64) w B ys.length ys) (he : xs.length = ys.length) :
    Calls Tryd.prog 76 #[.slice A xs.length c, .slice B ys.length c'] w fun e w' => e = .returned (.int .i64 (cmpF xs ys)) ∧ Below w.heap.size w w' := by
  have hn := hr.2.1
  have eg := enters_of Tryd.func86 (by kernel_rfl) rfl
  refine x_calls (X := XNone) Tryd.func76 rfl rfl rfl ?_
  with_reducible repeat refine xc_seq ?_
  with_reducible refine xc_region ?_
  refine xo_asg rfl rfl rfl ?_
  with_reducible refine xo_nil ?_
  with_reducible repeat (first | refine xq_then ?_ | refine xq_blockN ?_ | refine xq_scopeN ?_)
  with_reducible repeat refine xc_seq ?_
  with_reducible refine xc_region ?_
  refine xo_mv rfl rfl rfl ?_
  refine xo_len T_ rfl rfl rfl rfl ?_
  refine xo_mv rfl rfl rfl ?_
  with_reducible refine xo_nil ?_
  with_reducible repeat (first | refine xq_then ?_ | refine xq_blockN ?_ | refine xq_scopeN ?_)
  with_reducible repeat refine xc_seq ?_
  with_reducible refine xc_block ?_
  refine xc_loop (γ := Nat) (fun k => k ≤ xs.length ∧ cmpF xs ys = cmpF (xs.drop k) (ys.drop k)) (fun k => [(0, .slice A xs.length c), (1, .slice B ys.length c'), (9, .slice A xs.length c), (10, .int .i64 (xs.length : Int)), (11, .int .i64 (k : Int))]) (fun _ => []) (fun k => xs.length - k) 0
    ⟨Nat.zero_le _, rfl⟩ ⟨rfl, rfl, rfl, rfl, rfl, trivial⟩ (List.Sublist.refl _) ?_
  rintro k ⟨hk, hlex⟩
  with_reducible repeat refine xc_seq ?_
  with_reducible refine xc_region ?_
  refine xo_lss rfl rfl rfl rfl ?_
  with_reducible refine xo_nil ?_
  with_reducible repeat (first | refine xq_then ?_ | refine xq_blockN ?_ | refine xq_scopeN ?_)
  with_reducible repeat refine xc_seq ?_
  refine xc_cond rfl (fun h => ?_) (fun h => ?_)
  · have hlt : k < xs.length := by have := of_decide_eq_true h; omega
    obtain ⟨ad, rfl, r1⟩ := int_at hr k hlt
    obtain ⟨bd, rfl, r2⟩ := int_at hl k (by omega)
    rw [drop_at xs 0 k hlt, drop_at ys 0 k (by omega), cmpF] at hlex
    have h19 : decide ((ys.length : Int) ≤ (k : Int)) = false := decide_eq_false (by omega)
    with_reducible refine xc_skip ?_
    with_reducible repeat (first | refine xq_then ?_ | refine xq_blockN ?_ | refine xq_scopeN ?_)
    with_reducible repeat refine xc_seq ?_
    with_reducible refine xc_block ?_
    with_reducible repeat refine xc_seq ?_
    with_reducible refine xc_region ?_
    refine xo_mv rfl rfl rfl ?_
    refine xo_ia T_ rfl rfl rfl rfl rfl ⟨by omega, by omega⟩ rfl ?_
    refine xo_loadR0 T_ rfl rfl rfl (by first | assumption | exact RO.fld (by assumption) rfl) rfl ?_
    refine xo_asg rfl rfl rfl ?_
    refine xo_asg rfl rfl rfl ?_
    with_reducible refine xo_nil ?_
    with_reducible repeat (first | refine xq_then ?_ | refine xq_blockN ?_ | refine xq_scopeN ?_)
    with_reducible repeat refine xc_seq ?_
    with_reducible refine xc_region ?_
    refine xo_mv rfl rfl rfl ?_
    refine xo_mv rfl rfl rfl ?_
    refine xo_len T_ rfl rfl rfl rfl ?_
    refine xo_geq rfl rfl rfl rfl ?_
    refine xo_as (i := 19) rfl (congrArg Value.bool h19) ?_
    with_reducible refine xo_nil ?_
    with_reducible repeat (first | refine xq_then ?_ | refine xq_blockN ?_ | refine xq_scopeN ?_)
    with_reducible repeat refine xc_seq ?_
    refine xc_condF rfl ?_
    with_reducible refine xc_skip ?_
    with_reducible repeat (first | refine xq_then ?_ | refine xq_blockN ?_ | refine xq_scopeN ?_)
    with_reducible repeat refine xc_seq ?_
    with_reducible refine xc_region ?_
    refine xo_mv rfl rfl rfl ?_
    refine xo_mv rfl rfl rfl ?_
    refine xo_ia T_ rfl rfl rfl rfl rfl ⟨by omega, by omega⟩ rfl ?_
    refine xo_loadR0 T_ rfl rfl rfl (by first | assumption | exact RO.fld (by assumption) rfl) rfl ?_
    refine xo_asg rfl rfl rfl ?_
    with_reducible refine xo_nil ?_
    with_reducible repeat (first | refine xq_then ?_ | refine xq_blockN ?_ | refine xq_scopeN ?_)
    with_reducible repeat refine xc_seq ?_
    with_reducible refine xc_region ?_
    refine xo_mv rfl rfl rfl ?_
    refine xo_mv rfl rfl rfl ?_
    refine xo_callB (fs := []) (cs := []) rfl rfl rfl eg rfl (fun w1 hw1 => cmp_calls _ _ w1) ?_
    refine xo_asg rfl rfl rfl ?_
    with_reducible refine xo_nil ?_
    with_reducible repeat (first | refine xq_then ?_ | refine xq_blockN ?_ | refine xq_scopeN ?_)
    with_reducible repeat refine xc_seq ?_
    with_reducible refine xc_region ?_
    refine xo_mv rfl rfl rfl ?_
    refine xo_neq rfl rfl rfl rfl ?_
    with_reducible refine xo_nil ?_
    with_reducible repeat (first | refine xq_then ?_ | refine xq_blockN ?_ | refine xq_scopeN ?_)
    with_reducible repeat refine xc_seq ?_
    refine xc_cond rfl (fun h2 => ?_) (fun h2 => ?_)
    · have h2 : cmpI (xs.getD k 0) (ys.getD k 0) ≠ 0 := by simpa using h2
      with_reducible repeat refine xc_seq ?_
      with_reducible refine xc_region ?_
      refine xo_mv rfl rfl rfl ?_
      refine xo_asg rfl rfl rfl ?_
      with_reducible refine xo_nil ?_
      with_reducible repeat (first | refine xq_then ?_ | refine xq_blockN ?_ | refine xq_scopeN ?_)
      with_reducible repeat refine xc_seq ?_
      with_reducible refine xc_ret ?_
      with_reducible repeat (first | refine xq_thenR ?_ | refine xq_blockR ?_ | refine xq_scopeR ?_)
      exact xq_ret1 rfl rfl fun w' hw => ⟨by rw [hlex, if_neg h2], hw.kx.below⟩
    have h2 : cmpI (xs.getD k 0) (ys.getD k 0) = 0 := by simpa using h2
    with_reducible refine xc_skip ?_
    with_reducible repeat (first | refine xq_then ?_ | refine xq_blockN ?_ | refine xq_scopeN ?_)
    with_reducible repeat refine xc_seq ?_
    with_reducible refine xc_region ?_
    refine xo_add rfl rfl rfl (by omega) rfl ?_
    refine xo_mv rfl rfl rfl ?_
    with_reducible refine xo_nil ?_
    with_reducible repeat (first | refine xq_then ?_ | refine xq_blockN ?_ | refine xq_scopeN ?_)
    exact xq_again _ _ _ _ _ (k + 1) ⟨by omega, by rw [hlex, if_pos h2]⟩ (by omega) ⟨rfl, rfl, rfl, rfl, rfl, trivial⟩ (List.Sublist.refl _)
  · have hge : ¬ k < xs.length := by have := of_decide_eq_false h; omega
    rw [List.drop_of_length_le (by omega)] at hlex
    have h35 : decide ((xs.length : Int) < (ys.length : Int)) = false := decide_eq_false (by omega)
    with_reducible refine xc_exit ?_
    with_reducible repeat (first | refine xq_blockX ?_ | refine xq_thenE ?_ | refine xq_blockE rfl ?_ | refine xq_scopeE ?_)
    with_reducible repeat (first | refine xq_then ?_ | refine xq_blockN ?_ | refine xq_scopeN ?_)
    with_reducible repeat refine xc_seq ?_
    with_reducible refine xc_region ?_
    refine xo_mv rfl rfl rfl ?_
    refine xo_len T_ rfl rfl rfl rfl ?_
    refine xo_mv rfl rfl rfl ?_
    refine xo_len T_ rfl rfl rfl rfl ?_
    refine xo_lss rfl rfl rfl rfl ?_
    refine xo_as (i := 35) rfl (congrArg Value.bool h35) ?_
    with_reducible refine xo_nil ?_
    with_reducible repeat (first | refine xq_then ?_ | refine xq_blockN ?_ | refine xq_scopeN ?_)
    with_reducible repeat refine xc_seq ?_
    refine xc_condF rfl ?_
    with_reducible refine xc_skip ?_
    with_reducible repeat (first | refine xq_then ?_ | refine xq_blockN ?_ | refine xq_scopeN ?_)
    with_reducible repeat refine xc_seq ?_
    with_reducible refine xc_region ?_
    refine xo_asg rfl rfl rfl ?_
    with_reducible refine xo_nil ?_
    with_reducible repeat (first | refine xq_then ?_ | refine xq_blockN ?_ | refine xq_scopeN ?_)
    with_reducible repeat refine xc_seq ?_
    with_reducible refine xc_ret ?_
    with_reducible repeat (first | refine xq_thenR ?_ | refine xq_blockR ?_ | refine xq_scopeR ?_)
    exact xq_ret1 rfl rfl fun w' hw => ⟨by rw [hlex]; rfl, hw.kx.below⟩
end Go.Proofs.YtcmepdamemnbkaaDoor
namespace Go.Proofs.YtcmepdamemnbkaaDoor
open Go.RowKit Go.MapKept
set_option linter.unusedVariables false
set_option linter.unusedSimpArgs false
theorem clone_enters : ∀ args w, (callFunc 63 args).run Tryd.prog w = .ok (.enter 63 args) w := enters_of Tryd.func63 (by kernel_rfl) rfl
set_option maxRecDepth 100000 in
set_option maxHeartbeats 2000000 in
theorem clone_calls (b : Nat) (es : Array MapEntry) (clock : Nat) (w : World) (hb : w.heap[b]? = some (.map es clock)) :
    Calls Tryd.prog 63 #[.map (some b)] w fun e w' => e = .returned (.map (some w.heap.size)) ∧ w' = w.alloc (.map es clock) := by
  have hq := fun w => run_eql_map_nil_sl (P := Tryd.prog) w 62 _ _ (some b) Tryd.underlying62
  go_enter Tryd.func63, Tryd.ntmps63
  go_wp2
  rw [run_callFunc_extern Tryd.func77 (by kernel_rfl) (by kernel_rfl) (by kernel_rfl) (e := Extern.MapsClone.clone) (by kernel_rfl), run_maps_clone_sl w 62 hb]
  simp only [Result.andThen]
  rw [Oper.upon_value]
  go_wp2
  rw [run_typeAssert_map_sl _ 62 _ _ _ _ Tryd.underlying62]
  simp only [Result.andThen]
  rw [Oper.upon_value]
  go_wp2
  go_ret
  exact ⟨rfl, rfl⟩
end Go.Proofs.YtcmepdamemnbkaaDoor
namespace Go.Proofs.YtcmepdamemnbkaaDoor
open Go.RowKit Go.Proofs.YtcmepdamemnbkaaDoorW.PrintWords
set_option linter.unusedVariables false
set_option linter.unusedSimpArgs false
/-- what the reference's Rests and Causes are asked beside: the record's place -/
theorem refOpen_zero {r : List RecT} {l : List LetT} {day id : Int} (ho : openF r l day [id] = 0) : recordedF r = true ∧ knownF r id = true := by
  have hck : checkF r l = 0 := by
    unfold openF at ho
    split at ho
    · assumption
    · exact absurd ho (by assumption)
  refine ⟨check_zero hck, ?_⟩
  unfold openF at ho
  rw [if_pos hck] at ho
  split at ho
  · split at ho
    · rename_i h; simpa using h
    · cases ho
  · cases ho
def refRestsR (r : List RecT) (l : List LetT) (day id : Int) : List Int := if openF r l day [id] = 0 ∧ id ∈ holdsF r (goneF r l day) then restsBest r (holdsF r (goneF r l day)) (atF r id).toNat (2 ^ r.length) else []
def refRestsC (r : List RecT) (l : List LetT) (day id : Int) : Int := if openF r l day [id] = 0 then (if id ∈ holdsF r (goneF r l day) then 0 else 8) else openF r l day [id]
end Go.Proofs.YtcmepdamemnbkaaDoor
namespace Go.Proofs.YtcmepdamemnbkaaDoor
open Go.RowKit Go.Proofs.YtcmepdamemnbkaaDoorW.PrintWords
set_option linter.unusedVariables false
set_option linter.unusedSimpArgs false
def okC (r : List RecT) (G : List Int) (k i : Nat) : Bool := (List.range i).all fun j => !bitB k j || decide (idAt r j ∈ G)
/-- the ids of G that are not in S -/
def diffF (G S : List Int) : List Int := G.filter fun n => !decide (n ∈ S)
def causesStep (r : List RecT) (G : List Int) (at_ : Nat) (best : List Int) (k : Nat) : List Int :=
  if okC r G k r.length && decide (idAt r at_ ∈ holdsF r (diffF G (selM r k))) && (decide ((best.length : Int) = 0) || aheadF (idsF r fun n => decide (n ∈ selM r k)) best) then idsF r fun n => decide (n ∈ selM r k) else best
def causesBest (r : List RecT) (G : List Int) (at_ m : Nat) : List Int := (List.range m).foldl (causesStep r G at_) []
def refCausesR (r : List RecT) (l : List LetT) (day id : Int) : List Int := if openF r l day [id] = 0 ∧ id ∉ holdsF r (goneF r l day) then causesBest r (goneF r l day) (atF r id).toNat (2 ^ r.length) else []
def refCausesC (r : List RecT) (l : List LetT) (day id : Int) : Int := if openF r l day [id] = 0 then (if id ∈ holdsF r (goneF r l day) then 8 else 0) else openF r l day [id]
end Go.Proofs.YtcmepdamemnbkaaDoor
namespace Go.Proofs.YtcmepdamemnbkaaDoor
open Go.RowKit Go.Proofs.YtcmepdamemnbkaaDoorW.PrintWords
set_option linter.unusedVariables false
set_option linter.unusedSimpArgs false
theorem lexF_irrefl : ∀ a : List Int, lexF a a = false
  | [] => rfl
  | x :: a => by rw [lexF, if_pos rfl]; exact lexF_irrefl a
theorem lexF_tri : ∀ a b : List Int, a.length = b.length → lexF a b = false → lexF b a = false → a = b
  | [], [], _, _, _ => rfl
  | [], _ :: _, h, _, _ => by simp at h
  | _ :: _, [], h, _, _ => by simp at h
  | x :: a, y :: b, h, h1, h2 => by
    rw [lexF] at h1 h2
    by_cases e : x = y
    · subst e
      rw [if_pos rfl] at h1 h2
      rw [lexF_tri a b (by simpa using h) h1 h2]
    · rw [if_neg e] at h1
      rw [if_neg (fun q => e q.symm)] at h2
      have := of_decide_eq_false h1
      have := of_decide_eq_false h2
      omega
theorem lexF_trans : ∀ a b c : List Int, lexF a b = true → lexF b c = true → lexF a c = true
  | [], _, _, h, _ => by simp [lexF] at h
  | _ :: _, [], _, h, _ => by simp [lexF] at h
  | _ :: _, _ :: _, [], _, h => by simp [lexF] at h
  | x :: a, y :: b, z :: c, h1, h2 => by
    rw [lexF] at h1 h2 ⊢
    by_cases e1 : x = y
    · subst e1
      rw [if_pos rfl] at h1
      by_cases e2 : x = z
      · subst e2
        rw [if_pos rfl] at h2 ⊢
        exact lexF_trans a b c h1 h2
      · rw [if_neg e2] at h2 ⊢
        exact h2
    · rw [if_neg e1] at h1
      have h1 := of_decide_eq_true h1
      by_cases e2 : y = z
      · subst e2
        rw [if_neg e1]
        exact decide_eq_true h1
      · rw [if_neg e2] at h2
        have h2 := of_decide_eq_true h2
        rw [if_neg (by omega)]
        exact decide_eq_true (by omega)
theorem aheadF_irrefl (a : List Int) : aheadF a a = false := by rw [aheadF, if_pos rfl, lexF_irrefl]
theorem aheadF_tri {a b : List Int} (h1 : aheadF a b = false) (h2 : aheadF b a = false) : a = b := by
  unfold aheadF at h1 h2
  by_cases e : a.length = b.length
  · rw [if_pos e] at h1
    rw [if_pos e.symm] at h2
    exact lexF_tri a b e h1 h2
  · rw [if_neg e] at h1
    rw [if_neg (fun q => e q.symm)] at h2
    have := of_decide_eq_false h1
    have := of_decide_eq_false h2
    omega
theorem aheadF_trans {a b c : List Int} (h1 : aheadF a b = true) (h2 : aheadF b c = true) : aheadF a c = true := by
  unfold aheadF at *
  by_cases e1 : a.length = b.length <;> by_cases e2 : b.length = c.length
  · rw [if_pos e1] at h1
    rw [if_pos e2] at h2
    rw [if_pos (e1.trans e2)]
    exact lexF_trans a b c h1 h2
  · rw [if_neg e2] at h2
    rw [if_neg (fun q => e2 (e1.symm.trans q))]
    have := of_decide_eq_true h2
    exact decide_eq_true (by omega)
  · rw [if_neg e1] at h1
    rw [if_neg (fun q => e1 (q.trans e2.symm))]
    have := of_decide_eq_true h1
    exact decide_eq_true (by omega)
  · rw [if_neg e1] at h1
    rw [if_neg e2] at h2
    have h3 := of_decide_eq_true h1
    have h4 := of_decide_eq_true h2
    rw [if_neg (by omega)]
    exact decide_eq_true (by omega)
/-- the least of the good lists, if there is one -/
structure Least (good : List Int → Prop) (best : List Int) (found : Prop) : Prop where
  none : ¬ found → best = [] ∧ ∀ y, ¬ good y
  is : found → good best ∧ ∀ y, good y → aheadF y best = false
theorem Least.eq {g g' : List Int → Prop} {b b' : List Int} {f f' : Prop} (h : Least g b f) (k : Least g' b' f') (hg : ∀ y, g y ↔ g' y) : b = b' := by
  by_cases hf : f
  · by_cases hf' : f'
    · obtain ⟨h1, h2⟩ := h.is hf
      obtain ⟨h3, h4⟩ := k.is hf'
      exact aheadF_tri (h4 _ ((hg _).1 h1)) (h2 _ ((hg _).2 h3))
    · exact absurd ((hg _).1 (h.is hf).1) ((k.none hf').2 _)
  · by_cases hf' : f'
    · exact absurd ((hg _).2 (k.is hf').1) ((h.none hf).2 _)
    · rw [(h.none hf).1, (k.none hf').1]
theorem Least.mono {g g' : List Int → Prop} {b : List Int} {f f' : Prop} (h : Least g b f) (hg : ∀ y, g y ↔ g' y) (hf : f ↔ f') : Least g' b f' :=
  ⟨fun q => ⟨(h.none (fun x => q (hf.1 x))).1, fun y hy => (h.none (fun x => q (hf.1 x))).2 y ((hg y).2 hy)⟩, fun q => ⟨(hg _).1 (h.is (hf.2 q)).1, fun y hy => (h.is (hf.2 q)).2 y ((hg y).2 hy)⟩⟩
theorem Least.start : Least (fun _ => False) [] False := ⟨fun _ => ⟨rfl, fun _ h => h⟩, fun h => h.elim⟩
/-- one list more: it is good and ahead (or the first): it takes the place -/
theorem Least.step {g : List Int → Prop} {b : List Int} {f : Prop} (h : Least g b f) (x : List Int) : (f → aheadF x b = true) → Least (fun y => g y ∨ y = x) x True := fun hx =>
  ⟨fun q => absurd trivial q, fun _ => ⟨.inr rfl, fun y hy => by
    rcases hy with hy | rfl
    · by_cases hf : f
      · obtain ⟨h1, h2⟩ := h.is hf
        cases h3 : aheadF y x with
        | false => rfl
        | true =>
          have h4 := aheadF_trans h3 (hx hf)
          rw [h2 y hy] at h4
          cases h4
      · exact absurd hy ((h.none hf).2 y)
    · exact aheadF_irrefl _⟩⟩
/-- it is good and not ahead: what was best stays -/
theorem Least.stay {g : List Int → Prop} {b : List Int} {f : Prop} (h : Least g b f) (x : List Int) (hf : f) (hx : aheadF x b = false) : Least (fun y => g y ∨ y = x) b f :=
  ⟨fun q => absurd hf q, fun _ => ⟨.inl (h.is hf).1, fun y hy => by
    rcases hy with hy | rfl
    · exact (h.is hf).2 y hy
    · exact hx⟩⟩
/-- the reference's search -/
theorem least_ref (c : Nat → Bool) (row : Nat → List Int) (hne : ∀ k, c k = true → row k ≠ []) : ∀ m, Least (fun y => ∃ k, k < m ∧ c k = true ∧ y = row k)
    ((List.range m).foldl (fun best k => if c k && (decide ((best.length : Int) = 0) || aheadF (row k) best) then row k else best) []) (∃ k, k < m ∧ c k = true)
  | 0 => Least.start.mono (fun y => by simp) (by simp)
  | m + 1 => by
    have ih := least_ref c row hne m
    rw [List.range_succ, List.foldl_append, List.foldl_cons, List.foldl_nil]
    generalize (List.range m).foldl (fun best k => if c k && (decide ((best.length : Int) = 0) || aheadF (row k) best) then row k else best) [] = b at *
    have hg : ∀ y, ((∃ k, k < m ∧ c k = true ∧ y = row k) ∨ (c m = true ∧ y = row m)) ↔ ∃ k, k < m + 1 ∧ c k = true ∧ y = row k := fun y => by
      constructor
      · rintro (⟨k, h1, h2⟩ | h)
        · exact ⟨k, by omega, h2⟩
        · exact ⟨m, by omega, h⟩
      · rintro ⟨k, h1, h2⟩
        by_cases e : k = m
        · subst e; exact .inr h2
        · exact .inl ⟨k, by omega, h2⟩
    have hf : ((∃ k, k < m ∧ c k = true) ∨ c m = true) ↔ ∃ k, k < m + 1 ∧ c k = true := by
      constructor
      · rintro (⟨k, h1, h2⟩ | h)
        · exact ⟨k, by omega, h2⟩
        · exact ⟨m, by omega, h⟩
      · rintro ⟨k, h1, h2⟩
        by_cases e : k = m
        · subst e; exact .inr h2
        · exact .inl ⟨k, by omega, h2⟩
    cases hc : c m
    · rw [Bool.false_and, if_neg (by simp)]
      exact ih.mono (fun y => by rw [← hg]; simp [hc]) (by rw [← hf]; simp [hc])
    · rw [Bool.true_and]
      by_cases hfm : ∃ k, k < m ∧ c k = true
      · obtain ⟨h1, h2⟩ := ih.is hfm
        have hb0 : decide ((b.length : Int) = 0) = false := by
          obtain ⟨k, _, h3, h4⟩ := h1
          have := hne k h3
          rw [← h4] at this
          exact decide_eq_false fun q => this (List.eq_nil_of_length_eq_zero (by omega))
        rw [hb0, Bool.false_or]
        cases ha : aheadF (row m) b
        · rw [if_neg (by simp)]
          exact (ih.stay (row m) hfm ha).mono (fun y => by rw [← hg]; simp [hc]) (by rw [← hf]; simp [hfm])
        · rw [if_pos rfl]
          exact (ih.step (row m) (fun _ => ha)).mono (fun y => by rw [← hg]; simp [hc]) (by rw [← hf]; simp [hc])
      · rw [(ih.none hfm).1]
        simp only [List.length_nil, Int.ofNat_zero, decide_true, Bool.true_or, if_true]
        exact (ih.step (row m) (fun q => absurd q hfm)).mono (fun y => by rw [← hg]; simp [hc]) (by rw [← hf]; simp [hc])
/-- trust's search -/
def fewStep (row : Nat → List Int) (p : List Int → Bool) (s : List Int × Bool) (k : Nat) : List Int × Bool := if s.2 && !aheadF (row k) s.1 then s else if p (row k) then (row k, true) else s
theorem least_few (row : Nat → List Int) (p : List Int → Bool) : ∀ m, Least (fun y => ∃ k, k < m ∧ p (row k) = true ∧ y = row k) ((List.range m).foldl (fewStep row p) ([], false)).1 (((List.range m).foldl (fewStep row p) ([], false)).2 = true)
  | 0 => Least.start.mono (fun y => by simp) (by simp)
  | m + 1 => by
    have ih := least_few row p m
    rw [List.range_succ, List.foldl_append, List.foldl_cons, List.foldl_nil]
    generalize (List.range m).foldl (fewStep row p) ([], false) = s at *
    obtain ⟨b, f⟩ := s
    simp only at ih
    have hg : ∀ y, ((∃ k, k < m ∧ p (row k) = true ∧ y = row k) ∨ (p (row m) = true ∧ y = row m)) ↔ ∃ k, k < m + 1 ∧ p (row k) = true ∧ y = row k := fun y => by
      constructor
      · rintro (⟨k, h1, h2⟩ | h)
        · exact ⟨k, by omega, h2⟩
        · exact ⟨m, by omega, h⟩
      · rintro ⟨k, h1, h2⟩
        by_cases e : k = m
        · subst e; exact .inr h2
        · exact .inl ⟨k, by omega, h2⟩
    unfold fewStep
    simp only
    cases hf : f && !aheadF (row m) b
    · rw [if_neg (by simp)]
      cases hp : p (row m)
      · rw [if_neg (by simp)]
        exact ih.mono (fun y => by rw [← hg]; simp [hp]) Iff.rfl
      · rw [if_pos rfl]
        refine (ih.step (row m) (fun q => ?_)).mono (fun y => by rw [← hg]; simp [hp]) (by simp)
        rw [q, Bool.true_and, Bool.not_eq_false'] at hf
        exact hf
    · rw [if_pos rfl]
      simp only [Bool.and_eq_true, Bool.not_eq_true'] at hf
      cases hp : p (row m)
      · exact ih.mono (fun y => by rw [← hg]; simp [hp]) Iff.rfl
      · exact (ih.stay (row m) hf.1 hf.2).mono (fun y => by rw [← hg]; simp [hp]) Iff.rfl
end Go.Proofs.YtcmepdamemnbkaaDoor
namespace Go.Proofs.YtcmepdamemnbkaaDoor
open Go.RowKit Go.Proofs.YtcmepdamemnbkaaDoorW.PrintWords
set_option linter.unusedVariables false
set_option linter.unusedSimpArgs false
def subM (xs : List Int) (k : Nat) : List Int := ((List.range xs.length).filter (bitB k)).map fun i => xs.getD i 0
theorem bitB_zero (k : Nat) : bitB k 0 = decide (k % 2 = 1) := by
  simp only [bitB, Nat.pow_zero, Nat.div_one]
  rw [decide_eq_decide]
  omega
theorem bitB_succ (k i : Nat) : bitB k (i + 1) = bitB (k / 2) i := by
  simp only [bitB]
  rw [Nat.pow_succ, Nat.mul_comm, Nat.div_div_eq_div_mul]
theorem subM_cons (x : Int) (xs : List Int) (k : Nat) : subM (x :: xs) k = (if k % 2 = 1 then [x] else []) ++ subM xs (k / 2) := by
  unfold subM
  rw [List.length_cons, List.range_succ_eq_map, List.filter_cons, bitB_zero]
  have h : ((List.map Nat.succ (List.range xs.length)).filter (bitB k)).map (fun i => (x :: xs).getD i 0) = ((List.range xs.length).filter (bitB (k / 2))).map fun i => xs.getD i 0 := by
    rw [List.filter_map, List.map_map]
    congr 1
    refine List.filter_congr fun i _ => ?_
    exact bitB_succ k i
  by_cases e : k % 2 = 1
  · rw [if_pos (by simpa using e), if_pos e, List.map_cons, h]
    simp
  · rw [if_neg (by simpa using e), if_neg e, h]
    rfl
theorem subM_sub : ∀ (xs : List Int) (k : Nat), (subM xs k).Sublist xs
  | [], k => by simp [subM]
  | x :: xs, k => by
    rw [subM_cons]
    by_cases e : k % 2 = 1
    · rw [if_pos e]; exact (subM_sub xs _).cons_cons x
    · rw [if_neg e]; exact (subM_sub xs _).cons x
theorem subM_all {ys xs : List Int} (h : ys.Sublist xs) : ∃ k, k < 2 ^ xs.length ∧ subM xs k = ys := by
  induction h with
  | slnil => exact ⟨0, by simp, rfl⟩
  | cons x _ ih =>
    obtain ⟨k, h1, h2⟩ := ih
    refine ⟨2 * k, by rw [List.length_cons, Nat.pow_succ]; omega, ?_⟩
    rw [subM_cons, if_neg (by omega), show 2 * k / 2 = k by omega, h2]
    rfl
  | cons_cons x _ ih =>
    obtain ⟨k, h1, h2⟩ := ih
    refine ⟨2 * k + 1, by rw [List.length_cons, Nat.pow_succ]; omega, ?_⟩
    rw [subM_cons, if_pos (by omega), show (2 * k + 1) / 2 = k by omega, h2]
    rfl
theorem subM_lt (xs : List Int) (p : List Int → Bool) (y : List Int) : (∃ k, k < 2 ^ xs.length ∧ p (subM xs k) = true ∧ y = subM xs k) ↔ y.Sublist xs ∧ p y = true := by
  constructor
  · rintro ⟨k, _, h1, rfl⟩
    exact ⟨subM_sub xs k, h1⟩
  · rintro ⟨h1, h2⟩
    obtain ⟨k, h3, h4⟩ := subM_all h1
    exact ⟨k, h3, by rw [h4]; exact h2, h4.symm⟩
def idsL (r : List RecT) : List Int := r.map fun x => x.f0
theorem idsL_at {r : List RecT} {i : Nat} (h : i < r.length) : (idsL r).getD i 0 = idAt r i := by
  simp [idsL, idAt, List.getD_eq_getElem?_getD, List.getElem?_eq_getElem h]
theorem idsL_mem {r : List RecT} {n : Int} : n ∈ idsL r ↔ ∃ i, i < r.length ∧ idAt r i = n := by
  rw [← knownF_iff, knownF, List.any_eq_true, idsL, List.mem_map]
  constructor
  · rintro ⟨x, h1, h2⟩; exact ⟨x, h1, by simpa using h2⟩
  · rintro ⟨x, h1, h2⟩; exact ⟨x, h1, by simpa using h2⟩
theorem idsL_nodup : ∀ {r : List RecT}, SortedIds r → (idsL r).Nodup
  | [], _ => List.nodup_nil
  | x :: r, hs => by
    have hs2 : SortedIds r := fun j hj => by
      have := hs (j + 1) (by simpa using hj)
      simpa [idAt] using this
    rw [idsL, List.map_cons, List.nodup_cons]
    refine ⟨fun hm => ?_, idsL_nodup hs2⟩
    obtain ⟨i, hi, e⟩ := idsL_mem.1 hm
    have := sorted_inj hs (i := i + 1) (j := 0) (by simpa using hi) (by simp) (by simpa [idAt] using e)
    omega
theorem idsF_filter (r : List RecT) (p : Int → Bool) : idsF r p = (idsL r).filter p := by
  rw [idsF, idsL, List.filter_map]
  rfl
theorem selM_sub (r : List RecT) (k : Nat) : selM r k = subM (idsL r) k := by
  rw [selM, subM, show (idsL r).length = r.length by simp [idsL]]
  refine List.map_congr_left fun i hi => ?_
  exact (idsL_at (List.mem_range.1 (List.mem_filter.1 hi).1)).symm
theorem filter_sub {ys xs : List Int} (h : ys.Sublist xs) (hn : xs.Nodup) : xs.filter (fun n => decide (n ∈ ys)) = ys := by
  induction h with
  | slnil => rfl
  | cons x h ih =>
    rw [List.nodup_cons] at hn
    rw [List.filter_cons, if_neg (by simp; exact fun q => hn.1 (h.subset q))]
    exact ih hn.2
  | cons_cons x h ih =>
    rename_i l1 l2
    rw [List.nodup_cons] at hn
    rw [List.filter_cons, if_pos (by simp)]
    congr 1
    refine Eq.trans (List.filter_congr fun n hnm => ?_) (ih hn.2)
    rw [decide_eq_decide, List.mem_cons]
    exact ⟨fun q => q.resolve_left (fun e => hn.1 (e ▸ hnm)), .inr⟩
theorem sub_of_subset {ys zs xs : List Int} (hy : ys.Sublist xs) (hz : zs.Sublist xs) (hn : xs.Nodup) (h : ∀ n ∈ ys, n ∈ zs) : ys.Sublist zs := by
  rw [← filter_sub hy hn, ← filter_sub hz hn]
  have : xs.filter (fun n => decide (n ∈ ys)) = (xs.filter fun n => decide (n ∈ zs)).filter fun n => decide (n ∈ ys) := by
    rw [List.filter_filter]
    refine List.filter_congr fun n _ => ?_
    by_cases e : n ∈ ys
    · simp [e, h n e]
    · simp [e]
  rw [this]
  exact List.filter_sublist
theorem holdsF_sub {r : List RecT} (hs : SortedIds r) (G : List Int) : (holdsF r G).Sublist (idsL r) := by
  rw [← ids_holds hs G, idsF_filter]
  exact List.filter_sublist
theorem ids_sel {r : List RecT} (hs : SortedIds r) {y : List Int} (h : y.Sublist (idsL r)) : idsF r (fun n => decide (n ∈ y)) = y := by
  rw [idsF_filter, filter_sub h (idsL_nodup hs)]
theorem okI_iff {r : List RecT} (hs : SortedIds r) (H : List Int) {at_ : Nat} (ha : at_ < r.length) (k : Nat) : okI r H at_ k r.length = true ↔ idAt r at_ ∈ selM r k ∧ ∀ n ∈ selM r k, n ∈ H := by
  rw [okI, Bool.and_eq_true, ← selM_iff hs ha, List.all_eq_true]
  refine and_congr_right fun _ => ?_
  constructor
  · intro h n hn
    simp only [selM, List.mem_map, List.mem_filter] at hn
    obtain ⟨j, ⟨h1, h2⟩, rfl⟩ := hn
    have := h j h1
    simpa [h2] using this
  · intro h j hj
    cases hb : bitB k j
    · rfl
    · have := h (idAt r j) ((selM_iff hs (List.mem_range.1 hj)).2 hb)
      simpa using this
theorem okC_iff {r : List RecT} (hs : SortedIds r) (G : List Int) (k : Nat) : okC r G k r.length = true ↔ ∀ n ∈ selM r k, n ∈ G := by
  rw [okC, List.all_eq_true]
  constructor
  · intro h n hn
    simp only [selM, List.mem_map, List.mem_filter] at hn
    obtain ⟨j, ⟨h1, h2⟩, rfl⟩ := hn
    have := h j h1
    simpa [h2] using this
  · intro h j hj
    cases hb : bitB k j
    · rfl
    · have := h (idAt r j) ((selM_iff hs (List.mem_range.1 hj)).2 hb)
      simpa using this
theorem holdsF_not_gone {r : List RecT} (hs : SortedIds r) {G : List Int} {n : Int} (h : n ∈ holdsF r G) : n ∉ G := by
  obtain ⟨i, hi, rfl⟩ := holdsL_mem r [] n h
  obtain ⟨bs, h1, _⟩ := hold_at hs G i hi
  rw [decide_eq_true h] at h1
  intro q
  simp [q] at h1
/-- a set carries itself just if as many hold without the others -/
theorem carries_len {r : List RecT} (hs : SortedIds r) {y : List Int} (hy : y.Sublist (idsL r)) : carriesF r y = true ↔ (holdsF r (compl r y)).length = y.length := by
  have hKy : (holdsF r (compl r y)).Sublist y := sub_of_subset (holdsF_sub hs _) hy (idsL_nodup hs) fun n hn => by
    have h1 := holdsF_not_gone hs hn
    obtain ⟨i, hi, rfl⟩ := holdsL_mem r [] n hn
    rw [compl_mem hi] at h1
    exact Classical.byContradiction h1
  constructor
  · intro h
    rw [carriesF, List.all_eq_true] at h
    have h2 : y.Sublist (holdsF r (compl r y)) := sub_of_subset hy (holdsF_sub hs _) (idsL_nodup hs) fun n hn => by
      obtain ⟨i, hi, rfl⟩ := idsL_mem.1 (hy.subset hn)
      have := h i (List.mem_range.2 hi)
      simpa [hn] using this
    exact Nat.le_antisymm hKy.length_le h2.length_le
  · intro h
    have h2 := hKy.eq_of_length h
    rw [carriesF, List.all_eq_true]
    intro i _
    rw [h2]
    cases decide (idAt r i ∈ y) <;> rfl
def fewestF (xs : List Int) (p : List Int → Bool) : List Int := ((List.range (2 ^ xs.length)).foldl (fewStep (subM xs) p) ([], false)).1
/-- what a record rests on -/
theorem rests_eq {r : List RecT} (hs : SortedIds r) (G : List Int) {at_ : Nat} (ha : at_ < r.length) :
    fewestF (holdsF r G) (fun y => decide (idAt r at_ ∈ y) && decide ((holdsF r (compl r y)).length = y.length)) = restsBest r (holdsF r G) at_ (2 ^ r.length) := by
  have h1 := least_few (subM (holdsF r G)) (fun y => decide (idAt r at_ ∈ y) && decide ((holdsF r (compl r y)).length = y.length)) (2 ^ (holdsF r G).length)
  have hne : ∀ k, (okI r (holdsF r G) at_ k r.length && carriesF r (selM r k)) = true → idsF r (fun n => decide (n ∈ selM r k)) ≠ [] := fun k hk => by
    rw [Bool.and_eq_true, okI_iff hs _ ha] at hk
    rw [ids_sel hs (by rw [selM_sub]; exact subM_sub _ _)]
    exact List.ne_nil_of_mem hk.1.1
  have h2 := least_ref (fun k => okI r (holdsF r G) at_ k r.length && carriesF r (selM r k)) (fun k => idsF r fun n => decide (n ∈ selM r k)) hne (2 ^ r.length)
  refine h1.eq h2 fun y => (subM_lt (holdsF r G) (fun y => decide (idAt r at_ ∈ y) && decide ((holdsF r (compl r y)).length = y.length)) y).trans ?_
  have hlen : (idsL r).length = r.length := by simp [idsL]
  constructor
  · rintro ⟨h3, h4⟩
    have h5 := h3.trans (holdsF_sub hs G)
    obtain ⟨k, h6, h7⟩ := subM_all h5
    rw [hlen] at h6
    rw [Bool.and_eq_true, decide_eq_true_eq, decide_eq_true_eq] at h4
    refine ⟨k, h6, ?_, ?_⟩
    · rw [Bool.and_eq_true, okI_iff hs _ ha, selM_sub, h7]
      exact ⟨⟨h4.1, fun n hn => h3.subset hn⟩, (carries_len hs h5).2 h4.2⟩
    · rw [selM_sub, h7, ids_sel hs h5]
  · rintro ⟨k, h3, h4, rfl⟩
    have h5 : (selM r k).Sublist (idsL r) := by rw [selM_sub]; exact subM_sub _ _
    rw [Bool.and_eq_true, okI_iff hs _ ha] at h4
    rw [ids_sel hs h5]
    refine ⟨sub_of_subset h5 (holdsF_sub hs G) (idsL_nodup hs) h4.1.2, ?_⟩
    rw [Bool.and_eq_true, decide_eq_true_eq, decide_eq_true_eq]
    exact ⟨h4.1.1, (carries_len hs h5).1 h4.2⟩
/-- causes -/
theorem causes_eq {r : List RecT} (hs : SortedIds r) {G : List Int} (hG : G.Sublist (idsL r)) {at_ : Nat} (ha : at_ < r.length) (hno : idAt r at_ ∉ holdsF r G) :
    fewestF G (fun y => decide (idAt r at_ ∈ holdsF r (diffF G y))) = causesBest r G at_ (2 ^ r.length) := by
  have h1 := least_few (subM G) (fun y => decide (idAt r at_ ∈ holdsF r (diffF G y))) (2 ^ G.length)
  have hne : ∀ k, (okC r G k r.length && decide (idAt r at_ ∈ holdsF r (diffF G (selM r k)))) = true → idsF r (fun n => decide (n ∈ selM r k)) ≠ [] := fun k hk q => by
    rw [ids_sel hs (by rw [selM_sub]; exact subM_sub _ _)] at q
    rw [Bool.and_eq_true, decide_eq_true_eq, q] at hk
    have : diffF G [] = G := by simp [diffF]
    rw [this] at hk
    exact hno hk.2
  have h2 := least_ref (fun k => okC r G k r.length && decide (idAt r at_ ∈ holdsF r (diffF G (selM r k)))) (fun k => idsF r fun n => decide (n ∈ selM r k)) hne (2 ^ r.length)
  refine h1.eq h2 fun y => (subM_lt G (fun y => decide (idAt r at_ ∈ holdsF r (diffF G y))) y).trans ?_
  have hlen : (idsL r).length = r.length := by simp [idsL]
  constructor
  · rintro ⟨h3, h4⟩
    have h5 := h3.trans hG
    obtain ⟨k, h6, h7⟩ := subM_all h5
    rw [hlen] at h6
    refine ⟨k, h6, ?_, ?_⟩
    · rw [Bool.and_eq_true, okC_iff hs, selM_sub, h7]
      exact ⟨fun n hn => h3.subset hn, h4⟩
    · rw [selM_sub, h7, ids_sel hs h5]
  · rintro ⟨k, h3, h4, rfl⟩
    have h5 : (selM r k).Sublist (idsL r) := by rw [selM_sub]; exact subM_sub _ _
    rw [Bool.and_eq_true, okC_iff hs] at h4
    rw [ids_sel hs h5]
    exact ⟨sub_of_subset h5 hG (idsL_nodup hs) h4.1, h4.2⟩
end Go.Proofs.YtcmepdamemnbkaaDoor
namespace Go.Proofs.YtcmepdamemnbkaaDoor
open Go.RowKit Go.Proofs.YtcmepdamemnbkaaDoorW.PrintWords
set_option linter.unusedVariables false
set_option linter.unusedSimpArgs false
/-- a closure over sets that answers p -/
def AsksM (P : Program) (w : World) (g : Nat) (cs : List Value) (p : List Int → Bool) : Prop :=
  ∀ (S : List Int) (M : Nat) (W : World), Below w.heap.size w W → w.heap.size ≤ M → IMap W M (setV S) → S.Nodup → Calls P g ([Value.map (some M)] ++ cs).toArray W fun e W' => e = .returned (.bool (p S)) ∧ Below W.heap.size W W'
def subK (xs : List Int) (k i : Nat) : List Int := ((List.range i).filter (bitB k)).map fun j => xs.getD j 0
theorem subK_full (xs : List Int) (k : Nat) : subK xs k xs.length = subM xs k := rfl
theorem subK_succ {xs : List Int} (hn : xs.Nodup) (k i : Nat) (hi : i < xs.length) : subK xs k (i + 1) = if bitB k i then insN (xs.getD i 0) (subK xs k i) else subK xs k i := by
  unfold subK
  rw [List.range_succ, List.filter_append, List.map_append]
  by_cases h : bitB k i = true
  · rw [if_pos h, List.filter_cons, if_pos h, insN, if_neg]
    · rfl
    · intro hm
      obtain ⟨j, hj, e⟩ := List.mem_map.1 hm
      have hj := List.mem_range.1 (List.mem_filter.1 hj).1
      have h1 : xs.getD j 0 = xs[j] := by simp [List.getD_eq_getElem?_getD, List.getElem?_eq_getElem (by omega : j < xs.length)]
      have h2 : xs.getD i 0 = xs[i] := by simp [List.getD_eq_getElem?_getD, List.getElem?_eq_getElem hi]
      rw [h1, h2] at e
      rw [List.nodup_iff_pairwise_ne, List.pairwise_iff_getElem] at hn
      exact hn j i (by omega) hi hj e
  · rw [if_neg h, List.filter_cons, if_neg h]
    simp
theorem sortF_id {xs : List Int} (h : xs.Pairwise fun a b => decide (a ≤ b) = true) : sortF xs = xs := by
  have tr : ∀ a b c : Int, decide (a ≤ b) = true → decide (b ≤ c) = true → decide (a ≤ c) = true := fun a b c h1 h2 => by simp at *; omega
  have tot : ∀ a b : Int, (decide (a ≤ b) || decide (b ≤ a)) = true := fun a b => by simp; omega
  refine List.Perm.eq_of_pairwise (le := fun a b => decide (a ≤ b) = true) (fun a b _ _ h1 h2 => ?_) (List.pairwise_mergeSort tr tot xs) h (List.mergeSort_perm xs _)
  simp only [decide_eq_true_eq] at h1 h2
  omega
theorem sortF_sub {xs : List Int} (h : xs.Pairwise fun a b => decide (a ≤ b) = true) (k : Nat) : sortF (subM xs k) = subM xs k := sortF_id (h.sublist (subM_sub xs k))
end Go.Proofs.YtcmepdamemnbkaaDoor
namespace Go.Proofs.YtcmepdamemnbkaaDoor
open Go.RowKit Go.Proofs.YtcmepdamemnbkaaDoorW.PrintWords
set_option linter.unusedVariables false
set_option linter.unusedSimpArgs false
theorem cmpRows {w0 w : World} {X : Nat → Prop} {η : Hp} (hw : WOK w0 X η w) {rr rr2 : RowR} {xs ys : List Int} (hl : xs.length ≤ 1000000) (he : xs.length = ys.length) (h1 : RowAt 3 0 w rr xs) (h2 : RowAt 3 0 w rr2 ys) :
    Calls Tryd.prog 76 ([] ++ [valR rr xs.length, valR rr2 ys.length] ++ []).toArray w fun e w' => e = .returned (.int .i64 (cmpF xs ys)) ∧ Below w.heap.size w w' := by
  obtain ⟨A, c, e1, _, hA⟩ := h1.C (by omega)
  obtain ⟨B, c2, e2, _, hB⟩ := h2.C (by omega)
  rw [e1, e2]
  exact compare_calls A B c c2 xs ys w hA hB he
theorem few_skip (a b : List Int) : (!aheadF a b) = (bif decide ((b.length : Int) < (a.length : Int)) then true else bif decide ((a.length : Int) = (b.length : Int)) then decide (0 ≤ cmpF a b) else false) := by
  unfold aheadF
  by_cases h1 : a.length = b.length
  · rw [if_pos h1, decide_eq_false (by omega), decide_eq_true (by omega : (a.length : Int) = (b.length : Int)), cmpF_lex]
    rfl
  · rw [if_neg h1, decide_eq_false (by omega : ¬ (a.length : Int) = (b.length : Int))]
    by_cases h2 : a.length < b.length
    · rw [decide_eq_true h2, decide_eq_false (by omega)]; rfl
    · rw [decide_eq_false h2, decide_eq_true (by omega)]; rfl
theorem few_len (xs : List Int) (p : List Int → Bool) : ∀ m, ((List.range m).foldl (fewStep (subM xs) p) ([], false)).1.length ≤ xs.length
  | 0 => by simp
  | m + 1 => by
    rw [List.range_succ, List.foldl_append, List.foldl_cons, List.foldl_nil, fewStep]
    split
    · exact few_len xs p m
    · split
      · exact (subM_sub xs m).length_le
      · exact few_len xs p m
set_option maxHeartbeats 16000000 in
theorem fewest_calls (p : List Int → Bool) (g : Nat) (cs : List Value) (eg : ∀ args w, (callFunc g args).run Tryd.prog w = .ok (.enter g args) w) (A : Option Addr) (c : Nat) (xs : List Int) (w : World) (hr : Kd.C (Kd.int .i64) w A xs.length xs) (hp : AsksM Tryd.prog w g cs p)
    (hn : xs.Nodup) (hs : xs.Pairwise fun a b => decide (a ≤ b) = true) (hlen : xs.length ≤ 12) :
    Calls Tryd.prog 61 #[.slice A xs.length c, .func (.func g) #[] cs.toArray] w fun e w' => ∃ rr : RowR, e = .returned (valR rr (fewestF xs p).length) ∧ RowAt 3 w.heap.size w' rr (fewestF xs p) ∧ Below w.heap.size w w' := by
  have h2n : 2 ^ xs.length ≤ 4096 := Nat.le_trans (Nat.pow_le_pow_right (by omega) hlen) (by decide)
  refine x_calls (X := XNone) Tryd.func61 rfl rfl rfl ?_
  with_reducible repeat refine xc_seq ?_
  with_reducible refine xc_region ?_
  refine xo_asg rfl rfl rfl ?_
  with_reducible refine xo_nil ?_
  with_reducible repeat (first | refine xq_then ?_ | refine xq_blockN ?_ | refine xq_scopeN ?_)
  with_reducible repeat refine xc_seq ?_
  with_reducible refine xc_region ?_
  refine xo_asg rfl rfl rfl ?_
  with_reducible refine xo_nil ?_
  with_reducible repeat (first | refine xq_then ?_ | refine xq_blockN ?_ | refine xq_scopeN ?_)
  with_reducible repeat refine xc_seq ?_
  with_reducible refine xc_region ?_
  refine xo_asg rfl rfl rfl ?_
  with_reducible refine xo_nil ?_
  with_reducible repeat (first | refine xq_then ?_ | refine xq_blockN ?_ | refine xq_scopeN ?_)
  with_reducible repeat refine xc_seq ?_
  with_reducible refine xc_region ?_
  refine xo_mv rfl rfl rfl ?_
  refine xo_len T_ rfl rfl rfl rfl ?_
  refine xo_shl1 rfl rfl rfl (by omega) rfl ?_
  refine xo_mv rfl rfl rfl ?_
  with_reducible refine xo_nil ?_
  with_reducible repeat (first | refine xq_then ?_ | refine xq_blockN ?_ | refine xq_scopeN ?_)
  with_reducible repeat refine xc_seq ?_
  with_reducible refine xc_block ?_
  refine xc_loop (γ := Nat × RowR) (fun q => q.1 ≤ 2 ^ xs.length ∧ (q.2 = none → ((List.range q.1).foldl (fewStep (subM xs) p) ([], false)).1 = [])) (fun q => [(0, .slice A xs.length c), (1, .func (.func g) #[] cs.toArray), (5, valR q.2 ((List.range q.1).foldl (fewStep (subM xs) p) ([], false)).1.length), (6, .bool ((List.range q.1).foldl (fewStep (subM xs) p) ([], false)).2), (14, .int .i64 ((2 ^ xs.length : Nat) : Int)), (15, .int .i64 (q.1 : Int))])
    (fun q => hpR 3 1 q.2 ((List.range q.1).foldl (fewStep (subM xs) p) ([], false)).1.length (((List.range q.1).foldl (fewStep (subM xs) p) ([], false)).1.map (.int .i64)) ++ []) (fun q => 2 ^ xs.length - q.1) (0, none) ⟨Nat.zero_le _, fun _ => rfl⟩ ⟨rfl, rfl, rfl, rfl, rfl, rfl, trivial⟩ (List.nil_sublist _) ?_
  rintro ⟨m, rr⟩ ⟨hm1, hrr⟩
  simp only at hm1 hrr ⊢
  have hstep : (List.range (m + 1)).foldl (fewStep (subM xs) p) ([], false) = fewStep (subM xs) p ((List.range m).foldl (fewStep (subM xs) p) ([], false)) m := by rw [List.range_succ, List.foldl_append]; rfl
  with_reducible repeat refine xc_seq ?_
  with_reducible refine xc_region ?_
  refine xo_lss rfl rfl rfl rfl ?_
  with_reducible refine xo_nil ?_
  with_reducible repeat (first | refine xq_then ?_ | refine xq_blockN ?_ | refine xq_scopeN ?_)
  with_reducible repeat refine xc_seq ?_
  refine xc_cond rfl (fun h => ?_) (fun h => ?_)
  · have hlt : m < 2 ^ xs.length := by have := of_decide_eq_true h; omega
    have hbl := few_len xs p m
    generalize (List.range m).foldl (fewStep (subM xs) p) ([], false) = st at *
    obtain ⟨best, f⟩ := st
    simp only at hbl hrr hstep ⊢
    with_reducible refine xc_skip ?_
    with_reducible repeat (first | refine xq_then ?_ | refine xq_blockN ?_ | refine xq_scopeN ?_)
    with_reducible repeat refine xc_seq ?_
    with_reducible refine xc_block ?_
    with_reducible repeat refine xc_seq ?_
    with_reducible refine xc_region ?_
    refine xo_mv rfl rfl rfl ?_
    refine xo_asg rfl rfl rfl ?_
    with_reducible refine xo_nil ?_
    with_reducible repeat (first | refine xq_then ?_ | refine xq_blockN ?_ | refine xq_scopeN ?_)
    with_reducible repeat refine xc_seq ?_
    with_reducible refine xc_region ?_
    refine xo_mkm rfl rfl (fun b18 => ?_)
    refine xo_asg rfl rfl rfl ?_
    with_reducible refine xo_nil ?_
    with_reducible repeat (first | refine xq_then ?_ | refine xq_blockN ?_ | refine xq_scopeN ?_)
    with_reducible repeat refine xc_seq ?_
    with_reducible refine xc_region ?_
    refine xo_mv rfl rfl rfl ?_
    refine xo_len T_ rfl rfl rfl rfl ?_
    refine xo_mv rfl rfl rfl ?_
    with_reducible refine xo_nil ?_
    with_reducible repeat (first | refine xq_then ?_ | refine xq_blockN ?_ | refine xq_scopeN ?_)
    with_reducible repeat refine xc_seq ?_
    with_reducible refine xc_block ?_
    refine xc_loop (γ := Nat) (fun i => i ≤ xs.length) (fun i => [(0, .slice A xs.length c), (1, .func (.func g) #[] cs.toArray), (5, valR rr best.length), (6, .bool f), (14, .int .i64 ((2 ^ xs.length : Nat) : Int)), (15, .int .i64 (m : Int)), (7, .int .i64 (m : Int)), (8, .map (some b18)), (19, .slice A xs.length c), (20, .int .i64 (xs.length : Int)), (21, .int .i64 (i : Int))])
      (fun i => (b18, true, hmap (setV (subK xs m i))) :: (hpR 3 1 rr best.length (best.map (.int .i64)) ++ [])) (fun i => xs.length - i) 0 (Nat.zero_le _) ⟨rfl, rfl, rfl, rfl, rfl, rfl, rfl, rfl, rfl, rfl, rfl, trivial⟩ (List.Sublist.refl _) ?_
    intro i hi
    with_reducible repeat refine xc_seq ?_
    with_reducible refine xc_region ?_
    refine xo_lss rfl rfl rfl rfl ?_
    with_reducible refine xo_nil ?_
    with_reducible repeat (first | refine xq_then ?_ | refine xq_blockN ?_ | refine xq_scopeN ?_)
    with_reducible repeat refine xc_seq ?_
    refine xc_cond rfl (fun h => ?_) (fun h => ?_)
    · have hil : i < xs.length := by have := of_decide_eq_true h; omega
      obtain ⟨ad, rfl, r1⟩ := int_at hr i hil
      have hsu := subK_succ hn m i hil
      with_reducible refine xc_skip ?_
      with_reducible repeat (first | refine xq_then ?_ | refine xq_blockN ?_ | refine xq_scopeN ?_)
      with_reducible repeat refine xc_seq ?_
      with_reducible refine xc_block ?_
      with_reducible repeat refine xc_seq ?_
      with_reducible refine xc_region ?_
      refine xo_mv rfl rfl rfl ?_
      refine xo_ia T_ rfl rfl rfl rfl rfl ⟨by omega, by omega⟩ rfl ?_
      refine xo_loadR0 T_ rfl rfl rfl (by first | assumption | exact RO.fld (by assumption) rfl) rfl ?_
      refine xo_asg rfl rfl rfl ?_
      refine xo_asg rfl rfl rfl ?_
      with_reducible refine xo_nil ?_
      with_reducible repeat (first | refine xq_then ?_ | refine xq_blockN ?_ | refine xq_scopeN ?_)
      with_reducible repeat refine xc_seq ?_
      with_reducible refine xc_region ?_
      refine xo_mv rfl rfl rfl ?_
      refine xo_mv rfl rfl rfl ?_
      refine xo_shr rfl rfl rfl (by omega) rfl ?_
      refine xo_and1 rfl rfl rfl (Nat.lt_of_le_of_lt (Nat.div_le_self _ _) (by omega)) rfl ?_
      refine xo_eql rfl rfl rfl rfl ?_
      with_reducible refine xo_nil ?_
      with_reducible repeat (first | refine xq_then ?_ | refine xq_blockN ?_ | refine xq_scopeN ?_)
      with_reducible repeat refine xc_seq ?_
      refine xc_cond rfl (fun hb => ?_) (fun hb => ?_)
      · have hb : bitB m i = true := hb
        rw [if_pos hb] at hsu
        with_reducible repeat refine xc_seq ?_
        with_reducible refine xc_region ?_
        refine xo_mv rfl rfl rfl ?_
        refine xo_mv rfl rfl rfl ?_
        refine xo_sins T_ rfl rfl rfl rfl rfl rfl (by repeat (first | exact List.Mem.head _ | apply List.Mem.tail | apply List.mem_append_right)) (by repeat (first | exact Upd.head | apply Upd.tail | apply Upd.app)) rfl ?_
        with_reducible refine xo_nil ?_
        with_reducible repeat (first | refine xq_then ?_ | refine xq_blockN ?_ | refine xq_scopeN ?_)
        with_reducible repeat refine xc_seq ?_
        with_reducible refine xc_region ?_
        refine xo_add rfl rfl rfl (by omega) rfl ?_
        refine xo_mv rfl rfl rfl ?_
        with_reducible refine xo_nil ?_
        with_reducible repeat (first | refine xq_then ?_ | refine xq_blockN ?_ | refine xq_scopeN ?_)
        exact xq_again _ _ _ _ _ (i + 1) (by omega) (by omega) ⟨rfl, rfl, rfl, rfl, rfl, rfl, rfl, rfl, rfl, rfl, rfl, trivial⟩ (by rw [hsu]; exact List.Sublist.refl _)
      · have hb : bitB m i = false := hb
        rw [hb, if_neg (by simp)] at hsu
        with_reducible refine xc_skip ?_
        with_reducible repeat (first | refine xq_then ?_ | refine xq_blockN ?_ | refine xq_scopeN ?_)
        with_reducible repeat refine xc_seq ?_
        with_reducible refine xc_region ?_
        refine xo_add rfl rfl rfl (by omega) rfl ?_
        refine xo_mv rfl rfl rfl ?_
        with_reducible refine xo_nil ?_
        with_reducible repeat (first | refine xq_then ?_ | refine xq_blockN ?_ | refine xq_scopeN ?_)
        exact xq_again _ _ _ _ _ (i + 1) (by omega) (by omega) ⟨rfl, rfl, rfl, rfl, rfl, rfl, rfl, rfl, rfl, rfl, rfl, trivial⟩ (by rw [hsu]; exact List.Sublist.refl _)
    · have hge : ¬ i < xs.length := by have := of_decide_eq_false h; omega
      have hii : i = xs.length := by omega
      subst hii
      rw [subK_full]
      have hrow := (subM_sub xs m).length_le
      have hsort := sortF_sub hs m
      have hnd : (subM xs m).Nodup := hn.sublist (subM_sub xs m)
      rw [fewStep] at hstep
      simp only at hstep
      with_reducible refine xc_exit ?_
      with_reducible repeat (first | refine xq_blockX ?_ | refine xq_thenE ?_ | refine xq_blockE rfl ?_ | refine xq_scopeE ?_)
      with_reducible repeat (first | refine xq_then ?_ | refine xq_blockN ?_ | refine xq_scopeN ?_)
      with_reducible repeat refine xc_seq ?_
      with_reducible refine xc_region ?_
      refine xo_mv rfl rfl rfl ?_
      refine xo_call (fs := []) (cs := []) rfl rfl rfl keys_enters rfl (fun w1 hw1 => (keys_calls b18 w1).mono ?_)
      rintro e w2 ⟨B, rfl, hB1, hB2, hb⟩
      refine ⟨_, _, rfl, hw1.more (φ := cel [.map (some b18)] 62) hb hB1 hB2 rfl, ?_⟩
      clear hB1 hB2 hb hw1
      refine xo_call (fs := []) (cs := []) rfl rfl rfl sorted_enters rfl (fun w1 hw1 => (sorted_calls 78 [.pointer (some ⟨B, 0, none⟩)] keysIter_enters (fun k => k = B ∨ k = b18) (subM xs m) (subM xs m).length w1 (iter_keys (subM xs m) b18 B w1 (hw1.obj (wr := true) (cs := [.map (some b18)]) (by repeat (first | exact List.Mem.head _ | apply List.Mem.tail | apply List.mem_append_right))) (hw1.imap (wr := true) (by repeat (first | exact List.Mem.head _ | apply List.Mem.tail | apply List.mem_append_right)))) (fun k hk => hk.elim (fun e => e ▸ hw1.lt (e := (B, true, cel [.map (some b18)] 62)) (by repeat (first | exact List.Mem.head _ | apply List.Mem.tail | apply List.mem_append_right))) (fun e => e ▸ hw1.lt (e := (b18, true, hmap (setV (subM xs m)))) (by repeat (first | exact List.Mem.head _ | apply List.Mem.tail | apply List.mem_append_right)))) (by omega) (by omega)).mono ?_)
      rintro e w2 ⟨r11, rfl, hrw, hb⟩
      rw [hsort] at hrw ⊢
      have h11 := hrw.1
      refine ⟨_, _, rfl, hw1.row hb hrw, ?_⟩
      clear hrw hb hw1
      refine xo_asg rfl rfl rfl ?_
      with_reducible refine xo_nil ?_
      with_reducible repeat (first | refine xq_then ?_ | refine xq_blockN ?_ | refine xq_scopeN ?_)
      with_reducible refine xc_seq ?_
      refine xc_cut (γ := Unit) (fun _ => True) (fun _ => [(0, .slice A xs.length c), (1, .func (.func g) #[] cs.toArray), (5, valR rr best.length), (6, .bool f), (14, .int .i64 ((2 ^ xs.length : Nat) : Int)), (15, .int .i64 (m : Int)), (8, .map (some b18)), (11, valR r11 (subM xs m).length), (57, .bool (f && !aheadF (subM xs m) best))])
        (fun _ => hpR 3 1 r11 (subM xs m).length ((subM xs m).map (.int .i64)) ++ ((b18, true, hmap (setV (subM xs m))) :: (hpR 3 1 rr best.length (best.map (.int .i64)) ++ []))) ?_ (fun _ _ => ?_)
      · cases hf : f <;> cases h43 : decide ((best.length : Int) < ((subM xs m).length : Int)) <;> cases h49 : decide (((subM xs m).length : Int) = (best.length : Int))
        all_goals
          try have h49' : (subM xs m).length = best.length := (by have := of_decide_eq_true h49; omega)
          with_reducible repeat refine xc_seq ?_
          with_reducible refine xc_region ?_
          refine xo_mv rfl rfl rfl ?_
          refine xo_mv rfl rfl rfl ?_
          first
            | refine xo_not rfl rfl ?_
            | (refine xo_mv rfl rfl rfl ?_)
          first
            | refine xo_not rfl rfl ?_
            | (refine xo_lenR T_ rfl rfl (fun h => by rw [h11 h]; rfl) rfl rfl ?_)
          first
            | refine xo_not rfl rfl ?_
            | (refine xo_mv rfl rfl rfl ?_)
          first
            | refine xo_not rfl rfl ?_
            | (refine xo_lenR T_ rfl rfl (fun h => by rw [hrr h]; rfl) rfl rfl ?_)
          first
            | refine xo_not rfl rfl ?_
            | (refine xo_gtr rfl rfl rfl rfl ?_)
          first | refine xo_as (i := 43) rfl (congrArg Value.bool h43) ?_ | skip
          first
            | refine xo_not rfl rfl ?_
            | (refine xo_mv rfl rfl rfl ?_)
          first
            | refine xo_not rfl rfl ?_
            | (refine xo_mv rfl rfl rfl ?_)
          first
            | refine xo_not rfl rfl ?_
            | (refine xo_lenR T_ rfl rfl (fun h => by rw [h11 h]; rfl) rfl rfl ?_)
          first
            | refine xo_not rfl rfl ?_
            | (refine xo_mv rfl rfl rfl ?_)
          first
            | refine xo_not rfl rfl ?_
            | (refine xo_lenR T_ rfl rfl (fun h => by rw [hrr h]; rfl) rfl rfl ?_)
          first
            | refine xo_not rfl rfl ?_
            | (refine xo_eql rfl rfl rfl rfl ?_)
          first | refine xo_as (i := 49) rfl (congrArg Value.bool h49) ?_ | skip
          first
            | refine xo_not rfl rfl ?_
            | (refine xo_mv rfl rfl rfl ?_)
          first
            | refine xo_not rfl rfl ?_
            | (refine xo_mv rfl rfl rfl ?_)
          first
            | refine xo_not rfl rfl ?_
            | (refine xo_mv rfl rfl rfl ?_)
          first
            | refine xo_not rfl rfl ?_
            | (refine xo_callB (fs := []) (cs := []) rfl rfl rfl compare_enters rfl (fun w1 hw1 => cmpRows hw1 (by omega) h49' (hw1.rowAt h11 (fun p hp => by subst hp; exact (by repeat (first | exact List.Mem.head _ | exact List.mem_append_left _ (List.Mem.head _) | apply List.mem_append_right | apply List.Mem.tail)))) (hw1.rowAt hrr (fun p hp => by subst hp; exact (by repeat (first | exact List.Mem.head _ | exact List.mem_append_left _ (List.Mem.head _) | apply List.mem_append_right | apply List.Mem.tail))))) ?_)
          first
            | refine xo_not rfl rfl ?_
            | (refine xo_geq rfl rfl rfl rfl ?_)
          first
            | refine xo_not rfl rfl ?_
            | (first | refine xo_pickT rfl rfl rfl rfl ?_ | refine xo_pickF rfl rfl rfl rfl ?_)
          first
            | refine xo_not rfl rfl ?_
            | (first | refine xo_pickT rfl rfl rfl rfl ?_ | refine xo_pickF rfl rfl rfl rfl ?_)
          first | refine xo_pickT rfl rfl rfl rfl ?_ | refine xo_pickF rfl rfl rfl rfl ?_
          with_reducible refine xo_nil ?_
          with_reducible repeat (first | refine xq_then ?_ | refine xq_blockN ?_ | refine xq_scopeN ?_)
          exact xq_meet _ _ _ () trivial ⟨rfl, rfl, rfl, rfl, rfl, rfl, rfl, rfl, by rw [few_skip, h43, h49]; rfl, trivial⟩ (List.Sublist.append (List.Sublist.refl _) (List.sublist_cons_self _ _))
      with_reducible repeat refine xc_seq ?_
      refine xc_cond rfl (fun hsk => ?_) (fun hsk => ?_)
      · rw [if_pos hsk] at hstep
        with_reducible refine xc_exit ?_
        with_reducible repeat (first | refine xq_blockX ?_ | refine xq_thenE ?_ | refine xq_blockE rfl ?_ | refine xq_scopeE ?_)
        with_reducible repeat (first | refine xq_then ?_ | refine xq_blockN ?_ | refine xq_scopeN ?_)
        with_reducible repeat refine xc_seq ?_
        with_reducible refine xc_region ?_
        refine xo_add rfl rfl rfl (by omega) rfl ?_
        refine xo_mv rfl rfl rfl ?_
        with_reducible refine xo_nil ?_
        with_reducible repeat (first | refine xq_then ?_ | refine xq_blockN ?_ | refine xq_scopeN ?_)
        refine xq_again _ _ _ _ _ (m + 1, rr) ⟨hlt, by rw [hstep]; exact hrr⟩ (by first | omega | (simp only; omega)) ⟨rfl, rfl, by rw [hstep]; rfl, by rw [hstep]; rfl, rfl, rfl, trivial⟩ ?_
        simp only [hstep]
        exact (List.sublist_cons_self _ _).trans (List.sublist_append_right _ _)
      rw [if_neg (by rw [hsk]; simp)] at hstep
      with_reducible refine xc_skip ?_
      with_reducible repeat (first | refine xq_then ?_ | refine xq_blockN ?_ | refine xq_scopeN ?_)
      with_reducible repeat refine xc_seq ?_
      with_reducible refine xc_region ?_
      refine xo_mv rfl rfl rfl ?_
      refine xo_mv rfl rfl rfl ?_
      refine xo_callB (fs := []) rfl rfl rfl eg rfl (fun w1 hw1 => hp (subM xs m) b18 w1 hw1.kx.below (hw1.own (φ := hmap (setV (subM xs m))) (by repeat (first | exact List.Mem.head _ | exact List.mem_append_left _ (List.Mem.head _) | apply List.mem_append_right | apply List.Mem.tail))) (hw1.imap (wr := true) (by repeat (first | exact List.Mem.head _ | exact List.mem_append_left _ (List.Mem.head _) | apply List.mem_append_right | apply List.Mem.tail))) hnd) ?_
      with_reducible refine xo_nil ?_
      with_reducible repeat (first | refine xq_then ?_ | refine xq_blockN ?_ | refine xq_scopeN ?_)
      with_reducible repeat refine xc_seq ?_
      refine xc_cond rfl (fun hpb => ?_) (fun hpb => ?_)
      · rw [if_pos hpb] at hstep
        with_reducible repeat refine xc_seq ?_
        with_reducible refine xc_region ?_
        refine xo_mv rfl rfl rfl ?_
        refine xo_asg rfl rfl rfl ?_
        refine xo_asg rfl rfl rfl ?_
        with_reducible refine xo_nil ?_
        with_reducible repeat (first | refine xq_then ?_ | refine xq_blockN ?_ | refine xq_scopeN ?_)
        with_reducible repeat refine xc_seq ?_
        with_reducible refine xc_region ?_
        refine xo_add rfl rfl rfl (by omega) rfl ?_
        refine xo_mv rfl rfl rfl ?_
        with_reducible refine xo_nil ?_
        with_reducible repeat (first | refine xq_then ?_ | refine xq_blockN ?_ | refine xq_scopeN ?_)
        refine xq_again _ _ _ _ _ (m + 1, r11) ⟨hlt, by rw [hstep]; exact h11⟩ (by first | omega | (simp only; omega)) ⟨rfl, rfl, by rw [hstep]; rfl, by rw [hstep]; rfl, rfl, rfl, trivial⟩ ?_
        simp only [hstep]
        exact List.Sublist.append (List.Sublist.refl _) (List.nil_sublist _)
      · rw [if_neg (by rw [hpb]; simp)] at hstep
        with_reducible refine xc_skip ?_
        with_reducible repeat (first | refine xq_then ?_ | refine xq_blockN ?_ | refine xq_scopeN ?_)
        with_reducible repeat refine xc_seq ?_
        with_reducible refine xc_region ?_
        refine xo_add rfl rfl rfl (by omega) rfl ?_
        refine xo_mv rfl rfl rfl ?_
        with_reducible refine xo_nil ?_
        with_reducible repeat (first | refine xq_then ?_ | refine xq_blockN ?_ | refine xq_scopeN ?_)
        refine xq_again _ _ _ _ _ (m + 1, rr) ⟨hlt, by rw [hstep]; exact hrr⟩ (by first | omega | (simp only; omega)) ⟨rfl, rfl, by rw [hstep]; rfl, by rw [hstep]; rfl, rfl, rfl, trivial⟩ ?_
        simp only [hstep]
        exact (List.sublist_cons_self _ _).trans (List.sublist_append_right _ _)
  · have hge : ¬ m < 2 ^ xs.length := by have := of_decide_eq_false h; omega
    have hmm : m = 2 ^ xs.length := by omega
    subst hmm
    with_reducible refine xc_exit ?_
    with_reducible repeat (first | refine xq_blockX ?_ | refine xq_thenE ?_ | refine xq_blockE rfl ?_ | refine xq_scopeE ?_)
    with_reducible repeat (first | refine xq_then ?_ | refine xq_blockN ?_ | refine xq_scopeN ?_)
    with_reducible repeat refine xc_seq ?_
    with_reducible refine xc_region ?_
    refine xo_mv rfl rfl rfl ?_
    refine xo_asg rfl rfl rfl ?_
    with_reducible refine xo_nil ?_
    with_reducible repeat (first | refine xq_then ?_ | refine xq_blockN ?_ | refine xq_scopeN ?_)
    with_reducible repeat refine xc_seq ?_
    with_reducible refine xc_ret ?_
    with_reducible repeat (first | refine xq_thenR ?_ | refine xq_blockR ?_ | refine xq_scopeR ?_)
    exact xq_ret1 rfl rfl fun w' hw => ⟨rr, rfl, RowAt.of hw hrr, hw.kx.below⟩
end Go.Proofs.YtcmepdamemnbkaaDoor
namespace Go.Proofs.YtcmepdamemnbkaaDoor
open Go.RowKit Go.Proofs.YtcmepdamemnbkaaDoorW.PrintWords
set_option linter.unusedVariables false
set_option linter.unusedSimpArgs false
theorem holdsL_congr {G G' : List Int} : ∀ (r : List RecT) (bs : List Int), (∀ x ∈ r, (x.f0 ∈ G ↔ x.f0 ∈ G')) → holdsL G bs r = holdsL G' bs r
  | [], _, _ => rfl
  | x :: r, bs, h => by
    have h1 : decide (x.f0 ∈ G) = decide (x.f0 ∈ G') := decide_eq_decide.2 (h x (List.mem_cons_self ..))
    have ih := fun bs => holdsL_congr r bs fun y hy => h y (List.mem_cons_of_mem _ hy)
    unfold holdsL
    rw [h1, ih, ih]
theorem holdsF_congr {r : List RecT} {G G' : List Int} (h : ∀ n ∈ idsL r, (n ∈ G ↔ n ∈ G')) : holdsF r G = holdsF r G' :=
  holdsL_congr r [] fun x hx => h x.f0 (List.mem_map.2 ⟨x, hx, rfl⟩)
end Go.Proofs.YtcmepdamemnbkaaDoor
namespace Go.Proofs.YtcmepdamemnbkaaDoor
open Go.RowKit Go.Proofs.YtcmepdamemnbkaaDoorW.PrintWords
set_option linter.unusedVariables false
set_option linter.unusedSimpArgs false
def restP (r : List RecT) (id : Int) (S : List Int) : Bool := decide (id ∈ S) && decide ((holdsF r (compl r S)).length = S.length)
theorem compl_iff {r : List RecT} {S : List Int} {n : Int} (hn : n ∈ idsL r) : n ∈ compl r S ↔ n ∉ S := by
  obtain ⟨i, hi, rfl⟩ := idsL_mem.1 hn
  exact compl_mem hi
theorem insN_nodup {x : Int} {s : List Int} (h : s.Nodup) : (insN x s).Nodup := by
  unfold insN
  split
  · exact h
  · rename_i hx
    refine List.nodup_append.2 ⟨h, by simp, fun a ha b hb e => ?_⟩
    simp at hb
    subst hb
    exact hx (e ▸ ha)
theorem mem_delN {x y : Int} {s : List Int} (h : s.Nodup) : y ∈ delN x s ↔ y ≠ x ∧ y ∈ s := h.mem_erase_iff
theorem idsL_take_succ {r : List RecT} {k : Nat} (hk : k < r.length) {n : Int} : n ∈ idsL (r.take (k + 1)) ↔ n = (r.getD k zRec).f0 ∨ n ∈ idsL (r.take k) := by
  have h1 : r.getD k zRec = r[k] := by simp [List.getD_eq_getElem?_getD, List.getElem?_eq_getElem hk]
  rw [h1, idsL, List.take_succ_eq_append_getElem hk, List.map_append, List.mem_append]
  simp only [List.map_cons, List.map_nil, List.mem_singleton]
  exact Or.comm
set_option maxHeartbeats 4000000 in
theorem rests1_calls (A : Option Addr) (c : Nat) (r : List RecT) (id : Int) (M0 b1 b2 b3 M : Nat) (S : List Int) (W : World) (hr : Kd.C recK W A r.length r) (hlen : r.length ≤ 1000000) (h1 : W.cell? ⟨b1, 0, none⟩ = some (.slice A r.length c)) (h2 : W.cell? ⟨b2, 0, none⟩ = some (.int .i64 id))
    (h3 : W.heap[b3]? = some (.cells #[.slice A r.length c, .map (some M0)] 91 (0, 0))) (hM : IMap W M (setV S)) (hS : S.Nodup) :
    Calls Tryd.prog 60 #[.map (some M), .pointer (some ⟨b1, 0, none⟩), .pointer (some ⟨b2, 0, none⟩), .pointer (some ⟨b3, 0, none⟩)] W fun e w' => e = .returned (.bool (restP r id S)) ∧ Below W.heap.size W w' := by
  have r1 := ro1 h1
  have r2 := ro1 h2
  have r3 : RO W XNone ⟨b3, 0, none⟩ [.slice A r.length c, .map (some M0)] := fun j v hj => ⟨by
    have := cell_of_row W b3 j _ 91 (0, 0) h3
    rw [Addr.add_lit, Nat.zero_add, this]
    simpa using hj, fun q => q⟩
  have hn := hr.2.1
  refine x_callsH (X := XNone) Tryd.func60 rfl rfl rfl (WOK.startM XNone hM) ?_
  with_reducible repeat refine xc_seq ?_
  with_reducible refine xc_region ?_
  refine xo_asg rfl rfl rfl ?_
  with_reducible refine xo_nil ?_
  with_reducible repeat (first | refine xq_then ?_ | refine xq_blockN ?_ | refine xq_scopeN ?_)
  with_reducible repeat refine xc_seq ?_
  with_reducible refine xc_region ?_
  refine xo_mkm rfl rfl (fun b10 => ?_)
  refine xo_asg rfl rfl rfl ?_
  with_reducible refine xo_nil ?_
  with_reducible repeat (first | refine xq_then ?_ | refine xq_blockN ?_ | refine xq_scopeN ?_)
  with_reducible repeat refine xc_seq ?_
  with_reducible refine xc_region ?_
  refine xo_loadR0 T_ rfl rfl rfl (by first | assumption | exact RO.fld (by assumption) rfl) rfl ?_
  refine xo_len T_ rfl rfl rfl rfl ?_
  refine xo_mv rfl rfl rfl ?_
  with_reducible refine xo_nil ?_
  with_reducible repeat (first | refine xq_then ?_ | refine xq_blockN ?_ | refine xq_scopeN ?_)
  with_reducible repeat refine xc_seq ?_
  with_reducible refine xc_block ?_
  refine xc_loop (γ := Nat × List Int) (fun q => q.1 ≤ r.length ∧ q.2.Nodup ∧ ∀ n, n ∈ q.2 ↔ n ∈ idsL (r.take q.1)) (fun q => [(0, .map (some M)), (1, .pointer (some ⟨b1, 0, none⟩)), (2, .pointer (some ⟨b2, 0, none⟩)), (3, .pointer (some ⟨b3, 0, none⟩)), (6, .map (some b10)), (11, .slice A r.length c), (12, .int .i64 (r.length : Int)), (13, .int .i64 (q.1 : Int))])
    (fun q => [(b10, true, hmap (setV q.2)), (M, false, hmap (setV S))]) (fun q => r.length - q.1) (0, []) ⟨Nat.zero_le _, List.nodup_nil, fun n => by simp [idsL]⟩ ⟨rfl, rfl, rfl, rfl, rfl, rfl, rfl, rfl, trivial⟩ (by repeat (first | exact List.Sublist.refl _ | apply List.Sublist.cons_cons | apply List.Sublist.cons | exact List.nil_sublist _)) ?_
  rintro ⟨k, acc⟩ ⟨hk1, hnd, hacc⟩
  simp only at hk1 hnd hacc ⊢
  with_reducible repeat refine xc_seq ?_
  with_reducible refine xc_region ?_
  refine xo_lss rfl rfl rfl rfl ?_
  with_reducible refine xo_nil ?_
  with_reducible repeat (first | refine xq_then ?_ | refine xq_blockN ?_ | refine xq_scopeN ?_)
  with_reducible repeat refine xc_seq ?_
  refine xc_cond rfl (fun h => ?_) (fun h => ?_)
  · have hlt : k < r.length := by have := of_decide_eq_true h; omega
    obtain ⟨ad, A2, c2, rfl, r4, hc2, hw2⟩ := rec_at hr k hlt
    have hts := fun n => idsL_take_succ hlt (n := n)
    generalize r.getD k zRec = x at *
    with_reducible refine xc_skip ?_
    with_reducible repeat (first | refine xq_then ?_ | refine xq_blockN ?_ | refine xq_scopeN ?_)
    with_reducible repeat refine xc_seq ?_
    with_reducible refine xc_block ?_
    with_reducible repeat refine xc_seq ?_
    with_reducible refine xc_region ?_
    refine xo_ia T_ rfl rfl rfl rfl rfl ⟨by omega, by omega⟩ rfl ?_
    refine xo_loadRN T_ rfl rfl rfl (by assumption) rfl rfl ?_
    refine xo_alloc T_ rfl rfl rfl rfl (fun b8 => ?_)
    refine xo_store T_ rfl rfl rfl rfl (by repeat (first | exact List.Mem.head _ | apply List.Mem.tail | apply List.mem_append_right)) rfl rfl rfl rfl (by repeat (first | exact Upd.head | apply Upd.tail | apply Upd.app)) rfl ?_
    with_reducible refine xo_nil ?_
    with_reducible repeat (first | refine xq_then ?_ | refine xq_blockN ?_ | refine xq_scopeN ?_)
    with_reducible repeat refine xc_seq ?_
    with_reducible refine xc_region ?_
    refine xo_mv rfl rfl rfl ?_
    refine xo_fa T_ rfl rfl rfl rfl rfl ?_
    refine xo_load0 T_ rfl rfl rfl (by repeat (first | exact List.Mem.head _ | apply List.Mem.tail | apply List.mem_append_right)) rfl rfl ?_
    refine xo_sins T_ rfl rfl rfl rfl rfl rfl (by repeat (first | exact List.Mem.head _ | apply List.Mem.tail | apply List.mem_append_right)) (by repeat (first | exact Upd.head | apply Upd.tail | apply Upd.app)) rfl ?_
    with_reducible refine xo_nil ?_
    with_reducible repeat (first | refine xq_then ?_ | refine xq_blockN ?_ | refine xq_scopeN ?_)
    with_reducible repeat refine xc_seq ?_
    with_reducible refine xc_region ?_
    refine xo_add rfl rfl rfl (by omega) rfl ?_
    refine xo_mv rfl rfl rfl ?_
    with_reducible refine xo_nil ?_
    with_reducible repeat (first | refine xq_then ?_ | refine xq_blockN ?_ | refine xq_scopeN ?_)
    exact xq_again _ _ _ _ _ (k + 1, insN x.f0 acc) ⟨hlt, insN_nodup hnd, fun n => by rw [mem_insN, hacc, hts]⟩ (by first | omega | (simp only; omega)) ⟨rfl, rfl, rfl, rfl, rfl, rfl, rfl, rfl, trivial⟩ (by repeat (first | exact List.Sublist.refl _ | apply List.Sublist.cons_cons | apply List.Sublist.cons | exact List.nil_sublist _))
  have hge : ¬ k < r.length := by have := of_decide_eq_false h; omega
  rw [List.take_of_length_le (by omega)] at hacc
  with_reducible refine xc_exit ?_
  with_reducible repeat (first | refine xq_blockX ?_ | refine xq_thenE ?_ | refine xq_blockE rfl ?_ | refine xq_scopeE ?_)
  with_reducible repeat (first | refine xq_then ?_ | refine xq_blockN ?_ | refine xq_scopeN ?_)
  with_reducible repeat refine xc_seq ?_
  with_reducible refine xc_region ?_
  refine xo_mv rfl rfl rfl ?_
  refine xo_rangeM T_ rfl rfl rfl (by repeat (first | exact List.Mem.head _ | apply List.Mem.tail | apply List.mem_append_right)) (fun es c => Rep.tail Rep.head) rfl (fun b22 es cl hE => ?_)
  with_reducible refine xo_nil ?_
  with_reducible repeat (first | refine xq_then ?_ | refine xq_blockN ?_ | refine xq_scopeN ?_)
  with_reducible repeat refine xc_seq ?_
  with_reducible refine xc_block ?_
  refine xc_loop (γ := Array Nat × List Int × List Int) (fun q => Seen es q.1 q.2.1 ∧ q.2.2.Nodup ∧ ∀ n, n ∈ q.2.2 ↔ n ∈ idsL r ∧ n ∉ q.2.1) (fun q => [(0, .map (some M)), (2, .pointer (some ⟨b2, 0, none⟩)), (3, .pointer (some ⟨b3, 0, none⟩)), (6, .map (some b10)), (22, .pointer (some ⟨b22, 0, none⟩))])
    (fun q => [(b22, true, hiter M cl q.1), (b10, true, hmap (setV q.2.2)), (M, false, hmapE es cl)]) (fun q => S.length - q.2.1.length) (#[], [], acc) ⟨⟨List.nodup_nil, fun n => by simp⟩, hnd, fun n => by simp [hacc]⟩ ⟨rfl, rfl, rfl, rfl, rfl, trivial⟩ (by repeat (first | exact List.Sublist.refl _ | apply List.Sublist.cons_cons | apply List.Sublist.cons | exact List.nil_sublist _)) ?_
  rintro ⟨seen, ys, acc2⟩ ⟨hseen, hnd2, hacc2⟩
  simp only at hseen hnd2 hacc2 ⊢
  with_reducible repeat refine xc_seq ?_
  with_reducible refine xc_region ?_
  refine xo_next rfl rfl (by repeat (first | exact List.Mem.head _ | apply List.Mem.tail | apply List.mem_append_right)) (by repeat (first | exact List.Mem.head _ | apply List.Mem.tail | apply List.mem_append_right)) hE (fun seen' => Upd.head) rfl (fun hall => ?_) (fun e he hns => ?_)
  · have hperm := hseen.all hE hall
    have hcong : holdsF r acc2 = holdsF r (compl r S) := holdsF_congr fun n hn => by rw [compl_iff hn, hacc2, hperm.mem_iff]; exact ⟨fun q => q.2, fun q => ⟨hn, q⟩⟩
    refine xo_ext rfl rfl rfl rfl ?_
    with_reducible refine xo_nil ?_
    with_reducible repeat (first | refine xq_then ?_ | refine xq_blockN ?_ | refine xq_scopeN ?_)
    with_reducible repeat refine xc_seq ?_
    refine xc_condF rfl ?_
    with_reducible refine xc_exit ?_
    with_reducible repeat (first | refine xq_blockX ?_ | refine xq_thenE ?_ | refine xq_blockE rfl ?_ | refine xq_scopeE ?_)
    refine xq_rep (b := M) (by repeat (first | exact List.Mem.head _ | apply List.Mem.tail | apply List.mem_append_right)) (fun o h => hmapE_hmap hE h) (Rep.tail (Rep.tail Rep.head)) ?_
    with_reducible repeat (first | refine xq_then ?_ | refine xq_blockN ?_ | refine xq_scopeN ?_)
    cases hid : decide (id ∈ S)
    · with_reducible repeat refine xc_seq ?_
      with_reducible refine xc_region ?_
      refine xo_mv rfl rfl rfl ?_
      refine xo_loadR0 T_ rfl rfl rfl (by first | assumption | exact RO.fld (by assumption) rfl) rfl ?_
      refine xo_sget T_ rfl rfl rfl rfl rfl rfl (by repeat (first | exact List.Mem.head _ | apply List.Mem.tail | apply List.mem_append_right)) rfl ?_
      refine xo_mv rfl rfl rfl ?_
      refine xo_as (i := 32) rfl (congrArg Value.bool hid) ?_
      first
        | refine xo_not rfl rfl ?_
        | (refine xo_loadRN T_ rfl rfl rfl (by assumption) rfl rfl ?_)
      first
        | refine xo_not rfl rfl ?_
        | (refine xo_mv rfl rfl rfl ?_)
      first
        | refine xo_not rfl rfl ?_
        | (fail "NO RULE: Op.call -6")
      first
        | refine xo_not rfl rfl ?_
        | (fail "NO RULE: Op.call -7")
      first
        | refine xo_not rfl rfl ?_
        | (refine xo_len T_ rfl rfl rfl rfl ?_)
      first
        | refine xo_not rfl rfl ?_
        | (refine xo_mv rfl rfl rfl ?_)
      first
        | refine xo_not rfl rfl ?_
        | (refine xo_len T_ rfl rfl rfl rfl ?_)
      first
        | refine xo_not rfl rfl ?_
        | (refine xo_eql rfl rfl rfl rfl ?_)
      first | refine xo_pickT rfl rfl rfl rfl ?_ | refine xo_pickF rfl rfl rfl rfl ?_
      refine xo_asg rfl rfl rfl ?_
      with_reducible refine xo_nil ?_
      with_reducible repeat (first | refine xq_then ?_ | refine xq_blockN ?_ | refine xq_scopeN ?_)
      with_reducible repeat refine xc_seq ?_
      with_reducible refine xc_ret ?_
      with_reducible repeat (first | refine xq_thenR ?_ | refine xq_blockR ?_ | refine xq_scopeR ?_)
      exact xq_ret1 rfl rfl fun w' hw => ⟨by rw [restP, hid]; rfl, hw.kx.below⟩
    · with_reducible repeat refine xc_seq ?_
      with_reducible refine xc_region ?_
      refine xo_mv rfl rfl rfl ?_
      refine xo_loadR0 T_ rfl rfl rfl (by first | assumption | exact RO.fld (by assumption) rfl) rfl ?_
      refine xo_sget T_ rfl rfl rfl rfl rfl rfl (by repeat (first | exact List.Mem.head _ | apply List.Mem.tail | apply List.mem_append_right)) rfl ?_
      refine xo_mv rfl rfl rfl ?_
      refine xo_as (i := 32) rfl (congrArg Value.bool hid) ?_
      first
        | refine xo_not rfl rfl ?_
        | (refine xo_loadRN T_ rfl rfl rfl (by assumption) rfl rfl ?_)
      first
        | refine xo_not rfl rfl ?_
        | (refine xo_mv rfl rfl rfl ?_)
      first
        | refine xo_not rfl rfl ?_
        | (refine xo_holds rfl rfl rfl rfl (fun b4 b5 => ?_))
      first
        | refine xo_not rfl rfl ?_
        | (refine xo_collect (r := r) hr hlen rfl rfl (by repeat (first | exact List.Mem.head _ | apply List.Mem.tail | apply List.mem_append_right)) (by repeat (first | exact List.Mem.head _ | apply List.Mem.tail | apply List.mem_append_right)) (by repeat (first | exact List.Mem.head _ | apply List.Mem.tail | apply List.mem_append_right)) (fun w1 hw1 => ne_of_nd hw1) rfl (fun rr hrr => ?_))
      first
        | refine xo_not rfl rfl ?_
        | (refine xo_lenR T_ rfl rfl (fun h => by rw [hrr h]; rfl) rfl rfl ?_)
      first
        | refine xo_not rfl rfl ?_
        | (refine xo_mv rfl rfl rfl ?_)
      first
        | refine xo_not rfl rfl ?_
        | (refine xo_lenM T_ rfl rfl rfl (by repeat (first | exact List.Mem.head _ | exact List.mem_append_left _ (List.Mem.head _) | apply List.mem_append_right | apply List.Mem.tail)) rfl ?_)
      first
        | refine xo_not rfl rfl ?_
        | (refine xo_eql rfl rfl rfl rfl ?_)
      first | refine xo_pickT rfl rfl rfl rfl ?_ | refine xo_pickF rfl rfl rfl rfl ?_
      refine xo_asg rfl rfl rfl ?_
      with_reducible refine xo_nil ?_
      with_reducible repeat (first | refine xq_then ?_ | refine xq_blockN ?_ | refine xq_scopeN ?_)
      with_reducible repeat refine xc_seq ?_
      with_reducible refine xc_ret ?_
      with_reducible repeat (first | refine xq_thenR ?_ | refine xq_blockR ?_ | refine xq_scopeR ?_)
      have hv : decide (((holdsF r acc2).length : Int) = (S.length : Int)) = restP r id S := by
        rw [restP, hid, hcong, Bool.true_and, decide_eq_decide]
        omega
      exact xq_ret1 rfl rfl fun w' hw => ⟨congrArg (fun b => Ending.returned (.bool b)) hv, hw.kx.below⟩
  · obtain ⟨k, hk, hk1, hk2⟩ := hE.setV he
    have hst := hseen.step hE he hns hk1
    have hlen2 : ys.length < S.length := by
      have := hst.len hE
      simp at this
      omega
    rw [hk1, hk2]
    refine xo_ext rfl rfl rfl rfl ?_
    with_reducible refine xo_nil ?_
    with_reducible repeat (first | refine xq_then ?_ | refine xq_blockN ?_ | refine xq_scopeN ?_)
    with_reducible repeat refine xc_seq ?_
    refine xc_condT rfl ?_
    with_reducible refine xc_skip ?_
    with_reducible repeat (first | refine xq_then ?_ | refine xq_blockN ?_ | refine xq_scopeN ?_)
    with_reducible repeat refine xc_seq ?_
    with_reducible refine xc_block ?_
    with_reducible repeat refine xc_seq ?_
    with_reducible refine xc_region ?_
    refine xo_entry rfl rfl (by repeat (first | exact List.Mem.head _ | apply List.Mem.tail | apply List.mem_append_right)) (by repeat (first | exact List.Mem.head _ | apply List.Mem.tail | apply List.mem_append_right)) hE he rfl ?_
    rw [hk1, hk2]
    refine xo_ext rfl rfl rfl rfl ?_
    refine xo_asg rfl rfl rfl ?_
    with_reducible refine xo_nil ?_
    with_reducible repeat (first | refine xq_then ?_ | refine xq_blockN ?_ | refine xq_scopeN ?_)
    with_reducible repeat refine xc_seq ?_
    with_reducible refine xc_region ?_
    refine xo_mv rfl rfl rfl ?_
    refine xo_mv rfl rfl rfl ?_
    refine xo_sdel T_ rfl rfl rfl rfl rfl (by repeat (first | exact List.Mem.head _ | apply List.Mem.tail | apply List.mem_append_right)) (by repeat (first | exact Upd.head | apply Upd.tail | apply Upd.app)) rfl ?_
    with_reducible refine xo_nil ?_
    with_reducible repeat (first | refine xq_then ?_ | refine xq_blockN ?_ | refine xq_scopeN ?_)
    refine xq_again _ _ _ _ _ (seen.push e.born, ys ++ [k], delN k acc2) ⟨hst, hnd2.erase _, fun n => ?_⟩ (by simp only [List.length_append, List.length_cons, List.length_nil]; omega) ⟨rfl, rfl, rfl, rfl, rfl, trivial⟩ (by repeat (first | exact List.Sublist.refl _ | apply List.Sublist.cons_cons | apply List.Sublist.cons | exact List.nil_sublist _))
    rw [mem_delN hnd2, hacc2, List.mem_append, List.mem_singleton, not_or]
    exact ⟨fun q => ⟨q.2.1, q.2.2, q.1⟩, fun q => ⟨q.2.2, q.1, q.2.1⟩⟩
theorem rests1_enters : ∀ args w, (callFunc 60 args).run Tryd.prog w = .ok (.enter 60 args) w := enters_of Tryd.func60 (by kernel_rfl) rfl
end Go.Proofs.YtcmepdamemnbkaaDoor
namespace Go.Proofs.YtcmepdamemnbkaaDoor
open Go.RowKit Go.Proofs.YtcmepdamemnbkaaDoorW.PrintWords
set_option linter.unusedVariables false
set_option linter.unusedSimpArgs false
def causeP (r : List RecT) (G : List Int) (id : Int) (S : List Int) : Bool := decide (id ∈ holdsF r (diffF G S))
theorem containsR {w0 w : World} {X : Nat → Prop} {η : Hp} (hw : WOK w0 X η w) {rr : RowR} {xs : List Int} (x : Int) (hl : xs.length ≤ 1000000) (h1 : RowAt 3 0 w rr xs) :
    Calls Tryd.prog 59 ([] ++ [valR rr xs.length, .int .i64 x] ++ []).toArray w fun e w' => e = .returned (.bool (decide (x ∈ xs))) ∧ Below w.heap.size w w' := by
  obtain ⟨A, c, e1, _, hA⟩ := h1.C (by omega)
  rw [e1]
  exact contains_calls A c xs x w hA
set_option maxHeartbeats 4000000 in
theorem causes1_calls (A : Option Addr) (c : Nat) (r : List RecT) (G : List Int) (id : Int) (M0 b1 b2 M : Nat) (S : List Int) (W : World) (hr : Kd.C recK W A r.length r) (hlen : r.length ≤ 1000000) (h2 : W.cell? ⟨b2, 0, none⟩ = some (.int .i64 id))
    (h1 : W.heap[b1]? = some (.cells #[.slice A r.length c, .map (some M0)] 91 (0, 0))) (hG : IMap W M0 (setV G)) (hGn : G.Nodup) (hM : IMap W M (setV S)) (hS : S.Nodup) :
    Calls Tryd.prog 62 #[.map (some M), .pointer (some ⟨b1, 0, none⟩), .pointer (some ⟨b2, 0, none⟩)] W fun e w' => e = .returned (.bool (causeP r G id S)) ∧ Below W.heap.size W w' := by
  have r2 := ro1 h2
  have r1 : RO W XNone ⟨b1, 0, none⟩ [.slice A r.length c, .map (some M0)] := fun j v hj => ⟨by
    have := cell_of_row W b1 j _ 91 (0, 0) h1
    rw [Addr.add_lit, Nat.zero_add, this]
    simpa using hj, fun q => q⟩
  have r1b : RO W XNone ⟨b1, 1, none⟩ [.map (some M0)] := ro1 (by rw [cell_of_row W b1 1 _ 91 (0, 0) h1]; rfl)
  have hn := hr.2.1
  obtain ⟨es0, cl0, hg1, hg2⟩ := hG
  refine x_callsH (X := XNone) Tryd.func62 rfl rfl rfl (WOK.startM XNone hM) ?_
  with_reducible repeat refine xc_seq ?_
  with_reducible refine xc_region ?_
  refine xo_asg rfl rfl rfl ?_
  with_reducible refine xo_nil ?_
  with_reducible repeat (first | refine xq_then ?_ | refine xq_blockN ?_ | refine xq_scopeN ?_)
  with_reducible repeat refine xc_seq ?_
  with_reducible refine xc_region ?_
  refine xo_faR T_ rfl rfl rfl rfl rfl ?_
  refine xo_loadR0 T_ rfl rfl rfl r1b rfl ?_
  refine xo_call (fs := []) (cs := []) rfl rfl rfl clone_enters rfl (fun w1 hw1 => (clone_calls M0 es0 cl0 w1 ((hw1.kx.below.block M0 (Array.getElem?_eq_some_iff.1 hg1).1).trans hg1)).mono ?_)
  rintro e w2 ⟨rfl, rfl⟩
  refine ⟨_, _, rfl, hw1.alloc _ (hmap (setV G)) ⟨es0, cl0, rfl, hg2⟩, ?_⟩
  generalize w1.heap.size = b9
  clear hw1
  refine xo_asg rfl rfl rfl ?_
  with_reducible refine xo_nil ?_
  with_reducible repeat (first | refine xq_then ?_ | refine xq_blockN ?_ | refine xq_scopeN ?_)
  with_reducible repeat refine xc_seq ?_
  with_reducible refine xc_region ?_
  refine xo_mv rfl rfl rfl ?_
  refine xo_rangeM T_ rfl rfl rfl (by repeat (first | exact List.Mem.head _ | apply List.Mem.tail | apply List.mem_append_right)) (fun es c => Rep.tail Rep.head) rfl (fun b22 es cl hE => ?_)
  with_reducible refine xo_nil ?_
  with_reducible repeat (first | refine xq_then ?_ | refine xq_blockN ?_ | refine xq_scopeN ?_)
  with_reducible repeat refine xc_seq ?_
  with_reducible refine xc_block ?_
  refine xc_loop (γ := Array Nat × List Int × List Int) (fun q => Seen es q.1 q.2.1 ∧ q.2.2.Nodup ∧ ∀ n, n ∈ q.2.2 ↔ n ∈ G ∧ n ∉ q.2.1) (fun q => [(1, .pointer (some ⟨b1, 0, none⟩)), (2, .pointer (some ⟨b2, 0, none⟩)), (5, .map (some b9)), (11, .pointer (some ⟨b22, 0, none⟩))])
    (fun q => [(b22, true, hiter M cl q.1), (b9, true, hmap (setV q.2.2)), (M, false, hmapE es cl)]) (fun q => S.length - q.2.1.length) (#[], [], G) ⟨⟨List.nodup_nil, fun n => by simp⟩, hGn, fun n => by simp⟩ ⟨rfl, rfl, rfl, rfl, trivial⟩ (by repeat (first | exact List.Sublist.refl _ | apply List.Sublist.cons_cons | apply List.Sublist.cons | exact List.nil_sublist _)) ?_
  rintro ⟨seen, ys, acc2⟩ ⟨hseen, hnd2, hacc2⟩
  simp only at hseen hnd2 hacc2 ⊢
  with_reducible repeat refine xc_seq ?_
  with_reducible refine xc_region ?_
  refine xo_next rfl rfl (by repeat (first | exact List.Mem.head _ | apply List.Mem.tail | apply List.mem_append_right)) (by repeat (first | exact List.Mem.head _ | apply List.Mem.tail | apply List.mem_append_right)) hE (fun seen' => Upd.head) rfl (fun hall => ?_) (fun e he hns => ?_)
  · have hperm := hseen.all hE hall
    have hcong : holdsF r acc2 = holdsF r (diffF G S) := holdsF_congr fun n hn => by rw [hacc2, hperm.mem_iff, diffF, List.mem_filter]; simp
    have hl2 := holdsF_len r acc2
    refine xo_ext rfl rfl rfl rfl ?_
    with_reducible refine xo_nil ?_
    with_reducible repeat (first | refine xq_then ?_ | refine xq_blockN ?_ | refine xq_scopeN ?_)
    with_reducible repeat refine xc_seq ?_
    refine xc_condF rfl ?_
    with_reducible refine xc_exit ?_
    with_reducible repeat (first | refine xq_blockX ?_ | refine xq_thenE ?_ | refine xq_blockE rfl ?_ | refine xq_scopeE ?_)
    refine xq_rep (b := M) (by repeat (first | exact List.Mem.head _ | apply List.Mem.tail | apply List.mem_append_right)) (fun o h => hmapE_hmap hE h) (Rep.tail (Rep.tail Rep.head)) ?_
    with_reducible repeat (first | refine xq_then ?_ | refine xq_blockN ?_ | refine xq_scopeN ?_)
    with_reducible repeat refine xc_seq ?_
    apply xc_drawE (fun g => [(2, .func (.func 70) #[] #[.pointer (some ⟨(g.getD 0 gv0).b, 0, none⟩), .pointer (some ⟨(g.getD 0 gv0).c, 0, none⟩)]), (3, valR (g.getD 1 gv0).rr (holdsF r acc2).length)]) (fun (η0 : Hp) g => match g with | [] => (η0) | a0 :: [] => ((a0.c, true, cel [.map (some b9)] 62) :: (a0.b, true, cel [.slice A r.length c, .map (some M0)] 91) :: η0) | a0 :: a1 :: _ => (hpR 3 1 a1.rr (holdsF r acc2).length ((holdsF r acc2).map (.int .i64)) ++ ((a0.c, true, cel [.map (some b9)] 62) :: (a0.b, true, cel [.slice A r.length c, .map (some M0)] 91) :: η0))) (fun g => match g with | _ :: a1 :: _ => (a1.rr = none → holdsF r acc2 = []) | _ => True) [0, 0, 1, 2, 0, 2, 2] [2, 3] [[0, 1], [2, 2]] (by trivial)
    apply SameLen.cons
    apply SameLen.cons
    apply SameLen.cons (c := undef)
    apply SameLen.cons (c := undef)
    apply SameLen.cons
    apply SameLen.cons
    apply SameLen.cons
    exact SameLen.nil
    rotate_left 5
    case hH0 => rfl
    case hmix => exact T_.mixed
    case hbind => rfl
    case hdeps => rfl
    case hdist => rfl
    case hfresh => rfl
    case hE => rfl
    case hEn => decide
    · refine DrawE.pure 0 0 rfl (.inr (by decide)) (fun L g hg hd => Nat.zero_le _) (fun g hlo hhi hF τ => ?_) ?_
      · rcases g with _ | ⟨a0, _ | ⟨a1, _ | ⟨a2, g⟩⟩⟩
        all_goals first
          | (exfalso; simp only [List.length_cons, List.length_nil] at hlo hhi; omega)
          | (refine ⟨_, rfl, ?_⟩
             refine xo_loadRN T_ rfl rfl rfl (by assumption) rfl rfl ?_
             exact xo_fin rfl)
      refine DrawE.pure 0 0 rfl (.inr (by decide)) (fun L g hg hd => Nat.zero_le _) (fun g hlo hhi hF τ => ?_) ?_
      · rcases g with _ | ⟨a0, _ | ⟨a1, _ | ⟨a2, g⟩⟩⟩
        all_goals first
          | (exfalso; simp only [List.length_cons, List.length_nil] at hlo hhi; omega)
          | (refine ⟨_, rfl, ?_⟩
             refine xo_mv rfl rfl rfl ?_
             exact xo_fin rfl)
      refine DrawE.eff 0 rfl (by decide) rfl (fun j hj => hj) (fun j g a hj => ?_) (fun L g hg hd => Nat.zero_le _) (fun g hgl hF τ => ?_) ?_
      · rcases j with _ | _ | _ | _ | _ | _ | _ | j
        all_goals first | rfl | (rcases g with _ | ⟨a0, _ | ⟨a1, _ | ⟨a2, g⟩⟩⟩ <;> first | rfl | exact absurd hj (by decide) | exact absurd hj (by simp [List.getD]))
      · obtain rfl : g = [] := by
          rcases g with _ | ⟨a0, g⟩ <;> first | rfl | (exfalso; simp only [List.length_cons, List.length_nil] at hgl; omega)
        refine xo_holds rfl rfl rfl rfl (fun b2 b3 => ?_)
        exact xo_finE ⟨b2, b3, none⟩ rfl trivial
      refine DrawE.eff 1 rfl (by decide) rfl (fun j hj => hj) (fun j g a hj => ?_) (fun L g hg hd => hg.2.1 2 (hd 2 (by decide))) (fun g hgl hF τ => ?_) ?_
      · rcases j with _ | _ | _ | _ | _ | _ | _ | j
        all_goals first | rfl | (rcases g with _ | ⟨a0, _ | ⟨a1, _ | ⟨a2, g⟩⟩⟩ <;> first | rfl | exact absurd hj (by decide) | exact absurd hj (by simp [List.getD]))
      · obtain ⟨a0, rfl⟩ : ∃ a0, g = [a0] := by
          rcases g with _ | ⟨a0, _ | ⟨a1, _ | ⟨a2, g⟩⟩⟩ <;> first | exact ⟨_, rfl⟩ | rfl | (exfalso; simp only [List.length_cons, List.length_nil] at hgl; omega)
        refine xo_collect (r := r) hr hlen rfl rfl (by repeat (first | exact List.Mem.head _ | apply List.Mem.tail | apply List.mem_append_right)) (by repeat (first | exact List.Mem.head _ | apply List.Mem.tail | apply List.mem_append_right)) (by repeat (first | exact List.Mem.head _ | apply List.Mem.tail | apply List.mem_append_right)) (fun w1 hw1 => ne_of_nd hw1) rfl (fun rr hrr => ?_)
        exact xo_finE ⟨0, 0, rr⟩ rfl hrr
      refine DrawE.pure 0 2 rfl (.inl rfl) (fun L g hg hd => Nat.zero_le _) (fun g hlo hhi hF τ => ?_) ?_
      · rcases g with _ | ⟨a0, _ | ⟨a1, _ | ⟨a2, g⟩⟩⟩
        all_goals first
          | (exfalso; simp only [List.length_cons, List.length_nil] at hlo hhi; omega)
          | (refine ⟨_, rfl, ?_⟩
             refine xo_loadR0 T_ rfl rfl rfl (by first | assumption | exact RO.fld (by assumption) rfl) rfl ?_
             exact xo_fin rfl)
      refine DrawE.pure 2 2 rfl (.inl rfl) (fun L g hg hd => hg.2.1 3 (hd 3 (by decide))) (fun g hlo hhi hF τ => ?_) ?_
      · rcases g with _ | ⟨a0, _ | ⟨a1, _ | ⟨a2, g⟩⟩⟩
        all_goals first
          | (exfalso; simp only [List.length_cons, List.length_nil] at hlo hhi; omega)
          | (refine ⟨_, rfl, ?_⟩
             refine xo_callB (fs := []) (cs := []) rfl rfl rfl contains_enters rfl (fun w1 hw1 => containsR hw1 id (by omega) (hw1.rowAt (rr := a1.rr) hF (fun p hp => List.mem_append_left _ (by rw [hp]; exact List.Mem.head _)))) ?_
             exact xo_fin rfl)
      refine DrawE.pure 2 2 rfl (.inl rfl) (fun L g hg hd => hg.2.1 5 (hd 5 (by decide))) (fun g hlo hhi hF τ => ?_) ?_
      · rcases g with _ | ⟨a0, _ | ⟨a1, _ | ⟨a2, g⟩⟩⟩
        all_goals first
          | (exfalso; simp only [List.length_cons, List.length_nil] at hlo hhi; omega)
          | (refine ⟨_, rfl, ?_⟩
             refine xo_asg rfl rfl rfl ?_
             exact xo_fin rfl)
      exact DrawE.nil
    intro g hgl hF
    obtain ⟨a0, a1, rfl⟩ : ∃ a0 a1, g = [a0, a1] := by
      rcases g with _ | ⟨a0, _ | ⟨a1, _ | ⟨a2, g⟩⟩⟩ <;> first | exact ⟨_, _, rfl⟩ | (exfalso; simp only [List.length_cons, List.length_nil] at hgl; omega)
    with_reducible repeat (first | refine xq_then ?_ | refine xq_blockN ?_ | refine xq_scopeN ?_)
    with_reducible repeat refine xc_seq ?_
    with_reducible refine xc_ret ?_
    with_reducible repeat (first | refine xq_thenR ?_ | refine xq_blockR ?_ | refine xq_scopeR ?_)
    have hv : decide (id ∈ holdsF r acc2) = causeP r G id S := by rw [causeP, hcong]
    exact xq_ret1 rfl rfl fun w' hw => ⟨congrArg (fun b => Ending.returned (.bool b)) hv, hw.kx.below⟩
  · obtain ⟨k, hk, hk1, hk2⟩ := hE.setV he
    have hst := hseen.step hE he hns hk1
    have hlen2 : ys.length < S.length := by
      have := hst.len hE
      simp at this
      omega
    rw [hk1, hk2]
    refine xo_ext rfl rfl rfl rfl ?_
    with_reducible refine xo_nil ?_
    with_reducible repeat (first | refine xq_then ?_ | refine xq_blockN ?_ | refine xq_scopeN ?_)
    with_reducible repeat refine xc_seq ?_
    refine xc_condT rfl ?_
    with_reducible refine xc_skip ?_
    with_reducible repeat (first | refine xq_then ?_ | refine xq_blockN ?_ | refine xq_scopeN ?_)
    with_reducible repeat refine xc_seq ?_
    with_reducible refine xc_block ?_
    with_reducible repeat refine xc_seq ?_
    with_reducible refine xc_region ?_
    refine xo_entry rfl rfl (by repeat (first | exact List.Mem.head _ | apply List.Mem.tail | apply List.mem_append_right)) (by repeat (first | exact List.Mem.head _ | apply List.Mem.tail | apply List.mem_append_right)) hE he rfl ?_
    rw [hk1, hk2]
    refine xo_ext rfl rfl rfl rfl ?_
    refine xo_asg rfl rfl rfl ?_
    with_reducible refine xo_nil ?_
    with_reducible repeat (first | refine xq_then ?_ | refine xq_blockN ?_ | refine xq_scopeN ?_)
    with_reducible repeat refine xc_seq ?_
    with_reducible refine xc_region ?_
    refine xo_mv rfl rfl rfl ?_
    refine xo_mv rfl rfl rfl ?_
    refine xo_sdel T_ rfl rfl rfl rfl rfl (by repeat (first | exact List.Mem.head _ | apply List.Mem.tail | apply List.mem_append_right)) (by repeat (first | exact Upd.head | apply Upd.tail | apply Upd.app)) rfl ?_
    with_reducible refine xo_nil ?_
    with_reducible repeat (first | refine xq_then ?_ | refine xq_blockN ?_ | refine xq_scopeN ?_)
    refine xq_again _ _ _ _ _ (seen.push e.born, ys ++ [k], delN k acc2) ⟨hst, hnd2.erase _, fun n => ?_⟩ (by simp only [List.length_append, List.length_cons, List.length_nil]; omega) ⟨rfl, rfl, rfl, rfl, trivial⟩ (by repeat (first | exact List.Sublist.refl _ | apply List.Sublist.cons_cons | apply List.Sublist.cons | exact List.nil_sublist _))
    rw [mem_delN hnd2, hacc2, List.mem_append, List.mem_singleton, not_or]
    exact ⟨fun q => ⟨q.2.1, q.2.2, q.1⟩, fun q => ⟨q.2.2, q.1, q.2.1⟩⟩
theorem causes1_enters : ∀ args w, (callFunc 62 args).run Tryd.prog w = .ok (.enter 62 args) w := enters_of Tryd.func62 (by kernel_rfl) rfl
end Go.Proofs.YtcmepdamemnbkaaDoor
namespace Go.Proofs.YtcmepdamemnbkaaDoor
open Go.RowKit Go.Proofs.YtcmepdamemnbkaaDoorW.PrintWords
set_option linter.unusedVariables false
set_option linter.unusedSimpArgs false
theorem idsL_lt {r : List RecT} (hs : SortedIds r) : (idsL r).Pairwise fun a b => a < b := by
  rw [List.pairwise_iff_getElem]
  intro i j hi hj hij
  have hi' : i < r.length := by simpa [idsL] using hi
  have hj' : j < r.length := by simpa [idsL] using hj
  have h1 : (idsL r)[i] = idAt r i := by have := idsL_at hi'; rw [List.getD_eq_getElem?_getD, List.getElem?_eq_getElem hi] at this; exact this
  have h2 : (idsL r)[j] = idAt r j := by have := idsL_at hj'; rw [List.getD_eq_getElem?_getD, List.getElem?_eq_getElem hj] at this; exact this
  rw [h1, h2]
  exact sorted_lt hs j i hij hj'
theorem sub_le {r : List RecT} (hs : SortedIds r) {xs : List Int} (h : xs.Sublist (idsL r)) : xs.Pairwise fun a b => decide (a ≤ b) = true :=
  ((idsL_lt hs).sublist h).imp fun h => by simpa using Int.le_of_lt h
theorem goneL_filter {l : List LetT} {day : Int} : ∀ (r : List RecT) (acc : List Int), (∀ n ∈ idsL r, n ∉ acc) → (idsL r).Nodup → goneL l day acc r = acc ++ (idsL r).filter (goneB l day)
  | [], acc, _, _ => by simp [goneL, idsL]
  | x :: r, acc, h, hn => by
    rw [idsL, List.map_cons, List.nodup_cons] at hn
    have h0 : x.f0 ∉ acc := h x.f0 (by simp [idsL])
    rw [goneL]
    by_cases hg : goneB l day x.f0 = true
    · rw [if_pos hg, insN, if_neg h0, goneL_filter r _ (fun n hn2 hm => ?_) hn.2, show idsL (x :: r) = x.f0 :: idsL r from rfl, List.filter_cons, if_pos hg, List.append_assoc]
      · rfl
      · rcases List.mem_append.1 hm with hm | hm
        · exact h n (by rw [idsL, List.map_cons]; exact List.mem_cons_of_mem _ hn2) hm
        · rw [List.mem_singleton] at hm
          exact hn.1 (hm ▸ hn2)
    · rw [if_neg hg, goneL_filter r acc (fun n hn2 => h n (by rw [idsL, List.map_cons]; exact List.mem_cons_of_mem _ hn2)) hn.2, show idsL (x :: r) = x.f0 :: idsL r from rfl, List.filter_cons, if_neg hg]
theorem goneF_filter {r : List RecT} (hs : SortedIds r) (l : List LetT) (day : Int) : goneF r l day = (idsL r).filter (goneB l day) := goneL_filter r [] (by simp) (idsL_nodup hs)
theorem goneF_sub {r : List RecT} (hs : SortedIds r) (l : List LetT) (day : Int) : (goneF r l day).Sublist (idsL r) := by
  rw [goneF_filter hs]
  exact List.filter_sublist
theorem restsR_eq {r : List RecT} {l : List LetT} {day id : Int} (ho : openF r l day [id] = 0) (hin : id ∈ holdsF r (goneF r l day)) : refRestsR r l day id = fewestF (holdsF r (goneF r l day)) (restP r id) := by
  obtain ⟨hok, hkn⟩ := refOpen_zero ho
  obtain ⟨a, h1, h2, h3⟩ := atF_known hkn
  rw [refRestsR, if_pos ⟨ho, hin⟩, h2, Int.toNat_natCast, ← rests_eq (sorted_of hok) _ h1, h3]
  rfl
theorem causesR_eq {r : List RecT} {l : List LetT} {day id : Int} (ho : openF r l day [id] = 0) (hin : id ∉ holdsF r (goneF r l day)) : refCausesR r l day id = fewestF (goneF r l day) (causeP r (goneF r l day) id) := by
  obtain ⟨hok, hkn⟩ := refOpen_zero ho
  obtain ⟨a, h1, h2, h3⟩ := atF_known hkn
  rw [refCausesR, if_pos ⟨ho, hin⟩, h2, Int.toNat_natCast, ← causes_eq (sorted_of hok) (goneF_sub (sorted_of hok) l day) h1 (by rw [h3]; exact hin), h3]
  rfl
end Go.Proofs.YtcmepdamemnbkaaDoor
namespace Go.Proofs.YtcmepdamemnbkaaDoor
open Go.RowKit
set_option linter.unusedVariables false
set_option linter.unusedSimpArgs false
section
variable {P : Program} {ro : Option Nat} {n N : Nat} {ds : List Deferred} {w0 : World} {X : Nat → Prop} {Q : Exit → Act → World → Prop} {σ : Slots} {η : Hp} {ops rest : List Oper} {d : Option Tmp} {ty : TypeId} {pos : String} {aft : Array Edge} {g : Option (Nat × Bool)} {x y : Operand} {t t' : TypeId}
theorem xc_slots {c : Code} (σ' : Slots) (hs : subS σ' σ) (h : XC P ro n N ds w0 X Q σ' η c) : XC P ro n N ds w0 X Q σ η c := fun a w ha hw => h a w (ha.sub hs) hw
end
end Go.Proofs.YtcmepdamemnbkaaDoor
namespace Go.Proofs.YtcmepdamemnbkaaDoor
open Go.RowKit Go.Proofs.YtcmepdamemnbkaaDoorW.PrintWords
set_option linter.unusedVariables false
set_option linter.unusedSimpArgs false
end Go.Proofs.YtcmepdamemnbkaaDoor
namespace Go.Proofs.YtcmepdamemnbkaaDoor
open Go.RowKit Go.Proofs.YtcmepdamemnbkaaDoorW.PrintWords
set_option linter.unusedVariables false
set_option linter.unusedSimpArgs false
end Go.Proofs.YtcmepdamemnbkaaDoor
namespace Go.Proofs.YtcmepdamemnbkaaDoor
open Go.RowKit
set_option linter.unusedVariables false
set_option linter.unusedSimpArgs false
theorem fill_congr {f g : Nat → Option (Nat × Nat)} : ∀ (ps : List (Nat × Value)) (cs : Array Value), (∀ p ∈ ps, f p.1 = g p.1) → Instr.fill f cs ps = Instr.fill g cs ps
  | [], _, _ => rfl
  | p :: ps, cs, h => by
    obtain ⟨i, v⟩ := p
    unfold Instr.fill
    rw [h (i, v) (List.mem_cons_self ..)]
    cases g i with
    | none => rfl
    | some q =>
      obtain ⟨off, size⟩ := q
      simp only
      split
      · rfl
      · exact fill_congr ps _ fun q hq => h q (List.mem_cons_of_mem _ hq)
section
variable {P : Program} {ro : Option Nat} {n N : Nat} {ds : List Deferred} {w0 : World} {X : Nat → Prop} {Q : Exit → Act → World → Prop} {σ : Slots} {η : Hp} {ops rest : List Oper} {d : Option Tmp} {ty : TypeId} {pos : String} {aft : Array Edge} {g : Option (Nat × Bool)}
theorem xo_bsG (T : Tys P) (sz : Nat) {t e : TypeId} {len k0 : Nat} {parts : List (Nat × Operand)} {ps : List (Nat × Value)} {z : Value} {cs : List Value} (hg : gS ops σ g = some true) (ht : look t T.el = some e) (hk : look e T.tk = some k0) (hsz : szN k0 = sz) (hz : look e T.zs = some z)
    (hlen : (Nat.ble (len * sz) 16777216 && !Nat.beq (len * sz) 0) = true) (hp : evp σ parts = some ps) (hpl : ps.all (fun p => Nat.blt p.1 len) = true) (hc : fillL ((List.range len).map fun i => (i * sz, sz)) ((List.range (len * sz)).map fun i => z.cells[i % z.cells.size]!) ps = some cs) (hN : dstOK N d = true)
    (h : ∀ b, XO P ro n N ds w0 X Q ops (putS d (.slice (some ⟨b, 0, none⟩) len len) σ) ((b, true, cel cs e) :: η) rest) : XO P ro n N ds w0 X Q ops σ η (⟨d, .buildSlice t len parts.toArray, ty, pos, aft, g⟩ :: rest) :=
  xo_base rfl hg fun a w ha hw => by
    have h1 := T.hel _ (look_mem ht)
    have h2 := (T.htk _ (look_mem hk)).2 w
    have h3 := T.hzs _ (look_mem hz) w
    have h4 := ha.evp hp
    rw [Bool.and_eq_true, Nat.ble_eq, Bool.not_eq_true', ← Bool.not_eq_true, Nat.beq_eq] at hlen
    have h2' : (sizeOf e).run P w = .ok sz w := by rw [← hsz]; exact h2
    have h5 : Instr.fill (fun i => some (i * sz, sz)) ((Array.range (len * sz)).map fun i => z.cells[i % z.cells.size]!) ps = some cs.toArray := by
      have h6 := fillL_eq _ _ _ _ hc
      rw [fill_congr (g := fun i => ((List.range len).map fun i => (i * sz, sz))[i]?) ps _ (fun p hp' => by
        have := List.all_eq_true.1 hpl p hp'
        rw [Nat.blt_eq] at this
        simp [List.getElem?_map, List.getElem?_range this])]
      rw [show ((Array.range (len * sz)).map fun i => z.cells[i % z.cells.size]!) = ((List.range (len * sz)).map fun i => z.cells[i % z.cells.size]!).toArray by apply Array.ext'; rw [Array.toList_map, Array.toList_range]]
      exact h6
    refine ⟨_, w.alloc (.cells cs.toArray e), .slice (some ⟨w.heap.size, 0, none⟩) len len, ?_, .inl rfl, h _ _ _ (ha.put hN _) (hw.alloc _ _ rfl)⟩
    simp only at h1 h3
    have h7 : ¬ len * sz > 2 ^ 24 := by have := hlen.1; omega
    simp only [execOp, List.map_toArray, Instr.buildSlice, Sem.run_bind, run_underlying h1, Result.andThen_ok, h2', if_neg h7, if_neg hlen.2, h3, Sem.run_pure]
    rw [show (parts.map fun (i, x) => (i, a.eval x)) = ps from h4, h5]
    rfl
end
/-- a block of cells, as a row whose room is full -/
theorem cel_row {cs : List Value} {t : TypeId} {sz n : Nat} (hn : cs.length = n * sz) (hm : n ≤ maxLen) {o : Obj} (h : cel cs t o) : orow t sz n n cs o :=
  ⟨cs.toArray, h, Nat.le_refl _, hm, by simpa using hn, by rw [List.take_of_length_le (by simp; omega)]⟩
end Go.Proofs.YtcmepdamemnbkaaDoor
namespace Go.Proofs.YtcmepdamemnbkaaDoor
open Go.RowKit Go.Proofs.YtcmepdamemnbkaaDoorW.PrintWords
set_option linter.unusedVariables false
set_option linter.unusedSimpArgs false
def recsE : List RecT := [⟨1, 1, []⟩, ⟨2, 2, []⟩, ⟨3, 3, [[1, 2]]⟩, ⟨4, 1, []⟩, ⟨5, 3, [[2, 4]]⟩, ⟨6, 4, [[3], [5]]⟩, ⟨7, 4, [[5, 6]]⟩]
def letsE : List LetT := [⟨1, 10, 1, 1⟩, ⟨2, 20, 1, 2⟩, ⟨3, 20, 4, 1⟩]
def movsE : List MovT := [⟨1, 3, 1, 50⟩, ⟨2, 3, 4, 20⟩, ⟨3, 3, 2, 5⟩, ⟨4, 3, 3, 3⟩, ⟨5, 5, 1, 30⟩, ⟨6, 5, 4, 30⟩]
/-- blocks in which a list lies -/
def ReadsR (ζ : Hp) (b : Nat) (l : List RecT) : Prop := (∀ e ∈ ζ, e.2.1 = true) ∧ ∀ (w0 : World) (X : Nat → Prop) (η : Hp) (w1 : World), WOK w0 X η w1 → (∀ e ∈ ζ, e ∈ η) → Kd.C recK w1 (some ⟨b, 0, none⟩) l.length l
def ReadsL (ζ : Hp) (b : Nat) (l : List LetT) : Prop := (∀ e ∈ ζ, e.2.1 = true) ∧ ∀ (w0 : World) (X : Nat → Prop) (η : Hp) (w1 : World), WOK w0 X η w1 → (∀ e ∈ ζ, e ∈ η) → Kd.C letK w1 (some ⟨b, 0, none⟩) l.length l
def ReadsM (ζ : Hp) (b : Nat) (l : List MovT) : Prop := (∀ e ∈ ζ, e.2.1 = true) ∧ ∀ (w0 : World) (X : Nat → Prop) (η : Hp) (w1 : World), WOK w0 X η w1 → (∀ e ∈ ζ, e ∈ η) → Kd.C movK w1 (some ⟨b, 0, none⟩) l.length l
theorem flat_map_len {α β : Type} (f : α → List β) (n : Nat) (h : ∀ x, (f x).length = n) (l : List α) : (l.map f).flatten.length = l.length * n := by
  rw [flat_len n _ (fun c hc => by obtain ⟨x, _, rfl⟩ := List.mem_map.1 hc; exact h x), List.length_map]
theorem let_cel {w0 : World} {X : Nat → Prop} {η : Hp} {w : World} (hw : WOK w0 X η w) {b : Nat} {wr : Bool} {l : List LetT} {t : TypeId} (hm : (b, wr, cel (l.map letV).flatten t) ∈ η) (hlen : l.length ≤ 1000000) : Kd.C letK w (some ⟨b, 0, none⟩) l.length l := by
  obtain ⟨o, h1, h2⟩ := hw.bl _ hm
  have hf := flat_map_len letV 4 (fun _ => rfl) l
  refine C_row (d := letK) (cells := l.map letV) (cap := l.length) h1 (e := t) (by rw [List.length_map]; exact cel_row hf (by simp [maxLen]; omega) h2) (by simp) (fun c hc => by obtain ⟨x, _, rfl⟩ := List.mem_map.1 hc; rfl) (fun j x c hx hcx => ?_) (by omega)
  rw [List.getElem?_map, hx] at hcx
  cases hcx
  exact k52_mk w x
theorem mov_cel {w0 : World} {X : Nat → Prop} {η : Hp} {w : World} (hw : WOK w0 X η w) {b : Nat} {wr : Bool} {l : List MovT} {t : TypeId} (hm : (b, wr, cel (l.map movV).flatten t) ∈ η) (hlen : l.length ≤ 1000000) : Kd.C movK w (some ⟨b, 0, none⟩) l.length l := by
  obtain ⟨o, h1, h2⟩ := hw.bl _ hm
  have hf := flat_map_len movV 4 (fun _ => rfl) l
  refine C_row (d := movK) (cells := l.map movV) (cap := l.length) h1 (e := t) (by rw [List.length_map]; exact cel_row hf (by simp [maxLen]; omega) h2) (by simp) (fun c hc => by obtain ⟨x, _, rfl⟩ := List.mem_map.1 hc; rfl) (fun j x c hx hcx => ?_) (by omega)
  rw [List.getElem?_map, hx] at hcx
  cases hcx
  exact k54_mk w x
theorem flat_one' (vs : List Value) : (vs.map fun v => [v]).flatten = vs := by
  induction vs with
  | nil => rfl
  | cons v vs ih => rw [List.map_cons, List.flatten_cons, ih]; rfl
theorem ways_cel {w0 : World} {X : Nat → Prop} {η : Hp} {w : World} (hw : WOK w0 X η w) {b : Nat} {wr : Bool} {vs : List Value} {ways : List (List Int)} {t : TypeId} (hm : (b, wr, cel vs t) ∈ η) (hl : vs.length = ways.length) (hlen : ways.length ≤ 1000000)
    (h : ∀ (k : Nat) (x : List Int) (v : Value), ways[k]? = some x → vs[k]? = some v → ∃ A c, v = .slice A x.length c ∧ x.length ≤ c ∧ Kd.C (Kd.int .i64) w A x.length x) : Kd.C waysK w (some ⟨b, 0, none⟩) ways.length ways := by
  obtain ⟨o, h1, h2⟩ := hw.bl _ hm
  refine C_row (d := waysK) (cells := vs.map fun v => [v]) (cap := ways.length) h1 (e := t) (by rw [List.length_map, flat_one', hl]; exact cel_row (by rw [hl]; simp [waysK, Kd.slice]) (by simp [maxLen]; omega) h2) (by simp [hl]) (fun c hc => by obtain ⟨x, _, rfl⟩ := List.mem_map.1 hc; rfl) (fun j x c hx hcx => ?_) (by omega)
  rw [List.getElem?_map] at hcx
  obtain ⟨v, hv, rfl⟩ := Option.map_eq_some_iff.1 hcx
  obtain ⟨A, c, rfl, h3, h4⟩ := h j x v hx hv
  exact ⟨A, c, rfl, h3, h4⟩
theorem recs_cel {w0 : World} {X : Nat → Prop} {η : Hp} {w : World} (hw : WOK w0 X η w) {b : Nat} {wr : Bool} {cells : List (List Value)} {l : List RecT} {t : TypeId} (hm : (b, wr, cel cells.flatten t) ∈ η) (hl : cells.length = l.length) (hlen : l.length ≤ 1000000)
    (h : ∀ (k : Nat) (x : RecT) (v : List Value), l[k]? = some x → cells[k]? = some v → ∃ A c, v = recV x A c ∧ x.f2.length ≤ c ∧ Kd.C waysK w A x.f2.length x.f2) : Kd.C recK w (some ⟨b, 0, none⟩) l.length l := by
  obtain ⟨o, h1, h2⟩ := hw.bl _ hm
  have hc3 : ∀ c ∈ cells, c.length = 3 := fun c hc => by
    obtain ⟨j, hj, rfl⟩ := List.getElem_of_mem hc
    obtain ⟨A, c, e, _⟩ := h j _ _ (List.getElem?_eq_getElem (by omega)) (List.getElem?_eq_getElem hj)
    rw [e]
    rfl
  refine C_row (d := recK) (cells := cells) (cap := l.length) h1 (e := t) (by rw [hl]; exact cel_row (by rw [flat_len 3 cells hc3, hl]; rfl) (by simp [maxLen]; omega) h2) hl hc3 (fun j x c hx hcx => ?_) (by omega)
  obtain ⟨A, c, rfl, h3, h4⟩ := h j x c hx hcx
  exact k50_mk w x h3 h4
theorem letters_calls (w : World) : Calls Tryd.prog 26 #[] w fun e w' => ∃ ζ b, e = .returned (.slice (some ⟨b, 0, none⟩) 3 3) ∧ WOK w XNone ζ w' ∧ ReadsL ζ b letsE := by
  refine x_calls (X := XNone) Tryd.func26 rfl rfl rfl ?_
  with_reducible repeat refine xc_seq ?_
  with_reducible refine xc_region ?_
  refine xo_asg rfl rfl rfl ?_
  with_reducible refine xo_nil ?_
  with_reducible repeat (first | refine xq_then ?_ | refine xq_blockN ?_ | refine xq_scopeN ?_)
  with_reducible repeat refine xc_seq ?_
  with_reducible refine xc_region ?_
  refine xo_build TB_ rfl rfl rfl rfl rfl ?_
  refine xo_build TB_ rfl rfl rfl rfl rfl ?_
  refine xo_build TB_ rfl rfl rfl rfl rfl ?_
  refine xo_bsG T_ 4 rfl rfl rfl rfl rfl rfl rfl rfl rfl rfl (fun b4 => ?_)
  refine xo_asg rfl rfl rfl ?_
  with_reducible refine xo_nil ?_
  with_reducible repeat (first | refine xq_then ?_ | refine xq_blockN ?_ | refine xq_scopeN ?_)
  with_reducible repeat refine xc_seq ?_
  with_reducible refine xc_ret ?_
  with_reducible repeat (first | refine xq_thenR ?_ | refine xq_blockR ?_ | refine xq_scopeR ?_)
  exact xq_ret1 rfl rfl fun w' hw => ⟨_, b4, rfl, hw, by simp, fun w0 X η w1 h1 hs => let_cel h1 (l := letsE) (hs (b4, true, cel (letsE.map letV).flatten 52) (List.Mem.head _)) (by decide)⟩
theorem letters_enters : ∀ args w, (callFunc 26 args).run Tryd.prog w = .ok (.enter 26 args) w := enters_of Tryd.func26 (by kernel_rfl) rfl
theorem movesE_calls (w : World) : Calls Tryd.prog 25 #[] w fun e w' => ∃ ζ b, e = .returned (.slice (some ⟨b, 0, none⟩) 6 6) ∧ WOK w XNone ζ w' ∧ ReadsM ζ b movsE := by
  refine x_calls (X := XNone) Tryd.func25 rfl rfl rfl ?_
  with_reducible repeat refine xc_seq ?_
  with_reducible refine xc_region ?_
  refine xo_asg rfl rfl rfl ?_
  with_reducible refine xo_nil ?_
  with_reducible repeat (first | refine xq_then ?_ | refine xq_blockN ?_ | refine xq_scopeN ?_)
  with_reducible repeat refine xc_seq ?_
  with_reducible refine xc_region ?_
  refine xo_build TB_ rfl rfl rfl rfl rfl ?_
  refine xo_build TB_ rfl rfl rfl rfl rfl ?_
  refine xo_build TB_ rfl rfl rfl rfl rfl ?_
  refine xo_build TB_ rfl rfl rfl rfl rfl ?_
  refine xo_build TB_ rfl rfl rfl rfl rfl ?_
  refine xo_build TB_ rfl rfl rfl rfl rfl ?_
  refine xo_bsG T_ 4 rfl rfl rfl rfl rfl rfl rfl rfl rfl rfl (fun b7 => ?_)
  refine xo_asg rfl rfl rfl ?_
  with_reducible refine xo_nil ?_
  with_reducible repeat (first | refine xq_then ?_ | refine xq_blockN ?_ | refine xq_scopeN ?_)
  with_reducible repeat refine xc_seq ?_
  with_reducible refine xc_ret ?_
  with_reducible repeat (first | refine xq_thenR ?_ | refine xq_blockR ?_ | refine xq_scopeR ?_)
  exact xq_ret1 rfl rfl fun w' hw => ⟨_, b7, rfl, hw, by simp, fun w0 X η w1 h1 hs => mov_cel h1 (l := movsE) (hs (b7, true, cel (movsE.map movV).flatten 54) (List.Mem.head _)) (by decide)⟩
theorem movesE_enters : ∀ args w, (callFunc 25 args).run Tryd.prog w = .ok (.enter 25 args) w := enters_of Tryd.func25 (by kernel_rfl) rfl
set_option maxHeartbeats 4000000 in
theorem recordsE_calls (w : World) : Calls Tryd.prog 24 #[] w fun e w' => ∃ ζ b, e = .returned (.slice (some ⟨b, 0, none⟩) 7 7) ∧ WOK w XNone ζ w' ∧ ReadsR ζ b recsE := by
  refine x_calls (X := XNone) Tryd.func24 rfl rfl rfl ?_
  with_reducible repeat refine xc_seq ?_
  with_reducible refine xc_region ?_
  refine xo_asg rfl rfl rfl ?_
  with_reducible refine xo_nil ?_
  with_reducible repeat (first | refine xq_then ?_ | refine xq_blockN ?_ | refine xq_scopeN ?_)
  with_reducible repeat refine xc_seq ?_
  with_reducible refine xc_region ?_
  refine xo_build TB_ rfl rfl rfl rfl rfl ?_
  refine xo_build TB_ rfl rfl rfl rfl rfl ?_
  refine xo_bs2 T_ rfl rfl rfl rfl rfl rfl rfl rfl rfl rfl (fun b3 => ?_)
  refine xo_bs1 T_ rfl rfl rfl rfl rfl rfl rfl rfl (fun b4 => ?_)
  refine xo_build TB_ rfl rfl rfl rfl rfl ?_
  refine xo_build TB_ rfl rfl rfl rfl rfl ?_
  refine xo_bs2 T_ rfl rfl rfl rfl rfl rfl rfl rfl rfl rfl (fun b7 => ?_)
  refine xo_bs1 T_ rfl rfl rfl rfl rfl rfl rfl rfl (fun b8 => ?_)
  refine xo_build TB_ rfl rfl rfl rfl rfl ?_
  refine xo_bs1 T_ rfl rfl rfl rfl rfl rfl rfl rfl (fun b10 => ?_)
  refine xo_bs1 T_ rfl rfl rfl rfl rfl rfl rfl rfl (fun b11 => ?_)
  refine xo_bs2 T_ rfl rfl rfl rfl rfl rfl rfl rfl rfl rfl (fun b12 => ?_)
  refine xo_build TB_ rfl rfl rfl rfl rfl ?_
  refine xo_bs2 T_ rfl rfl rfl rfl rfl rfl rfl rfl rfl rfl (fun b14 => ?_)
  refine xo_bs1 T_ rfl rfl rfl rfl rfl rfl rfl rfl (fun b15 => ?_)
  refine xo_build TB_ rfl rfl rfl rfl rfl ?_
  refine xo_bsG T_ 3 rfl rfl rfl rfl rfl rfl rfl rfl rfl rfl (fun b17 => ?_)
  refine xo_asg rfl rfl rfl ?_
  with_reducible refine xo_nil ?_
  with_reducible repeat (first | refine xq_then ?_ | refine xq_blockN ?_ | refine xq_scopeN ?_)
  with_reducible repeat refine xc_seq ?_
  with_reducible refine xc_ret ?_
  with_reducible repeat (first | refine xq_thenR ?_ | refine xq_blockR ?_ | refine xq_scopeR ?_)
  refine xq_ret1 rfl rfl fun w' hw => ⟨_, b17, rfl, hw, by simp, fun w0 X η w1 h1 hs => ?_⟩
  have hI := fun (b : Nat) (xs : List Int) (hm : (b, true, cel (xs.map (.int .i64)) 3) ∈ η) (hl : xs.length ≤ 100) => C_cel h1 hm (by omega)
  have hW := fun (b : Nat) (vs : List Value) (ways : List (List Int)) (hm : (b, true, cel vs 33) ∈ η) (hl : vs.length = ways.length) (hlen : ways.length ≤ 1000000) h => ways_cel h1 (t := 33) (ways := ways) hm hl hlen h
  refine recs_cel h1 (l := recsE) (cells := [recV ⟨1, 1, []⟩ none 0, recV ⟨2, 2, []⟩ none 0, recV ⟨3, 3, [[1, 2]]⟩ (some ⟨b4, 0, none⟩) 1, recV ⟨4, 1, []⟩ none 0, recV ⟨5, 3, [[2, 4]]⟩ (some ⟨b8, 0, none⟩) 1, recV ⟨6, 4, [[3], [5]]⟩ (some ⟨b12, 0, none⟩) 2, recV ⟨7, 4, [[5, 6]]⟩ (some ⟨b15, 0, none⟩) 1]) (hs (b17, true, _) (List.Mem.head _)) rfl (by decide) (fun k x v hx hv => ?_)
  rcases k with _ | _ | _ | _ | _ | _ | _ | k
  · cases hx; cases hv; exact ⟨none, 0, rfl, Nat.le_refl _, Kd.C_nil _ _⟩
  · cases hx; cases hv; exact ⟨none, 0, rfl, Nat.le_refl _, Kd.C_nil _ _⟩
  · cases hx; cases hv
    refine ⟨_, _, rfl, Nat.le_refl _, hW b4 _ [[1, 2]] (hs (b4, true, _) (by repeat (first | exact List.Mem.head _ | apply List.Mem.tail | apply List.mem_append_right))) rfl (by decide) (fun k x v hx hv => ?_)⟩
    rcases k with _ | k
    · cases hx; cases hv; exact ⟨_, _, rfl, Nat.le_refl _, hI b3 [1, 2] (hs (b3, true, _) (by repeat (first | exact List.Mem.head _ | apply List.Mem.tail | apply List.mem_append_right))) (by decide)⟩
    · cases hx
  · cases hx; cases hv; exact ⟨none, 0, rfl, Nat.le_refl _, Kd.C_nil _ _⟩
  · cases hx; cases hv
    refine ⟨_, _, rfl, Nat.le_refl _, hW b8 _ [[2, 4]] (hs (b8, true, _) (by repeat (first | exact List.Mem.head _ | apply List.Mem.tail | apply List.mem_append_right))) rfl (by decide) (fun k x v hx hv => ?_)⟩
    rcases k with _ | k
    · cases hx; cases hv; exact ⟨_, _, rfl, Nat.le_refl _, hI b7 [2, 4] (hs (b7, true, _) (by repeat (first | exact List.Mem.head _ | apply List.Mem.tail | apply List.mem_append_right))) (by decide)⟩
    · cases hx
  · cases hx; cases hv
    refine ⟨_, _, rfl, Nat.le_refl _, hW b12 _ [[3], [5]] (hs (b12, true, _) (by repeat (first | exact List.Mem.head _ | apply List.Mem.tail | apply List.mem_append_right))) rfl (by decide) (fun k x v hx hv => ?_)⟩
    rcases k with _ | _ | k
    · cases hx; cases hv; exact ⟨_, _, rfl, Nat.le_refl _, hI b10 [3] (hs (b10, true, _) (by repeat (first | exact List.Mem.head _ | apply List.Mem.tail | apply List.mem_append_right))) (by decide)⟩
    · cases hx; cases hv; exact ⟨_, _, rfl, Nat.le_refl _, hI b11 [5] (hs (b11, true, _) (by repeat (first | exact List.Mem.head _ | apply List.Mem.tail | apply List.mem_append_right))) (by decide)⟩
    · cases hx
  · cases hx; cases hv
    refine ⟨_, _, rfl, Nat.le_refl _, hW b15 _ [[5, 6]] (hs (b15, true, _) (by repeat (first | exact List.Mem.head _ | apply List.Mem.tail | apply List.mem_append_right))) rfl (by decide) (fun k x v hx hv => ?_)⟩
    rcases k with _ | k
    · cases hx; cases hv; exact ⟨_, _, rfl, Nat.le_refl _, hI b14 [5, 6] (hs (b14, true, _) (by repeat (first | exact List.Mem.head _ | apply List.Mem.tail | apply List.mem_append_right))) (by decide)⟩
    · cases hx
  · cases hx
theorem recordsE_enters : ∀ args w, (callFunc 24 args).run Tryd.prog w = .ok (.enter 24 args) w := enters_of Tryd.func24 (by kernel_rfl) rfl
end Go.Proofs.YtcmepdamemnbkaaDoor
