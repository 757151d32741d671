/- law08: two letters more, one that withdraws and one that restores: what holds then (plain). / law08: letters and moves copied, more of them, parts of them; next ahead of what is known. / law08.TrustMore: the walk. -/
import Derived.Test.YtcmepdamemnbkaaDoorPkLawTrustMore8
import Derived.Test.YtcmepdamemnbkaaDoorPkLawTrustMore7
import Derived.Test.YtcmepdamemnbkaaDoorPkLawTrustMore3
namespace Go.Proofs.YtcmepdamemnbkaaDoor
open Go.RowKit Go.Proofs.YtcmepdamemnbkaaDoorW.PrintWords
theorem goneF_mem {r : List RecT} (hs : SortedIds r) {l : List LetT} {day n : Int} : n ∈ goneF r l day ↔ n ∈ idsL r ∧ goneB l day n = true := by rw [goneF_filter hs, List.mem_filter]
def oneL (l : List LetT) (d id : Int) : List LetT := l ++ [⟨nextN l, d, id, 1⟩]
def twoL (l : List LetT) (d id : Int) : List LetT := oneL l d id ++ [⟨nextN l + 1, d, id, 2⟩]
theorem nextN_app (l : List LetT) (y : LetT) : nextN (l ++ [y]) = y.f0 + 1 := by
  unfold nextN
  rw [if_neg (by simp)]
  congr 1
  simp [List.getD_eq_getElem?_getD]
theorem nextB_app (l : List LetT) (y : LetT) : nextB (l ++ [y]) = (decide (y.f0 < 9999) && decide ((l.length : Int) + 1 < 20)) := by
  unfold nextB
  simp [List.getD_eq_getElem?_getD]
theorem gone_two {r : List RecT} (hs : SortedIds r) {l : List LetT} {d id n : Int} : n ∈ goneF r (twoL l d id) d ↔ n ∈ goneF r l d ∧ n ≠ id := by
  rw [goneF_mem hs, goneF_mem hs, twoL, goneB_app rfl, oneL, goneB_app rfl]
  by_cases e : id = n
  · simp [e]
  · simp only [if_neg e]
    exact ⟨fun h => ⟨h, fun q => e q.symm⟩, fun h => h.1⟩
theorem more_check1 {r : List RecT} {l : List LetT} {d id : Int} (h : checkF r l = 0) (hd : 0 ≤ d ∧ d ≤ 100000) (hid : knownF r id = true) (hn : nextB l = true) : checkF r (oneL l d id) = 0 := check_more h hn hd hid ⟨by decide, by decide⟩
theorem more_check2 {r : List RecT} {l : List LetT} {d id : Int} (h : checkF r l = 0) (hd : 0 ≤ d ∧ d ≤ 100000) (hid : knownF r id = true) (hn : nextB l = true) (h1 : nextN l < 9999) (h2 : (l.length : Int) + 2 ≤ 20) : checkF r (twoL l d id) = 0 := by
  have h3 := check_more (more_check1 h hd hid hn) (d := d) (id := id) (k := 2) (by rw [oneL, nextB_app]; simp only [Bool.and_eq_true, decide_eq_true_eq]; omega) hd hid ⟨by decide, by decide⟩
  rw [oneL, nextN_app] at h3
  exact h3
/-- the law's own test of a record -/
theorem more_test {r : List RecT} (hok : recordedF r = true) {l : List LetT} {d id : Int} {gb : Bool} (hg : gb = goneB l d id) (n : Int) :
    ((decide (n ∈ holdsF r (goneF r (oneL l d id) d)) && !decide (n ∈ holdsF r (goneF r l d))) || (decide (n ∈ holdsF r (goneF r l d)) && !decide (n ∈ holdsF r (goneF r (twoL l d id) d))) || (!gb && (decide (n ∈ holdsF r (goneF r l d)) != decide (n ∈ holdsF r (goneF r (twoL l d id) d))))) = false := by
  have hs := sorted_of hok
  have h1 : n ∈ holdsF r (goneF r (oneL l d id) d) → n ∈ holdsF r (goneF r l d) := fun h => by
    rw [oneL, holds_more hok l _ d rfl rfl] at h
    exact holdsF_mono hok (fun q hq => mem_insN.2 (.inr hq)) n h
  have h2 : n ∈ holdsF r (goneF r l d) → n ∈ holdsF r (goneF r (twoL l d id) d) := holdsF_mono hok (fun q hq => ((gone_two hs).1 hq).1) n
  have h3 : gb = false → holdsF r (goneF r (twoL l d id) d) = holdsF r (goneF r l d) := fun h => holdsF_congr fun q _ => by
    rw [gone_two hs]
    refine ⟨fun h => h.1, fun h4 => ⟨h4, fun e => ?_⟩⟩
    subst e
    rw [goneF_mem hs, ← hg, h] at h4
    cases h4.2
  by_cases a : n ∈ holdsF r (goneF r l d)
  · have b := h2 a
    simp [a, b]
  · have b : n ∉ holdsF r (goneF r (oneL l d id) d) := fun q => a (h1 q)
    cases gb with
    | false => rw [h3 rfl]; simp [a, b]
    | true => simp [a, b]
theorem more_less {r : List RecT} (hok : recordedF r = true) {l : List LetT} {d id : Int} : decide (id ∈ holdsF r (goneF r (oneL l d id) d)) = false := by
  rw [decide_eq_false_iff_not, oneL, holds_more hok l _ d rfl rfl]
  exact insN_gone (sorted_of hok) _ _
end Go.Proofs.YtcmepdamemnbkaaDoor
namespace Go.Proofs.YtcmepdamemnbkaaDoor
open Go.RowKit Go.Proofs.YtcmepdamemnbkaaDoorW.PrintWords
set_option linter.unusedVariables false
set_option linter.unusedSimpArgs false
section
variable {P : Program} {ro : Option Nat} {n N : Nat} {ds : List Deferred} {w0 : World} {X : Nat → Prop} {Q : Exit → Act → World → Prop} {σ : Slots} {η : Hp} {ops rest : List Oper} {d : Option Tmp} {ty : TypeId} {pos : String} {aft : Array Edge} {g : Option (Nat × Bool)} {x y : Operand} {t t' : TypeId}
theorem xo_addW {a b : Int} (hg : gS ops σ g = some true) (hx : ev σ x = some (.int .i64 a)) (hy : ev σ y = some (.int .i64 b)) (hN : dstOK N d = true) (h : XO P ro n N ds w0 X Q ops (putS d (.int .i64 (IntKind.i64.wrap (a + b))) σ) η rest) : XO P ro n N ds w0 X Q ops σ η (⟨d, .binOp .add t x y t', ty, pos, aft, g⟩ :: rest) :=
  xo_val _ rfl hg hN (fun _ w ha hw => by simp [execOp, ha.ev hx, ha.ev hy, eqGuard_add, binOp_add, Op.intArith]) h
/-- a list behind an own one -/
theorem xo_cat {α : Type} (f : α → List Value) {sz : Nat} (hf : ∀ x, (f x).length = sz) (hone : ∀ x, ∀ u ∈ f x, u.oneCell' = true) (l0 l : List α) (T : TysR P) {t e : TypeId} {s x : Operand} {z : Value} {by_ c b0 cap0 : Nat} {A : Option Addr} {η0 : Hp} (hg : gS ops σ g = some true) (ht : look t T.el = some e) (hi : look e T.inf = some (z, sz, by_)) (hzs : z.cells.toList.length = sz) (hsz : Nat.blt 0 sz = true)
    (hs : ev σ s = some (.slice (some ⟨b0, 0, none⟩) l0.length cap0)) (hx : ev σ x = some (.slice A l.length c)) (hη : η = (b0, true, orow e sz l0.length cap0 (l0.map f).flatten) :: η0) (hA : A = none → l.length = 0) (hnews : ∀ p, A = some p → ∀ w, WOK w0 X η w → ∀ j u, (l.map f).flatten[j]? = some u → w.cell? (p.add j) = some u)
    (hb : (l0.length + l.length) * by_ ≤ 140737488355328) (hb0 : Nat.blt 0 by_ = true) (hN : dstOK N d = true)
    (h : ∀ b cap, XO P ro n N ds w0 X Q ops (putS d (.slice (some ⟨b, 0, none⟩) (l0 ++ l).length cap) σ) ((b, true, orow e sz (l0 ++ l).length cap ((l0 ++ l).map f).flatten) :: η0) rest) :
    XO P ro n N ds w0 X Q ops σ η (⟨d, .call { callee := .builtin .append, args := #[s, x], argTypes := #[t, t] }, ty, pos, aft, g⟩ :: rest) := by
  refine xo_appN T (r := some (b0, cap0)) (m := l0.length) (xs := (l0.map f).flatten) (news := (l.map f).flatten) (η0 := η0) hg ht hi hzs hsz hs hx hη (flat_map_len f sz hf l0) (flat_map_len f sz hf l) hA hnews (fun u hu => by
    obtain ⟨c, hc, hu⟩ := List.mem_flatten.1 hu
    obtain ⟨q, _, rfl⟩ := List.mem_map.1 hc
    exact hone q u hu) (fun q => by cases q) hb hb0 hN fun r' hr' => ?_
  rcases r' with _ | ⟨b, cap⟩
  · exact absurd (hr' rfl).1 (by simp)
  · have := h b cap
    rw [List.length_append, List.map_append, List.flatten_append] at this
    exact this
theorem xo_cpy {α : Type} (f : α → List Value) {sz : Nat} (hf : ∀ x, (f x).length = sz) (hone : ∀ x, ∀ u ∈ f x, u.oneCell' = true) (l : List α) (T : TysR P) {t e : TypeId} {s x : Operand} {z : Value} {by_ c b0 : Nat} {A : Option Addr} {η0 : Hp} (hg : gS ops σ g = some true) (ht : look t T.el = some e) (hi : look e T.inf = some (z, sz, by_)) (hzs : z.cells.toList.length = sz) (hsz : Nat.blt 0 sz = true)
    (hs : ev σ s = some (.slice (some ⟨b0, 0, none⟩) 0 0)) (hx : ev σ x = some (.slice A l.length c)) (hη : η = (b0, true, orow e sz 0 0 []) :: η0) (hA : A = none → l.length = 0) (hnews : ∀ p, A = some p → ∀ w, WOK w0 X η w → ∀ j u, (l.map f).flatten[j]? = some u → w.cell? (p.add j) = some u)
    (hb : l.length * by_ ≤ 140737488355328) (hb0 : Nat.blt 0 by_ = true) (hN : dstOK N d = true)
    (h : ∀ b cap, XO P ro n N ds w0 X Q ops (putS d (.slice (some ⟨b, 0, none⟩) l.length cap) σ) ((b, true, orow e sz l.length cap (l.map f).flatten) :: η0) rest) :
    XO P ro n N ds w0 X Q ops σ η (⟨d, .call { callee := .builtin .append, args := #[s, x], argTypes := #[t, t] }, ty, pos, aft, g⟩ :: rest) :=
  xo_cat f hf hone [] l T hg ht hi hzs hsz hs hx hη hA hnews (by rw [List.length_nil, Nat.zero_add]; exact hb) hb0 hN h
/-- one more -/
theorem xo_one {α : Type} (f : α → List Value) {sz : Nat} (hf : ∀ x, (f x).length = sz) (l : List α) (q : α) (hone : (f q).all (·.oneCell') = true) (T : TysR P) {t e : TypeId} {s x : Operand} {z : Value} {by_ b0 b1 cap0 : Nat} {wr : Bool} {η0 : Hp} (hg : gS ops σ g = some true) (ht : look t T.el = some e) (hi : look e T.inf = some (z, sz, by_)) (hzs : z.cells.toList.length = sz) (hsz : Nat.blt 0 sz = true)
    (hs : ev σ s = some (.slice (some ⟨b0, 0, none⟩) l.length cap0)) (hx : ev σ x = some (.slice (some ⟨b1, 0, none⟩) 1 1)) (hη : η = (b1, wr, cel (f q) e) :: (b0, true, orow e sz l.length cap0 (l.map f).flatten) :: η0)
    (hb : (l.length + 1) * by_ ≤ 140737488355328) (hb0 : Nat.blt 0 by_ = true) (hN : dstOK N d = true)
    (h : ∀ b cap, XO P ro n N ds w0 X Q ops (putS d (.slice (some ⟨b, 0, none⟩) (l ++ [q]).length cap) σ) ((b, true, orow e sz (l ++ [q]).length cap ((l ++ [q]).map f).flatten) :: η0) rest) :
    XO P ro n N ds w0 X Q ops σ η (⟨d, .call { callee := .builtin .append, args := #[s, x], argTypes := #[t, t] }, ty, pos, aft, g⟩ :: rest) := by
  refine xo_app T (r := some (b0, cap0)) (m := l.length) (xs := (l.map f).flatten) (news := f q) (η0 := η0) hg ht hi hzs hsz hs hx hη (flat_map_len f sz hf l) (hf q) hone (fun q => by cases q) hb hb0 hN fun r' hr' => ?_
  rcases r' with _ | ⟨b, cap⟩
  · exact absurd rfl hr'
  · have := h b cap
    rw [List.length_append, List.map_append, List.flatten_append] at this
    simp only [List.map_cons, List.map_nil, List.flatten_cons, List.flatten_nil, List.append_nil] at this
    exact this
end
theorem cells_map {α : Type} {f : α → List Value} {cells : List (List Value)} {l : List α} (hl : cells.length = l.length) (h : ∀ (j : Nat) (x : α) (c : List Value), l[j]? = some x → cells[j]? = some c → c = f x) : cells = l.map f := by
  apply List.ext_getElem?
  intro i
  rw [List.getElem?_map]
  by_cases hi : i < l.length
  · rw [List.getElem?_eq_getElem (show i < cells.length by omega), List.getElem?_eq_getElem hi, Option.map_some]
    exact congrArg some (h i _ _ (List.getElem?_eq_getElem hi) (List.getElem?_eq_getElem (by omega)))
  · rw [List.getElem?_eq_none (by omega), List.getElem?_eq_none (by omega)]
    rfl
theorem let_news {w : World} {p : Addr} {l : List LetT} (h : Kd.C letK w (some p) l.length l) : ∀ (j : Nat) (u : Value), (l.map letV).flatten[j]? = some u → w.cell? (p.add j) = some u := by
  obtain ⟨cells, h1, _, h3, h4⟩ := C_cells h (by decide)
  obtain rfl := cells_map h1 fun j x c hx hc => k52_open (h3 j x c hx hc)
  exact h4 p rfl
theorem C_none {α : Type} {d : Kd α} {w : World} {A : Option Addr} {l : List α} (h : Kd.C d w A l.length l) (e : A = none) : l.length = 0 := by
  subst e
  by_cases h0 : l.length = 0
  · exact h0
  · obtain ⟨ad, e, _⟩ := h.2.2 (by omega)
    cases e
theorem let_one (x : LetT) : ∀ u ∈ letV x, u.oneCell' = true := by simp [letV, Value.oneCell']
theorem let_read {w0 w : World} {X : Nat → Prop} {η : Hp} (hw : WOK w0 X η w) {b cap : Nat} {l : List LetT} (hm : (b, true, orow 52 4 l.length cap (l.map letV).flatten) ∈ η) (hlen : l.length ≤ 1000000) : Kd.C letK w (some ⟨b, 0, none⟩) l.length l := by
  obtain ⟨o, h1, h2⟩ := hw.bl _ hm
  refine C_row (d := letK) (cells := l.map letV) (cap := cap) h1 (e := 52) (by rw [List.length_map]; exact h2) (by simp) (fun c hc => by obtain ⟨x, _, rfl⟩ := List.mem_map.1 hc; rfl) (fun j x c hx hcx => ?_) (by omega)
  rw [List.getElem?_map, hx] at hcx
  cases hcx
  exact k52_mk w x
/-- next, of letters of which nothing is known -/
theorem next0_calls (B : Option Addr) (c' : Nat) (l : List LetT) (w : World) (hl : Kd.C letK w B l.length l) :
    Calls Tryd.prog 36 #[.slice B l.length c'] w fun e w' => ∃ v b, e = .returned (.tuple #[.int .i64 v, .bool b]) ∧ Below w.heap.size w w' ∧ ((∀ x ∈ l, 0 ≤ x.f0 ∧ x.f0 ≤ 9999) → v = nextN l ∧ b = nextB l) := by
  have hn2 := hl.2.1
  refine x_calls (X := XNone) Tryd.func36 rfl rfl rfl ?_
  with_reducible repeat refine xc_seq ?_
  with_reducible refine xc_region ?_
  refine xo_asg rfl rfl rfl ?_
  refine xo_asg rfl rfl rfl ?_
  with_reducible refine xo_nil ?_
  with_reducible repeat (first | refine xq_then ?_ | refine xq_blockN ?_ | refine xq_scopeN ?_)
  with_reducible repeat refine xc_seq ?_
  with_reducible refine xc_region ?_
  refine xo_mv rfl rfl rfl ?_
  refine xo_len T_ rfl rfl rfl rfl ?_
  refine xo_eql rfl rfl rfl rfl ?_
  with_reducible refine xo_nil ?_
  with_reducible repeat (first | refine xq_then ?_ | refine xq_blockN ?_ | refine xq_scopeN ?_)
  with_reducible repeat refine xc_seq ?_
  refine xc_cond rfl (fun h0 => ?_) (fun h0 => ?_)
  · have h0 : l.length = 0 := by have := of_decide_eq_true h0; omega
    with_reducible repeat refine xc_seq ?_
    with_reducible refine xc_region ?_
    refine xo_asg rfl rfl rfl ?_
    refine xo_asg rfl rfl rfl ?_
    with_reducible refine xo_nil ?_
    with_reducible repeat (first | refine xq_then ?_ | refine xq_blockN ?_ | refine xq_scopeN ?_)
    with_reducible repeat refine xc_seq ?_
    with_reducible refine xc_ret ?_
    with_reducible repeat (first | refine xq_thenR ?_ | refine xq_blockR ?_ | refine xq_scopeR ?_)
    exact xq_ret2 rfl rfl rfl fun w' hw => ⟨_, _, rfl, hw.kx.below, fun _ => by rw [nextN, nextB, if_pos h0, decide_eq_true h0]; exact ⟨rfl, rfl⟩⟩
  have h0 : ¬ l.length = 0 := by have := of_decide_eq_false h0; omega
  obtain ⟨ad, rfl, r1⟩ := let_at hl (l.length - 1) (by omega)
  have hdx := fun hd : ∀ x ∈ l, 0 ≤ x.f0 ∧ x.f0 ≤ 9999 => hd _ (getD_mem l zLet (l.length - 1) (by omega))
  have e1 : nextN l = (l.getD (l.length - 1) zLet).f0 + 1 := by rw [nextN, if_neg h0]
  have e2 : nextB l = (decide ((l.getD (l.length - 1) zLet).f0 < 9999) && decide ((l.length : Int) < 20)) := by rw [nextB, decide_eq_false h0, Bool.false_or]
  rw [show (((l.length - 1 : Nat) : Nat) : Int) = (l.length : Int) - 1 by omega] at r1
  generalize l.getD (l.length - 1) zLet = x at *
  with_reducible refine xc_skip ?_
  with_reducible repeat (first | refine xq_then ?_ | refine xq_blockN ?_ | refine xq_scopeN ?_)
  cases h1 : decide (x.f0 < 9999)
  all_goals
    with_reducible repeat refine xc_seq ?_
    refine xc_slots [(0, .slice (some ad) l.length c')] ⟨rfl, trivial⟩ ?_
    with_reducible repeat refine xc_seq ?_
    apply xc_drawN
    · exact T_.mixed
    · rfl
    · rfl
    · rfl
    · rfl
    · apply DrawOps.cons
      · intro τ
        refine xo_mv rfl rfl rfl ?_
        exact xo_fin rfl
      apply DrawOps.cons
      · intro τ
        refine xo_mv rfl rfl rfl ?_
        exact xo_fin rfl
      apply DrawOps.cons
      · intro τ
        refine xo_len T_ rfl rfl rfl rfl ?_
        exact xo_fin rfl
      apply DrawOps.cons
      · intro τ
        refine xo_sub rfl rfl rfl (by omega) rfl ?_
        exact xo_fin rfl
      apply DrawOps.cons
      · intro τ
        refine xo_ia T_ rfl rfl rfl rfl rfl ⟨by omega, by omega⟩ rfl ?_
        exact xo_fin rfl
      apply DrawOps.cons
      · intro τ
        refine xo_faR T_ rfl rfl rfl rfl rfl ?_
        exact xo_fin rfl
      apply DrawOps.cons
      · intro τ
        refine xo_loadR0 T_ rfl rfl rfl (by first | assumption | exact RO.fld (by assumption) rfl) rfl ?_
        exact xo_fin rfl
      apply DrawOps.cons
      · intro τ
        refine xo_addW rfl rfl rfl rfl ?_
        exact xo_fin rfl
      apply DrawOps.cons
      · intro τ
        refine xo_mv rfl rfl rfl ?_
        exact xo_fin rfl
      apply DrawOps.cons
      · intro τ
        refine xo_mv rfl rfl rfl ?_
        exact xo_fin rfl
      apply DrawOps.cons
      · intro τ
        refine xo_len T_ rfl rfl rfl rfl ?_
        exact xo_fin rfl
      apply DrawOps.cons
      · intro τ
        refine xo_sub rfl rfl rfl (by omega) rfl ?_
        exact xo_fin rfl
      apply DrawOps.cons
      · intro τ
        refine xo_ia T_ rfl rfl rfl rfl rfl ⟨by omega, by omega⟩ rfl ?_
        exact xo_fin rfl
      apply DrawOps.cons
      · intro τ
        refine xo_faR T_ rfl rfl rfl rfl rfl ?_
        exact xo_fin rfl
      apply DrawOps.cons
      · intro τ
        refine xo_loadR0 T_ rfl rfl rfl (by first | assumption | exact RO.fld (by assumption) rfl) rfl ?_
        exact xo_fin rfl
      apply DrawOps.cons
      · intro τ
        refine xo_lss rfl rfl rfl rfl ?_
        first
          | exact xo_fin (congrArg Value.bool h1)
          | exact xo_fin rfl
      apply DrawOps.cons
      · intro τ
        refine xo_mv rfl rfl rfl ?_
        exact xo_fin rfl
      apply DrawOps.cons
      · intro τ
        first
          | refine xo_not rfl rfl ?_
          | (refine xo_mv rfl rfl rfl ?_)
        exact xo_fin rfl
      apply DrawOps.cons
      · intro τ
        first
          | refine xo_not rfl rfl ?_
          | (refine xo_len T_ rfl rfl rfl rfl ?_)
        exact xo_fin rfl
      apply DrawOps.cons
      · intro τ
        first
          | refine xo_not rfl rfl ?_
          | (refine xo_lss rfl rfl rfl rfl ?_)
        exact xo_fin rfl
      apply DrawOps.cons
      · intro τ
        first | refine xo_pickT rfl rfl rfl rfl ?_ | refine xo_pickF rfl rfl rfl rfl ?_
        exact xo_fin rfl
      apply DrawOps.cons
      · intro τ
        refine xo_asg rfl rfl rfl ?_
        exact xo_fin rfl
      apply DrawOps.cons
      · intro τ
        refine xo_asg rfl rfl rfl ?_
        exact xo_fin rfl
      exact DrawOps.nil
    · rfl
    with_reducible repeat (first | refine xq_then ?_ | refine xq_blockN ?_ | refine xq_scopeN ?_)
    with_reducible repeat refine xc_seq ?_
    with_reducible refine xc_ret ?_
    with_reducible repeat (first | refine xq_thenR ?_ | refine xq_blockR ?_ | refine xq_scopeR ?_)
    exact xq_ret2 rfl rfl rfl fun w' hw => ⟨_, _, rfl, hw.kx.below, fun hd => by rw [e1, e2, h1]; have := hdx hd; exact ⟨IntWalk.i64_in _ ⟨by omega, by omega⟩, rfl⟩⟩
end Go.Proofs.YtcmepdamemnbkaaDoor
namespace Go.Proofs.YtcmepdamemnbkaaDoor
open Go.RowKit Go.Proofs.YtcmepdamemnbkaaDoorW.PrintWords
set_option linter.unusedVariables false
set_option linter.unusedSimpArgs false
set_option maxRecDepth 8192 in
set_option maxHeartbeats 64000000 in
theorem trustMore_law (A B : Option Addr) (c c' : Nat) (r : List RecT) (l : List LetT) (n wh : Int) (w : World) (hr : Kd.C recK w A r.length r) (hl : Kd.C letK w B l.length l) (hk : Bytes r) (hkl : BytesL l) (hn : 0 ≤ n ∧ n ≤ 4294967295) (hwh : 0 ≤ wh ∧ wh ≤ 255) (hglob : GlobOK w) :
    Calls Tryd.prog 7 #[.slice A r.length c, .slice B l.length c', .int .u32 n, .int .u8 wh] w fun e w' => e = .returned (.bool true) ∧ Below w.heap.size w w' := by
  have hrn := hr.2.1
  refine x_calls (X := XNone) Tryd.func7 rfl rfl rfl ?_
  with_reducible repeat refine xc_seq ?_
  with_reducible refine xc_region ?_
  refine xo_asg rfl rfl rfl ?_
  with_reducible refine xo_nil ?_
  with_reducible repeat (first | refine xq_then ?_ | refine xq_blockN ?_ | refine xq_scopeN ?_)
  with_reducible repeat refine xc_seq ?_
  with_reducible refine xc_region ?_
  refine xo_callB (fs := []) (cs := []) rfl rfl rfl alive_enters rfl (fun w1 hw1 => alive_calls w1 (hglob.below hw1.kx.below)) ?_
  refine xo_asg rfl rfl rfl ?_
  with_reducible refine xo_nil ?_
  with_reducible repeat (first | refine xq_then ?_ | refine xq_blockN ?_ | refine xq_scopeN ?_)
  with_reducible repeat refine xc_seq ?_
  with_reducible refine xc_region ?_
  refine xo_mv rfl rfl rfl ?_
  refine xo_call (fs := []) (cs := []) rfl rfl rfl next_enters rfl (fun w1 hw1 => (next0_calls B c' l w1 (Kd.C_below hl hw1.kx.below)).mono ?_)
  rintro e w2 ⟨v, q, rfl, hb, hvq⟩
  refine ⟨_, _, rfl, hw1.below hb, ?_⟩
  clear hb hw1
  refine xo_mv rfl rfl rfl ?_
  refine xo_ext rfl rfl rfl rfl ?_
  refine xo_ext rfl rfl rfl rfl ?_
  refine xo_asg rfl rfl rfl ?_
  refine xo_asg rfl rfl rfl ?_
  with_reducible refine xo_nil ?_
  with_reducible repeat (first | refine xq_then ?_ | refine xq_blockN ?_ | refine xq_scopeN ?_)
  with_reducible refine xc_seq ?_
  refine xc_cut (γ := Bool) (fun g => g = false → Small r ∧ l.length ≤ 30 ∧ checkF r l = 0 ∧ r.length ≠ 0 ∧ v = nextN l ∧ nextB l = true ∧ v < 9999 ∧ (l.length : Int) + 2 ≤ 20) (fun g => [(0, .slice A r.length c), (1, .slice B l.length c'), (2, .int .u32 n), (3, .int .u8 wh), (9, .bool true), (10, .int .i64 v), (64, .bool g)]) (fun _ => []) ?_ (fun g hg => ?_)
  · with_reducible repeat refine xc_seq ?_
    with_reducible refine xc_region ?_
    refine xo_mv rfl rfl rfl ?_
    refine xo_mv rfl rfl rfl ?_
    refine xo_call (fs := []) (cs := []) rfl rfl rfl ready_enters rfl (fun w1 hw1 => (ready_calls A B c c' r l w1 (Kd.C_below hr hw1.kx.below) (Kd.C_below hl hw1.kx.below) hk hkl).mono ?_)
    rintro e w2 ⟨b, rfl, hb, hrd⟩
    refine ⟨_, _, rfl, hw1.below hb, ?_⟩
    clear hb hw1
    cases b
    · refine xo_notOp rfl rfl rfl ?_
      refine xo_mv rfl rfl rfl ?_
      first
        | refine xo_not rfl rfl ?_
        | (refine xo_mv rfl rfl rfl ?_)
      first
        | refine xo_not rfl rfl ?_
        | (refine xo_len T_ rfl rfl rfl rfl ?_)
      first
        | refine xo_not rfl rfl ?_
        | (refine xo_eql rfl rfl rfl rfl ?_)
      first | refine xo_pickT rfl rfl rfl rfl ?_ | refine xo_pickF rfl rfl rfl rfl ?_
      refine xo_mv rfl rfl rfl ?_
      first
        | refine xo_not rfl rfl ?_
        | (refine xo_mv rfl rfl rfl ?_)
      first
        | refine xo_not rfl rfl ?_
        | (refine xo_notOp rfl rfl rfl ?_)
      first | refine xo_pickT rfl rfl rfl rfl ?_ | refine xo_pickF rfl rfl rfl rfl ?_
      refine xo_mv rfl rfl rfl ?_
      first
        | refine xo_not rfl rfl ?_
        | (refine xo_mv rfl rfl rfl ?_)
      first
        | refine xo_not rfl rfl ?_
        | (refine xo_geq rfl rfl rfl rfl ?_)
      first | refine xo_pickT rfl rfl rfl rfl ?_ | refine xo_pickF rfl rfl rfl rfl ?_
      refine xo_mv rfl rfl rfl ?_
      first
        | refine xo_not rfl rfl ?_
        | (refine xo_mv rfl rfl rfl ?_)
      first
        | refine xo_not rfl rfl ?_
        | (refine xo_len T_ rfl rfl rfl rfl ?_)
      first
        | refine xo_not rfl rfl ?_
        | (refine xo_add rfl rfl rfl (by omega) rfl ?_)
      first
        | refine xo_not rfl rfl ?_
        | (refine xo_gtr rfl rfl rfl rfl ?_)
      first | refine xo_pickT rfl rfl rfl rfl ?_ | refine xo_pickF rfl rfl rfl rfl ?_
      refine xo_mv rfl rfl rfl ?_
      first
        | refine xo_not rfl rfl ?_
        | (refine xo_mv rfl rfl rfl ?_)
      first
        | refine xo_not rfl rfl ?_
        | (refine xo_notOp rfl rfl rfl ?_)
      first | refine xo_pickT rfl rfl rfl rfl ?_ | refine xo_pickF rfl rfl rfl rfl ?_
      with_reducible refine xo_nil ?_
      with_reducible repeat (first | refine xq_then ?_ | refine xq_blockN ?_ | refine xq_scopeN ?_)
      exact xq_meet _ _ _ true (fun h => by cases h) ⟨rfl, rfl, rfl, rfl, rfl, rfl, rfl, trivial⟩ (List.nil_sublist _)
    obtain ⟨hsm, hl30, hck⟩ := hrd rfl
    obtain ⟨hv, hq⟩ := hvq fun x hx => (lettersF_mem l _ _ (by omega) (check_split hck).2 x hx).1
    cases h0 : decide ((r.length : Int) = 0)
    rotate_left
    · refine xo_notOp rfl rfl rfl ?_
      refine xo_mv rfl rfl rfl ?_
      first
        | refine xo_not rfl rfl ?_
        | (refine xo_mv rfl rfl rfl ?_)
      first
        | refine xo_not rfl rfl ?_
        | (refine xo_len T_ rfl rfl rfl rfl ?_)
      first
        | refine xo_not rfl rfl ?_
        | (refine xo_eql rfl rfl rfl rfl ?_)
      refine xo_as (i := 45) rfl (congrArg Value.bool h0) ?_
      first | refine xo_pickT rfl rfl rfl rfl ?_ | refine xo_pickF rfl rfl rfl rfl ?_
      refine xo_mv rfl rfl rfl ?_
      first
        | refine xo_not rfl rfl ?_
        | (refine xo_mv rfl rfl rfl ?_)
      first
        | refine xo_not rfl rfl ?_
        | (refine xo_notOp rfl rfl rfl ?_)
      first | refine xo_pickT rfl rfl rfl rfl ?_ | refine xo_pickF rfl rfl rfl rfl ?_
      refine xo_mv rfl rfl rfl ?_
      first
        | refine xo_not rfl rfl ?_
        | (refine xo_mv rfl rfl rfl ?_)
      first
        | refine xo_not rfl rfl ?_
        | (refine xo_geq rfl rfl rfl rfl ?_)
      first | refine xo_pickT rfl rfl rfl rfl ?_ | refine xo_pickF rfl rfl rfl rfl ?_
      refine xo_mv rfl rfl rfl ?_
      first
        | refine xo_not rfl rfl ?_
        | (refine xo_mv rfl rfl rfl ?_)
      first
        | refine xo_not rfl rfl ?_
        | (refine xo_len T_ rfl rfl rfl rfl ?_)
      first
        | refine xo_not rfl rfl ?_
        | (refine xo_add rfl rfl rfl (by omega) rfl ?_)
      first
        | refine xo_not rfl rfl ?_
        | (refine xo_gtr rfl rfl rfl rfl ?_)
      first | refine xo_pickT rfl rfl rfl rfl ?_ | refine xo_pickF rfl rfl rfl rfl ?_
      refine xo_mv rfl rfl rfl ?_
      first
        | refine xo_not rfl rfl ?_
        | (refine xo_mv rfl rfl rfl ?_)
      first
        | refine xo_not rfl rfl ?_
        | (refine xo_notOp rfl rfl rfl ?_)
      first | refine xo_pickT rfl rfl rfl rfl ?_ | refine xo_pickF rfl rfl rfl rfl ?_
      with_reducible refine xo_nil ?_
      with_reducible repeat (first | refine xq_then ?_ | refine xq_blockN ?_ | refine xq_scopeN ?_)
      exact xq_meet _ _ _ true (fun h => by cases h) ⟨rfl, rfl, rfl, rfl, rfl, rfl, rfl, trivial⟩ (List.nil_sublist _)
    cases q
    · refine xo_notOp rfl rfl rfl ?_
      refine xo_mv rfl rfl rfl ?_
      first
        | refine xo_not rfl rfl ?_
        | (refine xo_mv rfl rfl rfl ?_)
      first
        | refine xo_not rfl rfl ?_
        | (refine xo_len T_ rfl rfl rfl rfl ?_)
      first
        | refine xo_not rfl rfl ?_
        | (refine xo_eql rfl rfl rfl rfl ?_)
      refine xo_as (i := 45) rfl (congrArg Value.bool h0) ?_
      first | refine xo_pickT rfl rfl rfl rfl ?_ | refine xo_pickF rfl rfl rfl rfl ?_
      refine xo_mv rfl rfl rfl ?_
      first
        | refine xo_not rfl rfl ?_
        | (refine xo_mv rfl rfl rfl ?_)
      first
        | refine xo_not rfl rfl ?_
        | (refine xo_notOp rfl rfl rfl ?_)
      first | refine xo_pickT rfl rfl rfl rfl ?_ | refine xo_pickF rfl rfl rfl rfl ?_
      refine xo_mv rfl rfl rfl ?_
      first
        | refine xo_not rfl rfl ?_
        | (refine xo_mv rfl rfl rfl ?_)
      first
        | refine xo_not rfl rfl ?_
        | (refine xo_geq rfl rfl rfl rfl ?_)
      first | refine xo_pickT rfl rfl rfl rfl ?_ | refine xo_pickF rfl rfl rfl rfl ?_
      refine xo_mv rfl rfl rfl ?_
      first
        | refine xo_not rfl rfl ?_
        | (refine xo_mv rfl rfl rfl ?_)
      first
        | refine xo_not rfl rfl ?_
        | (refine xo_len T_ rfl rfl rfl rfl ?_)
      first
        | refine xo_not rfl rfl ?_
        | (refine xo_add rfl rfl rfl (by omega) rfl ?_)
      first
        | refine xo_not rfl rfl ?_
        | (refine xo_gtr rfl rfl rfl rfl ?_)
      first | refine xo_pickT rfl rfl rfl rfl ?_ | refine xo_pickF rfl rfl rfl rfl ?_
      refine xo_mv rfl rfl rfl ?_
      first
        | refine xo_not rfl rfl ?_
        | (refine xo_mv rfl rfl rfl ?_)
      first
        | refine xo_not rfl rfl ?_
        | (refine xo_notOp rfl rfl rfl ?_)
      first | refine xo_pickT rfl rfl rfl rfl ?_ | refine xo_pickF rfl rfl rfl rfl ?_
      with_reducible refine xo_nil ?_
      with_reducible repeat (first | refine xq_then ?_ | refine xq_blockN ?_ | refine xq_scopeN ?_)
      exact xq_meet _ _ _ true (fun h => by cases h) ⟨rfl, rfl, rfl, rfl, rfl, rfl, rfl, trivial⟩ (List.nil_sublist _)
    cases h2 : decide (9999 ≤ v)
    rotate_left
    · refine xo_notOp rfl rfl rfl ?_
      refine xo_mv rfl rfl rfl ?_
      first
        | refine xo_not rfl rfl ?_
        | (refine xo_mv rfl rfl rfl ?_)
      first
        | refine xo_not rfl rfl ?_
        | (refine xo_len T_ rfl rfl rfl rfl ?_)
      first
        | refine xo_not rfl rfl ?_
        | (refine xo_eql rfl rfl rfl rfl ?_)
      refine xo_as (i := 45) rfl (congrArg Value.bool h0) ?_
      first | refine xo_pickT rfl rfl rfl rfl ?_ | refine xo_pickF rfl rfl rfl rfl ?_
      refine xo_mv rfl rfl rfl ?_
      first
        | refine xo_not rfl rfl ?_
        | (refine xo_mv rfl rfl rfl ?_)
      first
        | refine xo_not rfl rfl ?_
        | (refine xo_notOp rfl rfl rfl ?_)
      first | refine xo_pickT rfl rfl rfl rfl ?_ | refine xo_pickF rfl rfl rfl rfl ?_
      refine xo_mv rfl rfl rfl ?_
      first
        | refine xo_not rfl rfl ?_
        | (refine xo_mv rfl rfl rfl ?_)
      first
        | refine xo_not rfl rfl ?_
        | (refine xo_geq rfl rfl rfl rfl ?_)
      refine xo_as (i := 53) rfl (congrArg Value.bool h2) ?_
      first | refine xo_pickT rfl rfl rfl rfl ?_ | refine xo_pickF rfl rfl rfl rfl ?_
      refine xo_mv rfl rfl rfl ?_
      first
        | refine xo_not rfl rfl ?_
        | (refine xo_mv rfl rfl rfl ?_)
      first
        | refine xo_not rfl rfl ?_
        | (refine xo_len T_ rfl rfl rfl rfl ?_)
      first
        | refine xo_not rfl rfl ?_
        | (refine xo_add rfl rfl rfl (by omega) rfl ?_)
      first
        | refine xo_not rfl rfl ?_
        | (refine xo_gtr rfl rfl rfl rfl ?_)
      first | refine xo_pickT rfl rfl rfl rfl ?_ | refine xo_pickF rfl rfl rfl rfl ?_
      refine xo_mv rfl rfl rfl ?_
      first
        | refine xo_not rfl rfl ?_
        | (refine xo_mv rfl rfl rfl ?_)
      first
        | refine xo_not rfl rfl ?_
        | (refine xo_notOp rfl rfl rfl ?_)
      first | refine xo_pickT rfl rfl rfl rfl ?_ | refine xo_pickF rfl rfl rfl rfl ?_
      with_reducible refine xo_nil ?_
      with_reducible repeat (first | refine xq_then ?_ | refine xq_blockN ?_ | refine xq_scopeN ?_)
      exact xq_meet _ _ _ true (fun h => by cases h) ⟨rfl, rfl, rfl, rfl, rfl, rfl, rfl, trivial⟩ (List.nil_sublist _)
    cases h3 : decide (20 < (l.length : Int) + 2)
    rotate_left
    · refine xo_notOp rfl rfl rfl ?_
      refine xo_mv rfl rfl rfl ?_
      first
        | refine xo_not rfl rfl ?_
        | (refine xo_mv rfl rfl rfl ?_)
      first
        | refine xo_not rfl rfl ?_
        | (refine xo_len T_ rfl rfl rfl rfl ?_)
      first
        | refine xo_not rfl rfl ?_
        | (refine xo_eql rfl rfl rfl rfl ?_)
      refine xo_as (i := 45) rfl (congrArg Value.bool h0) ?_
      first | refine xo_pickT rfl rfl rfl rfl ?_ | refine xo_pickF rfl rfl rfl rfl ?_
      refine xo_mv rfl rfl rfl ?_
      first
        | refine xo_not rfl rfl ?_
        | (refine xo_mv rfl rfl rfl ?_)
      first
        | refine xo_not rfl rfl ?_
        | (refine xo_notOp rfl rfl rfl ?_)
      first | refine xo_pickT rfl rfl rfl rfl ?_ | refine xo_pickF rfl rfl rfl rfl ?_
      refine xo_mv rfl rfl rfl ?_
      first
        | refine xo_not rfl rfl ?_
        | (refine xo_mv rfl rfl rfl ?_)
      first
        | refine xo_not rfl rfl ?_
        | (refine xo_geq rfl rfl rfl rfl ?_)
      refine xo_as (i := 53) rfl (congrArg Value.bool h2) ?_
      first | refine xo_pickT rfl rfl rfl rfl ?_ | refine xo_pickF rfl rfl rfl rfl ?_
      refine xo_mv rfl rfl rfl ?_
      first
        | refine xo_not rfl rfl ?_
        | (refine xo_mv rfl rfl rfl ?_)
      first
        | refine xo_not rfl rfl ?_
        | (refine xo_len T_ rfl rfl rfl rfl ?_)
      first
        | refine xo_not rfl rfl ?_
        | (refine xo_add rfl rfl rfl (by omega) rfl ?_)
      first
        | refine xo_not rfl rfl ?_
        | (refine xo_gtr rfl rfl rfl rfl ?_)
      refine xo_as (i := 59) rfl (congrArg Value.bool h3) ?_
      first | refine xo_pickT rfl rfl rfl rfl ?_ | refine xo_pickF rfl rfl rfl rfl ?_
      refine xo_mv rfl rfl rfl ?_
      first
        | refine xo_not rfl rfl ?_
        | (refine xo_mv rfl rfl rfl ?_)
      first
        | refine xo_not rfl rfl ?_
        | (refine xo_notOp rfl rfl rfl ?_)
      first | refine xo_pickT rfl rfl rfl rfl ?_ | refine xo_pickF rfl rfl rfl rfl ?_
      with_reducible refine xo_nil ?_
      with_reducible repeat (first | refine xq_then ?_ | refine xq_blockN ?_ | refine xq_scopeN ?_)
      exact xq_meet _ _ _ true (fun h => by cases h) ⟨rfl, rfl, rfl, rfl, rfl, rfl, rfl, trivial⟩ (List.nil_sublist _)
    · refine xo_notOp rfl rfl rfl ?_
      refine xo_mv rfl rfl rfl ?_
      first
        | refine xo_not rfl rfl ?_
        | (refine xo_mv rfl rfl rfl ?_)
      first
        | refine xo_not rfl rfl ?_
        | (refine xo_len T_ rfl rfl rfl rfl ?_)
      first
        | refine xo_not rfl rfl ?_
        | (refine xo_eql rfl rfl rfl rfl ?_)
      refine xo_as (i := 45) rfl (congrArg Value.bool h0) ?_
      first | refine xo_pickT rfl rfl rfl rfl ?_ | refine xo_pickF rfl rfl rfl rfl ?_
      refine xo_mv rfl rfl rfl ?_
      first
        | refine xo_not rfl rfl ?_
        | (refine xo_mv rfl rfl rfl ?_)
      first
        | refine xo_not rfl rfl ?_
        | (refine xo_notOp rfl rfl rfl ?_)
      first | refine xo_pickT rfl rfl rfl rfl ?_ | refine xo_pickF rfl rfl rfl rfl ?_
      refine xo_mv rfl rfl rfl ?_
      first
        | refine xo_not rfl rfl ?_
        | (refine xo_mv rfl rfl rfl ?_)
      first
        | refine xo_not rfl rfl ?_
        | (refine xo_geq rfl rfl rfl rfl ?_)
      refine xo_as (i := 53) rfl (congrArg Value.bool h2) ?_
      first | refine xo_pickT rfl rfl rfl rfl ?_ | refine xo_pickF rfl rfl rfl rfl ?_
      refine xo_mv rfl rfl rfl ?_
      first
        | refine xo_not rfl rfl ?_
        | (refine xo_mv rfl rfl rfl ?_)
      first
        | refine xo_not rfl rfl ?_
        | (refine xo_len T_ rfl rfl rfl rfl ?_)
      first
        | refine xo_not rfl rfl ?_
        | (refine xo_add rfl rfl rfl (by omega) rfl ?_)
      first
        | refine xo_not rfl rfl ?_
        | (refine xo_gtr rfl rfl rfl rfl ?_)
      refine xo_as (i := 59) rfl (congrArg Value.bool h3) ?_
      first | refine xo_pickT rfl rfl rfl rfl ?_ | refine xo_pickF rfl rfl rfl rfl ?_
      refine xo_mv rfl rfl rfl ?_
      first
        | refine xo_not rfl rfl ?_
        | (refine xo_mv rfl rfl rfl ?_)
      first
        | refine xo_not rfl rfl ?_
        | (refine xo_notOp rfl rfl rfl ?_)
      first | refine xo_pickT rfl rfl rfl rfl ?_ | refine xo_pickF rfl rfl rfl rfl ?_
      with_reducible refine xo_nil ?_
      with_reducible repeat (first | refine xq_then ?_ | refine xq_blockN ?_ | refine xq_scopeN ?_)
      have h0' := of_decide_eq_false h0
      have h2' := of_decide_eq_false h2
      have h3' := of_decide_eq_false h3
      exact xq_meet _ _ _ false (fun _ => ⟨hsm, hl30, hck, by omega, hv, hq.symm, by omega, by omega⟩) ⟨rfl, rfl, rfl, rfl, rfl, rfl, rfl, trivial⟩ (List.nil_sublist _)
  with_reducible repeat refine xc_seq ?_
  refine xc_cond rfl (fun hg1 => ?_) (fun hg1 => ?_)
  · with_reducible repeat refine xc_seq ?_
    with_reducible refine xc_region ?_
    refine xo_mv rfl rfl rfl ?_
    refine xo_asg rfl rfl rfl ?_
    with_reducible refine xo_nil ?_
    with_reducible repeat (first | refine xq_then ?_ | refine xq_blockN ?_ | refine xq_scopeN ?_)
    with_reducible repeat refine xc_seq ?_
    with_reducible refine xc_ret ?_
    with_reducible repeat (first | refine xq_thenR ?_ | refine xq_blockR ?_ | refine xq_scopeR ?_)
    exact xq_ret1 rfl rfl fun w' hw => ⟨rfl, hw.kx.below⟩
  obtain ⟨hsm, hl30, hck, hr0, hv, hnB, hv9, hl2⟩ := hg hg1
  clear hg hvq
  have hok := check_zero hck
  have hs := sorted_of hok
  have hlen := recorded_len hok
  have hlm := lettersF_mem l _ _ (by omega) (check_split hck).2
  have hm1 := Int.emod_nonneg wh (b := (r.length : Int)) (by omega)
  have hm2 := Int.emod_lt_of_pos wh (b := (r.length : Int)) (by omega)
  with_reducible refine xc_skip ?_
  with_reducible repeat (first | refine xq_then ?_ | refine xq_blockN ?_ | refine xq_scopeN ?_)
  with_reducible repeat refine xc_seq ?_
  apply xc_drawE (fun g => [(2, .int .i64 ((g.getD 0 gv0).b : Int)), (8, .int .i64 ((g.getD 0 gv0).b : Int))]) (fun (η0 : Hp) g => match g with | [] => (η0) | a0 :: _ => (η0)) (fun g => match g with | a0 :: _ => a0.b ≤ 100000 | _ => True) [0, 0, 1, 0, 0, 0, 0, 0, 1, 1] [2] [[0, 1]] (by trivial)
  apply SameLen.cons
  apply SameLen.cons
  apply SameLen.cons (c := undef)
  apply SameLen.cons
  apply SameLen.cons
  apply SameLen.cons
  apply SameLen.cons
  apply SameLen.cons
  apply SameLen.cons (c := undef)
  apply SameLen.cons
  exact SameLen.nil
  rotate_left 8
  case hH0 => rfl
  case hmix => exact T_.mixed
  case hbind => rfl
  case hdeps => rfl
  case hdist => rfl
  case hfresh => rfl
  case hE => rfl
  case hEn => decide
  · refine DrawE.pure 0 0 rfl (.inr (by decide)) (fun L g hg hd => Nat.zero_le _) (fun g hlo hhi hF τ => ?_) ?_
    · rcases g with _ | ⟨a0, _ | ⟨a1, g⟩⟩
      all_goals first
        | (exfalso; simp only [List.length_cons, List.length_nil] at hlo hhi; omega)
        | (refine ⟨_, rfl, ?_⟩
           refine xo_mv rfl rfl rfl ?_
           exact xo_fin rfl)
    refine DrawE.pure 0 0 rfl (.inr (by decide)) (fun L g hg hd => Nat.zero_le _) (fun g hlo hhi hF τ => ?_) ?_
    · rcases g with _ | ⟨a0, _ | ⟨a1, g⟩⟩
      all_goals first
        | (exfalso; simp only [List.length_cons, List.length_nil] at hlo hhi; omega)
        | (refine ⟨_, rfl, ?_⟩
           refine xo_mv rfl rfl rfl ?_
           exact xo_fin rfl)
    refine DrawE.eff 0 rfl (by decide) rfl (fun j hj => hj) (fun j g a hj => ?_) (fun L g hg hd => Nat.zero_le _) (fun g hgl hF τ => ?_) ?_
    · rcases j with _ | _ | _ | _ | _ | _ | _ | _ | _ | _ | j
      all_goals first | rfl | (rcases g with _ | ⟨a0, _ | ⟨a1, g⟩⟩ <;> first | rfl | exact absurd hj (by decide) | exact absurd hj (by simp [List.getD]))
    · obtain rfl : g = [] := by
        rcases g with _ | ⟨a0, g⟩ <;> first | rfl | (exfalso; simp only [List.length_cons, List.length_nil] at hgl; omega)
      refine xo_call (fs := []) (cs := []) rfl rfl rfl day_enters rfl (fun w1 hw1 => (day_calls B c' l n w1 (Kd.C_below hl hw1.kx.below) hn (fun x hx => (hlm x hx).2.1)).mono ?_)
      rintro e w2 ⟨d, rfl, hb, hd0, hd1⟩
      obtain ⟨dn, rfl⟩ : ∃ dn : Nat, d = (dn : Int) := ⟨d.toNat, by omega⟩
      refine ⟨_, _, rfl, hw1.below hb, ?_⟩
      exact xo_finE ⟨dn, 0, none⟩ rfl (show dn ≤ 100000 by omega)
    refine DrawE.pure 0 1 rfl (.inl rfl) (fun L g hg hd => Nat.zero_le _) (fun g hlo hhi hF τ => ?_) ?_
    · rcases g with _ | ⟨a0, _ | ⟨a1, g⟩⟩
      all_goals first
        | (exfalso; simp only [List.length_cons, List.length_nil] at hlo hhi; omega)
        | (refine ⟨_, rfl, ?_⟩
           refine xo_mv rfl rfl rfl ?_
           exact xo_fin rfl)
    refine DrawE.pure 0 1 rfl (.inl rfl) (fun L g hg hd => Nat.zero_le _) (fun g hlo hhi hF τ => ?_) ?_
    · rcases g with _ | ⟨a0, _ | ⟨a1, g⟩⟩
      all_goals first
        | (exfalso; simp only [List.length_cons, List.length_nil] at hlo hhi; omega)
        | (refine ⟨_, rfl, ?_⟩
           refine xo_conv T_ rfl rfl rfl rfl (IntWalk.i64_in _ ⟨by omega, by omega⟩) rfl ?_
           exact xo_fin rfl)
    refine DrawE.pure 0 1 rfl (.inl rfl) (fun L g hg hd => Nat.zero_le _) (fun g hlo hhi hF τ => ?_) ?_
    · rcases g with _ | ⟨a0, _ | ⟨a1, g⟩⟩
      all_goals first
        | (exfalso; simp only [List.length_cons, List.length_nil] at hlo hhi; omega)
        | (refine ⟨_, rfl, ?_⟩
           refine xo_mv rfl rfl rfl ?_
           exact xo_fin rfl)
    refine DrawE.pure 0 1 rfl (.inl rfl) (fun L g hg hd => Nat.zero_le _) (fun g hlo hhi hF τ => ?_) ?_
    · rcases g with _ | ⟨a0, _ | ⟨a1, g⟩⟩
      all_goals first
        | (exfalso; simp only [List.length_cons, List.length_nil] at hlo hhi; omega)
        | (refine ⟨_, rfl, ?_⟩
           refine xo_len T_ rfl rfl rfl rfl ?_
           exact xo_fin rfl)
    refine DrawE.pure 0 1 rfl (.inl rfl) (fun L g hg hd => Nat.zero_le _) (fun g hlo hhi hF τ => ?_) ?_
    · rcases g with _ | ⟨a0, _ | ⟨a1, g⟩⟩
      all_goals first
        | (exfalso; simp only [List.length_cons, List.length_nil] at hlo hhi; omega)
        | (refine ⟨_, rfl, ?_⟩
           refine xo_rem rfl rfl rfl (by omega) (by omega) rfl ?_
           exact xo_fin rfl)
    refine DrawE.pure 1 1 rfl (.inl rfl) (fun L g hg hd => hg.2.1 2 (hd 2 (by decide))) (fun g hlo hhi hF τ => ?_) ?_
    · rcases g with _ | ⟨a0, _ | ⟨a1, g⟩⟩
      all_goals first
        | (exfalso; simp only [List.length_cons, List.length_nil] at hlo hhi; omega)
        | (refine ⟨_, rfl, ?_⟩
           refine xo_asg rfl rfl rfl ?_
           exact xo_fin rfl)
    refine DrawE.pure 1 1 rfl (.inl rfl) (fun L g hg hd => hg.2.1 8 (hd 8 (by decide))) (fun g hlo hhi hF τ => ?_) ?_
    · rcases g with _ | ⟨a0, _ | ⟨a1, g⟩⟩
      all_goals first
        | (exfalso; simp only [List.length_cons, List.length_nil] at hlo hhi; omega)
        | (refine ⟨_, rfl, ?_⟩
           refine xo_asg rfl rfl rfl ?_
           exact xo_fin rfl)
    exact DrawE.nil
  intro g hgl hF
  obtain ⟨a0, rfl⟩ : ∃ a0, g = [a0] := by
    rcases g with _ | ⟨a0, _ | ⟨a1, g⟩⟩ <;> first | exact ⟨_, rfl⟩ | (exfalso; simp only [List.length_cons, List.length_nil] at hgl; omega)
  with_reducible repeat (first | refine xq_then ?_ | refine xq_blockN ?_ | refine xq_scopeN ?_)
  with_reducible repeat refine xc_seq ?_
  refine xc_slots [(0, .slice A r.length c), (1, .slice B l.length c'), (9, .bool true), (10, .int .i64 v), (12, .int .i64 (a0.b : Int)), (13, .int .i64 (wh % (r.length : Int)))] ⟨rfl, rfl, rfl, rfl, rfl, rfl, trivial⟩ ?_
  have hd : 0 ≤ (a0.b : Int) ∧ (a0.b : Int) ≤ 100000 := ⟨by omega, by have : a0.b ≤ 100000 := hF; omega⟩
  generalize (a0.b : Int) = d at *
  generalize wh % (r.length : Int) = ki at *
  obtain ⟨kk, rfl⟩ : ∃ kk : Nat, ki = (kk : Int) := ⟨ki.toNat, by omega⟩
  have hkk : kk < r.length := by omega
  obtain ⟨ad, A2, c2, rfl, r1, _, _⟩ := rec_at hr kk hkk
  have hid : knownF r (r.getD kk zRec).f0 = true := knownF_iff.2 ⟨kk, hkk, rfl⟩
  have hidk : idAt r kk = (r.getD kk zRec).f0 := rfl
  generalize r.getD kk zRec = q at *
  obtain ⟨id, q1, q2⟩ := q
  simp only at hid r1 hidk
  subst hv
  have hv0 : 0 ≤ nextN l := by
    unfold nextN
    split
    · omega
    · have := hlm _ (getD_mem l zLet (l.length - 1) (by omega)); omega
  have ho := open_ok (r := r) (l := l) hck hd
  have hck1 := more_check1 hck hd hid hnB
  have hck2 := more_check2 hck hd hid hnB hv9 hl2
  have ho1 := open_ok hck1 hd
  have ho2 := open_ok hck2 hd
  have hless := more_less hok (l := l) (d := d) (id := id)
  have hgb : decide (id ∈ goneF r l d) = goneB l d id := by
    rw [Bool.eq_iff_iff, decide_eq_true_iff, goneF_mem hs]
    exact ⟨fun h => h.2, fun h => ⟨idsL_mem.2 ⟨kk, hkk, hidk⟩, h⟩⟩
  have htest := more_test hok hgb
  have hH0 : holdsR r l d = holdsF r (goneF r l d) := by rw [holdsR, if_pos ho]
  have hH1 : holdsR r (oneL l d id) d = holdsF r (goneF r (oneL l d id) d) := by rw [holdsR, if_pos ho1]
  have hH2 : holdsR r (twoL l d id) d = holdsF r (goneF r (twoL l d id) d) := by rw [holdsR, if_pos ho2]
  have hL0 := holdsF_len r (goneF r l d)
  have hS0 := (idsL_lt hs).sublist (holdsF_sub hs (goneF r l d))
  have hL1 := holdsF_len r (goneF r (oneL l d id) d)
  have hS1 := (idsL_lt hs).sublist (holdsF_sub hs (goneF r (oneL l d id) d))
  have hL2 := holdsF_len r (goneF r (twoL l d id) d)
  have hS2 := (idsL_lt hs).sublist (holdsF_sub hs (goneF r (twoL l d id) d))
  have hkl1 : BytesL (oneL l d id) := fun x hx => by
    rcases List.mem_append.1 hx with h | h
    · exact hkl x h
    · rw [List.mem_singleton.1 h]; exact ⟨by show (0 : Int) ≤ 1; decide, by show (1 : Int) ≤ 255; decide⟩
  have hkl2 : BytesL (twoL l d id) := fun x hx => by
    rcases List.mem_append.1 hx with h | h
    · exact hkl1 x h
    · rw [List.mem_singleton.1 h]; exact ⟨by show (0 : Int) ≤ 2; decide, by show (2 : Int) ≤ 255; decide⟩
  have hn1 : (oneL l d id).length ≤ 31 := by simp [oneL]; omega
  have hn2 : (twoL l d id).length ≤ 32 := by simp [twoL]; omega
  have h00 : (!decide ((0 : Int) = 0)) = false := rfl
  generalize hG : goneF r l d = G at *
  have e2 : oneL l d id ++ [(⟨nextN l + 1, d, id, 2⟩ : LetT)] = twoL l d id := rfl
  have e1 : l ++ [(⟨nextN l, d, id, 1⟩ : LetT)] = oneL l d id := rfl
  generalize twoL l d id = L2 at *
  generalize oneL l d id = L1 at *
  generalize holdsF r G = H0 at *
  generalize holdsF r (goneF r L1 d) = H1 at *
  generalize holdsF r (goneF r L2 d) = H2 at *
  generalize nextN l = v at *
  with_reducible repeat refine xc_seq ?_
  with_reducible refine xc_region ?_
  refine xo_mv rfl rfl rfl ?_
  refine xo_mv rfl rfl rfl ?_
  refine xo_ia T_ rfl rfl rfl rfl rfl ⟨by omega, by omega⟩ rfl ?_
  refine xo_faR T_ rfl rfl rfl rfl rfl ?_
  refine xo_loadR0 T_ rfl rfl rfl (by first | assumption | exact RO.fld (by assumption) rfl) rfl ?_
  refine xo_asg rfl rfl rfl ?_
  with_reducible refine xo_nil ?_
  with_reducible repeat (first | refine xq_then ?_ | refine xq_blockN ?_ | refine xq_scopeN ?_)
  with_reducible repeat refine xc_seq ?_
  with_reducible refine xc_region ?_
  refine xo_bs0 T_ 4 rfl rfl rfl rfl (fun b0 => ?_)
  refine xo_mv rfl rfl rfl ?_
  refine xo_cpy letV (fun _ => rfl) let_one l TR_ rfl rfl rfl rfl rfl rfl rfl rfl (fun e => C_none hl e) (fun p e w1 hw1 j u hj => by subst e; exact hw1.kx.cell (let_news hl j u hj) (fun h => h)) (by omega) rfl rfl (fun b3 cap3 => ?_)
  refine xo_mv rfl rfl rfl ?_
  refine xo_mv rfl rfl rfl ?_
  refine xo_mv rfl rfl rfl ?_
  refine xo_build TB_ rfl rfl rfl rfl rfl ?_
  refine xo_bsG T_ 4 rfl rfl rfl rfl rfl rfl rfl rfl rfl rfl (fun b86 => ?_)
  refine xo_one letV (fun _ => rfl) l ⟨v, d, id, 1⟩ rfl TR_ rfl rfl rfl rfl rfl rfl rfl rfl (by omega) rfl rfl (fun b5 cap5 => ?_)
  rw [e1]
  refine xo_asg rfl rfl rfl ?_
  with_reducible refine xo_nil ?_
  with_reducible repeat (first | refine xq_then ?_ | refine xq_blockN ?_ | refine xq_scopeN ?_)
  with_reducible repeat refine xc_seq ?_
  with_reducible refine xc_region ?_
  refine xo_bs0 T_ 4 rfl rfl rfl rfl (fun b6 => ?_)
  refine xo_mv rfl rfl rfl ?_
  refine xo_cpy letV (fun _ => rfl) let_one L1 TR_ rfl rfl rfl rfl rfl rfl rfl rfl (fun e => by cases e) (fun p e w1 hw1 j u hj => by cases e; exact let_news (let_read hw1 (by repeat (first | exact List.Mem.head _ | exact List.mem_append_left _ (List.Mem.head _) | apply List.mem_append_right | apply List.Mem.tail)) (by omega)) j u hj) (by omega) rfl rfl (fun b8 cap8 => ?_)
  refine xo_mv rfl rfl rfl ?_
  refine xo_add rfl rfl rfl (by omega) rfl ?_
  refine xo_mv rfl rfl rfl ?_
  refine xo_mv rfl rfl rfl ?_
  refine xo_build TB_ rfl rfl rfl rfl rfl ?_
  refine xo_bsG T_ 4 rfl rfl rfl rfl rfl rfl rfl rfl rfl rfl (fun b96 => ?_)
  refine xo_one letV (fun _ => rfl) L1 ⟨v + 1, d, id, 2⟩ rfl TR_ rfl rfl rfl rfl rfl rfl rfl rfl (by omega) rfl rfl (fun b9 cap9 => ?_)
  rw [e2]
  refine xo_asg rfl rfl rfl ?_
  with_reducible refine xo_nil ?_
  with_reducible repeat (first | refine xq_then ?_ | refine xq_blockN ?_ | refine xq_scopeN ?_)
  with_reducible repeat refine xc_seq ?_
  with_reducible refine xc_region ?_
  refine xo_mv rfl rfl rfl ?_
  refine xo_mv rfl rfl rfl ?_
  refine xo_mv rfl rfl rfl ?_
  refine xo_call (fs := []) (cs := []) rfl rfl rfl trustHolds_enters rfl (fun w1 hw1 => (trustHolds_calls (some ad) B c c' r l d w1 (Kd.C_below hr hw1.kx.below) (Kd.C_below hl hw1.kx.below) hk hkl).mono ?_)
  rw [hH0, ho]
  rintro e w2 ⟨r5, rfl, hrow, hb⟩
  have h05 := hrow.1
  refine ⟨_, _, rfl, hw1.row hb hrow, ?_⟩
  clear hrow hb hw1
  refine xo_mv rfl rfl rfl ?_
  refine xo_ext rfl rfl rfl rfl ?_
  refine xo_ext rfl rfl rfl rfl ?_
  refine xo_asg rfl rfl rfl ?_
  refine xo_asg rfl rfl rfl ?_
  with_reducible refine xo_nil ?_
  with_reducible repeat (first | refine xq_then ?_ | refine xq_blockN ?_ | refine xq_scopeN ?_)
  with_reducible repeat refine xc_seq ?_
  with_reducible refine xc_region ?_
  refine xo_mv rfl rfl rfl ?_
  refine xo_mv rfl rfl rfl ?_
  refine xo_mv rfl rfl rfl ?_
  refine xo_call (fs := []) (cs := []) rfl rfl rfl trustHolds_enters rfl (fun w1 hw1 => ?_)
  have h2 := trustHolds_calls (some ad) (some ⟨b5, 0, none⟩) c cap5 r L1 d w1 (Kd.C_below hr hw1.kx.below) (let_read hw1 (by repeat (first | exact List.Mem.head _ | exact List.mem_append_left _ (List.Mem.head _) | apply List.mem_append_right | apply List.Mem.tail)) (by omega)) hk hkl1
  rw [hH1, ho1] at h2
  refine h2.mono ?_
  clear h2
  rintro e w2 ⟨r6, rfl, hrow, hb⟩
  have h06 := hrow.1
  refine ⟨_, _, rfl, hw1.row hb hrow, ?_⟩
  clear hrow hb hw1
  refine xo_mv rfl rfl rfl ?_
  refine xo_ext rfl rfl rfl rfl ?_
  refine xo_ext rfl rfl rfl rfl ?_
  refine xo_asg rfl rfl rfl ?_
  refine xo_asg rfl rfl rfl ?_
  with_reducible refine xo_nil ?_
  with_reducible repeat (first | refine xq_then ?_ | refine xq_blockN ?_ | refine xq_scopeN ?_)
  with_reducible repeat refine xc_seq ?_
  with_reducible refine xc_region ?_
  refine xo_mv rfl rfl rfl ?_
  refine xo_mv rfl rfl rfl ?_
  refine xo_mv rfl rfl rfl ?_
  refine xo_call (fs := []) (cs := []) rfl rfl rfl trustHolds_enters rfl (fun w1 hw1 => ?_)
  have h2 := trustHolds_calls (some ad) (some ⟨b9, 0, none⟩) c cap9 r L2 d w1 (Kd.C_below hr hw1.kx.below) (let_read hw1 (by repeat (first | exact List.Mem.head _ | exact List.mem_append_left _ (List.Mem.head _) | apply List.mem_append_right | apply List.Mem.tail)) (by omega)) hk hkl2
  rw [hH2, ho2] at h2
  refine h2.mono ?_
  clear h2
  rintro e w2 ⟨r7, rfl, hrow, hb⟩
  have h07 := hrow.1
  refine ⟨_, _, rfl, hw1.row hb hrow, ?_⟩
  clear hrow hb hw1
  refine xo_mv rfl rfl rfl ?_
  refine xo_ext rfl rfl rfl rfl ?_
  refine xo_ext rfl rfl rfl rfl ?_
  refine xo_asg rfl rfl rfl ?_
  refine xo_asg rfl rfl rfl ?_
  with_reducible refine xo_nil ?_
  with_reducible repeat (first | refine xq_then ?_ | refine xq_blockN ?_ | refine xq_scopeN ?_)
  with_reducible repeat refine xc_seq ?_
  with_reducible refine xc_region ?_
  refine xo_mv rfl rfl rfl ?_
  refine xo_call (fs := []) (cs := []) rfl rfl rfl set_enters rfl (fun w1 hw1 => (setR_calls hw1 (by omega) (hw1.rowAt h05 (fun p hp => by subst hp; exact (by repeat (first | exact List.Mem.head _ | exact List.mem_append_left _ (List.Mem.head _) | apply List.mem_append_right | apply List.Mem.tail)))) hS0).mono ?_)
  rintro e w2 ⟨M0, rfl, hz⟩
  refine ⟨_, _, rfl, hw1.join hz (by simp), ?_⟩
  clear hz hw1
  refine xo_mv rfl rfl rfl ?_
  refine xo_ext rfl rfl rfl rfl ?_
  refine xo_ext rfl rfl rfl rfl ?_
  refine xo_asg rfl rfl rfl ?_
  refine xo_asg rfl rfl rfl ?_
  with_reducible refine xo_nil ?_
  with_reducible repeat (first | refine xq_then ?_ | refine xq_blockN ?_ | refine xq_scopeN ?_)
  with_reducible repeat refine xc_seq ?_
  with_reducible refine xc_region ?_
  refine xo_mv rfl rfl rfl ?_
  refine xo_call (fs := []) (cs := []) rfl rfl rfl set_enters rfl (fun w1 hw1 => (setR_calls hw1 (by omega) (hw1.rowAt h06 (fun p hp => by subst hp; exact (by repeat (first | exact List.Mem.head _ | exact List.mem_append_left _ (List.Mem.head _) | apply List.mem_append_right | apply List.Mem.tail)))) hS1).mono ?_)
  rintro e w2 ⟨M1, rfl, hz⟩
  refine ⟨_, _, rfl, hw1.join hz (by simp), ?_⟩
  clear hz hw1
  refine xo_mv rfl rfl rfl ?_
  refine xo_ext rfl rfl rfl rfl ?_
  refine xo_ext rfl rfl rfl rfl ?_
  refine xo_asg rfl rfl rfl ?_
  refine xo_asg rfl rfl rfl ?_
  with_reducible refine xo_nil ?_
  with_reducible repeat (first | refine xq_then ?_ | refine xq_blockN ?_ | refine xq_scopeN ?_)
  with_reducible repeat refine xc_seq ?_
  with_reducible refine xc_region ?_
  refine xo_mv rfl rfl rfl ?_
  refine xo_call (fs := []) (cs := []) rfl rfl rfl set_enters rfl (fun w1 hw1 => (setR_calls hw1 (by omega) (hw1.rowAt h07 (fun p hp => by subst hp; exact (by repeat (first | exact List.Mem.head _ | exact List.mem_append_left _ (List.Mem.head _) | apply List.mem_append_right | apply List.Mem.tail)))) hS2).mono ?_)
  rintro e w2 ⟨M2, rfl, hz⟩
  refine ⟨_, _, rfl, hw1.join hz (by simp), ?_⟩
  clear hz hw1
  refine xo_mv rfl rfl rfl ?_
  refine xo_ext rfl rfl rfl rfl ?_
  refine xo_ext rfl rfl rfl rfl ?_
  refine xo_asg rfl rfl rfl ?_
  refine xo_asg rfl rfl rfl ?_
  with_reducible refine xo_nil ?_
  with_reducible repeat (first | refine xq_then ?_ | refine xq_blockN ?_ | refine xq_scopeN ?_)
  with_reducible repeat refine xc_seq ?_
  with_reducible refine xc_region ?_
  refine xo_mv rfl rfl rfl ?_
  refine xo_neq rfl rfl rfl rfl ?_
  refine xo_as (i := 135) rfl (congrArg Value.bool h00) ?_
  refine xo_mv rfl rfl rfl ?_
  first
    | refine xo_not rfl rfl ?_
    | (refine xo_mv rfl rfl rfl ?_)
  first
    | refine xo_not rfl rfl ?_
    | (refine xo_neq rfl rfl rfl rfl ?_)
  refine xo_as (i := 138) rfl (congrArg Value.bool h00) ?_
  first | refine xo_pickT rfl rfl rfl rfl ?_ | refine xo_pickF rfl rfl rfl rfl ?_
  refine xo_mv rfl rfl rfl ?_
  first
    | refine xo_not rfl rfl ?_
    | (refine xo_mv rfl rfl rfl ?_)
  first
    | refine xo_not rfl rfl ?_
    | (refine xo_neq rfl rfl rfl rfl ?_)
  refine xo_as (i := 142) rfl (congrArg Value.bool h00) ?_
  first | refine xo_pickT rfl rfl rfl rfl ?_ | refine xo_pickF rfl rfl rfl rfl ?_
  refine xo_mv rfl rfl rfl ?_
  first
    | refine xo_not rfl rfl ?_
    | (refine xo_mv rfl rfl rfl ?_)
  first
    | refine xo_not rfl rfl ?_
    | (refine xo_notOp rfl rfl rfl ?_)
  first | refine xo_pickT rfl rfl rfl rfl ?_ | refine xo_pickF rfl rfl rfl rfl ?_
  refine xo_mv rfl rfl rfl ?_
  first
    | refine xo_not rfl rfl ?_
    | (refine xo_mv rfl rfl rfl ?_)
  first
    | refine xo_not rfl rfl ?_
    | (refine xo_notOp rfl rfl rfl ?_)
  first | refine xo_pickT rfl rfl rfl rfl ?_ | refine xo_pickF rfl rfl rfl rfl ?_
  refine xo_mv rfl rfl rfl ?_
  first
    | refine xo_not rfl rfl ?_
    | (refine xo_mv rfl rfl rfl ?_)
  first
    | refine xo_not rfl rfl ?_
    | (refine xo_notOp rfl rfl rfl ?_)
  first | refine xo_pickT rfl rfl rfl rfl ?_ | refine xo_pickF rfl rfl rfl rfl ?_
  refine xo_mv rfl rfl rfl ?_
  first
    | refine xo_not rfl rfl ?_
    | (refine xo_mv rfl rfl rfl ?_)
  first
    | refine xo_not rfl rfl ?_
    | (refine xo_mv rfl rfl rfl ?_)
  first
    | refine xo_not rfl rfl ?_
    | (refine xo_sget T_ rfl rfl rfl rfl rfl rfl (by repeat (first | exact List.Mem.head _ | exact List.mem_append_left _ (List.Mem.head _) | apply List.mem_append_right | apply List.Mem.tail)) rfl ?_)
  refine xo_as (i := 159) rfl (congrArg Value.bool hless) ?_
  first | refine xo_pickT rfl rfl rfl rfl ?_ | refine xo_pickF rfl rfl rfl rfl ?_
  with_reducible refine xo_nil ?_
  with_reducible repeat (first | refine xq_then ?_ | refine xq_blockN ?_ | refine xq_scopeN ?_)
  with_reducible repeat refine xc_seq ?_
  refine xc_condF rfl ?_
  with_reducible refine xc_skip ?_
  with_reducible repeat (first | refine xq_then ?_ | refine xq_blockN ?_ | refine xq_scopeN ?_)
  with_reducible repeat refine xc_seq ?_
  with_reducible refine xc_region ?_
  refine xo_mv rfl rfl rfl ?_
  refine xo_mv rfl rfl rfl ?_
  refine xo_mv rfl rfl rfl ?_
  refine xo_call (fs := []) (cs := []) rfl rfl rfl gone_enters rfl (fun w1 hw1 => (gone_calls (some ad) B c c' r l d w1 (Kd.C_below hr hw1.kx.below) (Kd.C_below hl hw1.kx.below) (by omega) hkl).mono ?_)
  rintro e w2 ⟨bg, og, rfl, hb, hge, h1, h2⟩
  rw [goneBs_in, hG] at h2
  refine ⟨_, _, rfl, hw1.more hb hge h1 h2, ?_⟩
  clear hb hge h1 h2 hw1
  refine xo_mv rfl rfl rfl ?_
  refine xo_ia T_ rfl rfl rfl rfl rfl ⟨by omega, by omega⟩ rfl ?_
  refine xo_loadI T_ rfl rfl rfl (by repeat (first | exact List.Mem.head _ | apply List.Mem.tail | apply List.mem_append_right)) (by rw [in_load hkk, hidk]) rfl ?_
  refine xo_asg rfl rfl rfl ?_
  with_reducible refine xo_nil ?_
  with_reducible repeat (first | refine xq_then ?_ | refine xq_blockN ?_ | refine xq_scopeN ?_)
  generalize decide (id ∈ G) = gb at *
  with_reducible repeat refine xc_seq ?_
  with_reducible refine xc_region ?_
  refine xo_mv rfl rfl rfl ?_
  refine xo_len T_ rfl rfl rfl rfl ?_
  refine xo_mv rfl rfl rfl ?_
  with_reducible refine xo_nil ?_
  with_reducible repeat (first | refine xq_then ?_ | refine xq_blockN ?_ | refine xq_scopeN ?_)
  with_reducible repeat refine xc_seq ?_
  with_reducible refine xc_block ?_
  refine xc_loop (γ := Nat) (fun k => k ≤ r.length) (fun k => [(0, .slice (some ad) r.length c), (9, .bool true), (23, .map (some M0)), (25, .map (some M1)), (27, .map (some M2)), (29, .bool gb), (168, .slice (some ad) r.length c), (169, .int .i64 (r.length : Int)), (170, .int .i64 (k : Int))]) (fun _ => [(M2, true, hmap (setV H2)), (M1, true, hmap (setV H1)), (M0, true, hmap (setV H0))]) (fun k => r.length - k) 0 (Nat.zero_le _) ⟨rfl, rfl, rfl, rfl, rfl, rfl, rfl, rfl, rfl, trivial⟩ (by repeat (first | exact List.Sublist.refl _ | apply List.Sublist.cons_cons | apply List.Sublist.cons | exact List.nil_sublist _)) ?_
  intro k hk1
  with_reducible repeat refine xc_seq ?_
  with_reducible refine xc_region ?_
  refine xo_lss rfl rfl rfl rfl ?_
  with_reducible refine xo_nil ?_
  with_reducible repeat (first | refine xq_then ?_ | refine xq_blockN ?_ | refine xq_scopeN ?_)
  with_reducible repeat refine xc_seq ?_
  refine xc_cond rfl (fun h => ?_) (fun h => ?_)
  · have hlt : k < r.length := by have := of_decide_eq_true h; omega
    obtain ⟨ad0, A3, c3, e0, r2, hc3, hw3⟩ := rec_at hr k hlt
    cases e0
    have hf := htest (r.getD k zRec).f0
    clear htest r1
    generalize r.getD k zRec = x at *
    with_reducible refine xc_skip ?_
    with_reducible repeat (first | refine xq_then ?_ | refine xq_blockN ?_ | refine xq_scopeN ?_)
    with_reducible repeat refine xc_seq ?_
    with_reducible refine xc_block ?_
    with_reducible repeat refine xc_seq ?_
    with_reducible refine xc_region ?_
    refine xo_ia T_ rfl rfl rfl rfl rfl ⟨by omega, by omega⟩ rfl ?_
    refine xo_loadRN T_ rfl rfl rfl (by assumption) rfl rfl ?_
    refine xo_alloc T_ rfl rfl rfl rfl (fun b31 => ?_)
    refine xo_store T_ rfl rfl rfl rfl (by repeat (first | exact List.Mem.head _ | apply List.Mem.tail | apply List.mem_append_right)) rfl rfl rfl rfl (by repeat (first | exact Upd.head | apply Upd.tail | apply Upd.app)) rfl ?_
    with_reducible refine xo_nil ?_
    with_reducible repeat (first | refine xq_then ?_ | refine xq_blockN ?_ | refine xq_scopeN ?_)
    cases hx1 : decide (x.f0 ∈ H1) <;> cases hx0 : decide (x.f0 ∈ H0) <;> cases hx2 : decide (x.f0 ∈ H2) <;> cases gb <;> rw [hx1, hx0, hx2] at hf
    all_goals first | cases hf; done | skip
    all_goals
      with_reducible repeat refine xc_seq ?_
      with_reducible refine xc_region ?_
      refine xo_mv rfl rfl rfl ?_
      refine xo_fa T_ rfl rfl rfl rfl rfl ?_
      refine xo_load0 T_ rfl rfl rfl (by repeat (first | exact List.Mem.head _ | apply List.Mem.tail | apply List.mem_append_right)) rfl rfl ?_
      refine xo_sget T_ rfl rfl rfl rfl rfl rfl (by repeat (first | exact List.Mem.head _ | apply List.Mem.tail | apply List.mem_append_right)) rfl ?_
      refine xo_as (i := 177) rfl (congrArg Value.bool hx1) ?_
      refine xo_mv rfl rfl rfl ?_
      first
        | refine xo_not rfl rfl ?_
        | (refine xo_mv rfl rfl rfl ?_)
      first
        | refine xo_not rfl rfl ?_
        | (refine xo_fa T_ rfl rfl rfl rfl rfl ?_)
      first
        | refine xo_not rfl rfl ?_
        | (refine xo_load0 T_ rfl rfl rfl (by repeat (first | exact List.Mem.head _ | apply List.Mem.tail | apply List.mem_append_right)) rfl rfl ?_)
      first
        | refine xo_not rfl rfl ?_
        | (refine xo_sget T_ rfl rfl rfl rfl rfl rfl (by repeat (first | exact List.Mem.head _ | apply List.Mem.tail | apply List.mem_append_right)) rfl ?_)
      first | refine xo_as (i := 182) rfl (congrArg Value.bool hx0) ?_ | skip
      first
        | refine xo_not rfl rfl ?_
        | (refine xo_notOp rfl rfl rfl ?_)
      first | refine xo_pickT rfl rfl rfl rfl ?_ | refine xo_pickF rfl rfl rfl rfl ?_
      refine xo_mv rfl rfl rfl ?_
      first
        | refine xo_not rfl rfl ?_
        | (refine xo_mv rfl rfl rfl ?_)
      first
        | refine xo_not rfl rfl ?_
        | (refine xo_fa T_ rfl rfl rfl rfl rfl ?_)
      first
        | refine xo_not rfl rfl ?_
        | (refine xo_load0 T_ rfl rfl rfl (by repeat (first | exact List.Mem.head _ | apply List.Mem.tail | apply List.mem_append_right)) rfl rfl ?_)
      first
        | refine xo_not rfl rfl ?_
        | (refine xo_sget T_ rfl rfl rfl rfl rfl rfl (by repeat (first | exact List.Mem.head _ | apply List.Mem.tail | apply List.mem_append_right)) rfl ?_)
      first | refine xo_as (i := 189) rfl (congrArg Value.bool hx0) ?_ | skip
      first
        | refine xo_not rfl rfl ?_
        | (refine xo_mv rfl rfl rfl ?_)
      first
        | refine xo_not rfl rfl ?_
        | (refine xo_mv rfl rfl rfl ?_)
      first
        | refine xo_not rfl rfl ?_
        | (refine xo_fa T_ rfl rfl rfl rfl rfl ?_)
      first
        | refine xo_not rfl rfl ?_
        | (refine xo_load0 T_ rfl rfl rfl (by repeat (first | exact List.Mem.head _ | apply List.Mem.tail | apply List.mem_append_right)) rfl rfl ?_)
      first
        | refine xo_not rfl rfl ?_
        | (refine xo_sget T_ rfl rfl rfl rfl rfl rfl (by repeat (first | exact List.Mem.head _ | apply List.Mem.tail | apply List.mem_append_right)) rfl ?_)
      first | refine xo_as (i := 194) rfl (congrArg Value.bool hx2) ?_ | skip
      first
        | refine xo_not rfl rfl ?_
        | (refine xo_notOp rfl rfl rfl ?_)
      first
        | refine xo_not rfl rfl ?_
        | (first | refine xo_pickT rfl rfl rfl rfl ?_ | refine xo_pickF rfl rfl rfl rfl ?_)
      first | refine xo_pickT rfl rfl rfl rfl ?_ | refine xo_pickF rfl rfl rfl rfl ?_
      refine xo_mv rfl rfl rfl ?_
      first
        | refine xo_not rfl rfl ?_
        | (refine xo_mv rfl rfl rfl ?_)
      first
        | refine xo_not rfl rfl ?_
        | (refine xo_notOp rfl rfl rfl ?_)
      first
        | refine xo_not rfl rfl ?_
        | (refine xo_mv rfl rfl rfl ?_)
      first
        | refine xo_not rfl rfl ?_
        | (refine xo_mv rfl rfl rfl ?_)
      first
        | refine xo_not rfl rfl ?_
        | (refine xo_fa T_ rfl rfl rfl rfl rfl ?_)
      first
        | refine xo_not rfl rfl ?_
        | (refine xo_load0 T_ rfl rfl rfl (by repeat (first | exact List.Mem.head _ | apply List.Mem.tail | apply List.mem_append_right)) rfl rfl ?_)
      first
        | refine xo_not rfl rfl ?_
        | (refine xo_sget T_ rfl rfl rfl rfl rfl rfl (by repeat (first | exact List.Mem.head _ | apply List.Mem.tail | apply List.mem_append_right)) rfl ?_)
      first | refine xo_as (i := 205) rfl (congrArg Value.bool hx0) ?_ | skip
      first
        | refine xo_not rfl rfl ?_
        | (refine xo_mv rfl rfl rfl ?_)
      first
        | refine xo_not rfl rfl ?_
        | (refine xo_fa T_ rfl rfl rfl rfl rfl ?_)
      first
        | refine xo_not rfl rfl ?_
        | (refine xo_load0 T_ rfl rfl rfl (by repeat (first | exact List.Mem.head _ | apply List.Mem.tail | apply List.mem_append_right)) rfl rfl ?_)
      first
        | refine xo_not rfl rfl ?_
        | (refine xo_sget T_ rfl rfl rfl rfl rfl rfl (by repeat (first | exact List.Mem.head _ | apply List.Mem.tail | apply List.mem_append_right)) rfl ?_)
      first | refine xo_as (i := 209) rfl (congrArg Value.bool hx2) ?_ | skip
      first
        | refine xo_not rfl rfl ?_
        | (refine xo_neqB Tryd.underlying4 rfl rfl rfl rfl ?_)
      first
        | refine xo_not rfl rfl ?_
        | (first | refine xo_pickT rfl rfl rfl rfl ?_ | refine xo_pickF rfl rfl rfl rfl ?_)
      first | refine xo_pickT rfl rfl rfl rfl ?_ | refine xo_pickF rfl rfl rfl rfl ?_
      with_reducible refine xo_nil ?_
      with_reducible repeat (first | refine xq_then ?_ | refine xq_blockN ?_ | refine xq_scopeN ?_)
      with_reducible repeat refine xc_seq ?_
      refine xc_condF rfl ?_
      with_reducible refine xc_skip ?_
      with_reducible repeat (first | refine xq_then ?_ | refine xq_blockN ?_ | refine xq_scopeN ?_)
      with_reducible repeat refine xc_seq ?_
      with_reducible refine xc_region ?_
      refine xo_add rfl rfl rfl (by omega) rfl ?_
      refine xo_mv rfl rfl rfl ?_
      with_reducible refine xo_nil ?_
      with_reducible repeat (first | refine xq_then ?_ | refine xq_blockN ?_ | refine xq_scopeN ?_)
      exact xq_again _ _ _ _ _ (k + 1) hlt (by omega) ⟨rfl, rfl, rfl, rfl, rfl, rfl, rfl, rfl, rfl, trivial⟩ (by repeat (first | exact List.Sublist.refl _ | apply List.Sublist.cons_cons | apply List.Sublist.cons | exact List.nil_sublist _))
  · with_reducible refine xc_exit ?_
    with_reducible repeat (first | refine xq_blockX ?_ | refine xq_thenE ?_ | refine xq_blockE rfl ?_ | refine xq_scopeE ?_)
    with_reducible repeat (first | refine xq_then ?_ | refine xq_blockN ?_ | refine xq_scopeN ?_)
    with_reducible repeat refine xc_seq ?_
    with_reducible refine xc_region ?_
    refine xo_mv rfl rfl rfl ?_
    refine xo_asg rfl rfl rfl ?_
    with_reducible refine xo_nil ?_
    with_reducible repeat (first | refine xq_then ?_ | refine xq_blockN ?_ | refine xq_scopeN ?_)
    with_reducible repeat refine xc_seq ?_
    with_reducible refine xc_ret ?_
    with_reducible repeat (first | refine xq_thenR ?_ | refine xq_blockR ?_ | refine xq_scopeR ?_)
    exact xq_ret1 rfl rfl fun w' hw => ⟨rfl, hw.kx.below⟩
end Go.Proofs.YtcmepdamemnbkaaDoor
