/- What came in, read as data, is read as the printed words read it: whole numbers, bools, strings, slices, structs, by their types. -/
import Derived.Test.YtcmepdamemnbkaaWWords
import Derived.ProofKit
import Derived.WalkKit
import Derived.ChangeOld
import Derived.Deep.Slices
import Derived.DataReads
namespace Go.Proofs.Ytcmepdamemnbkaa
open Go.RowKit Go.ChangeShapes Go.WideShapes Go.ChangeAt Go.Proofs.YtcmepdamemnbkaaW.PrintWords
set_option linter.unusedVariables false
set_option linter.unusedSimpArgs false

/-- Cells that read as a datum of type t are a value of the kind d, of which G is so. -/
def Opens (P : Program) (t : TypeId) {α : Type} (d : Kd α) (G : α → Prop) : Prop :=
  P.cellsOf t = d.sz ∧ ∀ (H : Type) (enc : TypeId × Value → H) (w : World) (fuel : Nat) (cs : List Value) (D : DataW H) (ps : List MemPlace),
    DataW.trod enc P w 0 (fun _ => true) true fuel t cs = some (D, ps) → ∃ x : α, d.K w x cs ∧ G x
def OpensF (P : Program) (fs : List Field) (off : Nat) {α : Type} (d : Kd α) (G : α → Prop) : Prop :=
  ∀ (H : Type) (enc : TypeId × Value → H) (w : World) (fuel : Nat) (cs : List Value) (xs : List (DataW H × List MemPlace)), cs.length = off + d.sz →
    (fs.mapM fun f => DataW.trod enc P w 0 (fun _ => true) true fuel f.type ((cs.drop f.offset).take (P.cellsOf f.type))) = some xs → ∃ x : α, d.K w x (cs.drop off) ∧ G x

theorem opens_int {P : Program} {t : TypeId} {k : IntKind} (hu : P.underlying t = some (.int k)) (hc : P.cellsOf t = 1) : Opens P t (Kd.int k) (fun n => (Lit.int k n).wf = true) := by
  refine ⟨hc, ?_⟩
  intro H enc w fuel cs D ps h
  cases fuel with
  | zero => simp [DataW.trod] at h
  | succ fuel =>
    unfold DataW.trod at h
    rw [hu] at h
    split at h <;> simp_all
    all_goals
      obtain ⟨⟨rfl, hw⟩, _⟩ := h
      rename_i n _ _
      exact ⟨_, rfl, hw⟩
theorem opens_bool {P : Program} {t : TypeId} (hu : P.underlying t = some .bool) (hc : P.cellsOf t = 1) : Opens P t Kd.bool (fun _ => True) := by
  refine ⟨hc, ?_⟩
  intro H enc w fuel cs D ps h
  cases fuel with
  | zero => simp [DataW.trod] at h
  | succ fuel =>
    unfold DataW.trod at h
    rw [hu] at h
    split at h <;> simp_all
    all_goals
      rename_i b
      cases b
      · exact .inl rfl
      · exact .inr rfl
theorem opens_string {P : Program} {t : TypeId} (hu : P.underlying t = some .string) (hc : P.cellsOf t = 1) : Opens P t Kd.string (fun s => s.size ≤ maxLen) := by
  refine ⟨hc, ?_⟩
  intro H enc w fuel cs D ps h
  cases fuel with
  | zero => simp [DataW.trod] at h
  | succ fuel =>
    unfold DataW.trod at h
    rw [hu] at h
    split at h <;> simp_all
    all_goals exact ⟨_, rfl, h.1⟩
theorem add_add (a : Addr) (m n : Nat) : (a.add m).add n = a.add (m + n) := by
  unfold Addr.add
  by_cases h1 : m = 0 <;> by_cases h2 : n = 0 <;> simp [h1, h2]
  omega
/-- a list, built place by place -/
theorem choose_list {α : Type} {Q : Nat → α → Prop} (n : Nat) (h : ∀ i, i < n → ∃ x, Q i x) : ∃ xs : List α, xs.length = n ∧ ∀ j p, xs[j]? = some p → Q j p := by
  induction n with
  | zero => exact ⟨[], rfl, fun j p hj => by simp at hj⟩
  | succ n ih =>
    obtain ⟨xs, hl, hx⟩ := ih (fun i hi => h i (by omega))
    obtain ⟨x, hq⟩ := h n (by omega)
    refine ⟨xs ++ [x], by simp [hl], fun j p hj => ?_⟩
    by_cases e : j < xs.length
    · rw [List.getElem?_append_left e] at hj
      exact hx j p hj
    · have hj' : j = n := by
        have := (List.getElem?_eq_some_iff.1 hj).1
        simp at this
        omega
      subst hj'
      rw [List.getElem?_append_right (by omega), hl] at hj
      simp at hj
      exact hj ▸ hq
theorem opens_slice {P : Program} {t e : TypeId} {α : Type} {d : Kd α} {G : α → Prop} (q : Nat) (hu : P.underlying t = some (.slice e)) (hc : P.cellsOf t = 1) (he : Opens P e d G) :
    Opens P t (Kd.slice q d) (fun xs => xs.length ≤ maxLen ∧ ∀ x ∈ xs, G x) := by
  refine ⟨hc, ?_⟩
  intro H enc w fuel cs D ps h
  rcases Go.Deep.open_slice hu h with ⟨rfl, _⟩ | ⟨a, len, cap, m, n, D, Pl, rfl, hb, hl, hm, hmm, hx, hel⟩
  · exact ⟨[], ⟨none, 0, rfl, Nat.le_refl _, rfl, by simp, fun hp => absurd hp (by simp)⟩, by simp, fun x hx => by simp at hx⟩
  · have hlm : len ≤ m := by simp at hmm; omega
    obtain ⟨xs, hxl, hxs⟩ := choose_list (Q := fun j x => G x ∧ ∃ c, c.length = d.sz ∧ d.K w x c ∧ ∀ i u, c[i]? = some u → w.cell? (a.add (j * d.sz + i)) = some u) len (fun j hj => by
      obtain ⟨cs', hcs, htr⟩ := hel j (by omega)
      obtain ⟨x, hK, hG⟩ := he.2 H enc w n cs' _ _ htr
      obtain ⟨h1, h2, h3⟩ := World.cells?_some hcs
      refine ⟨x, hG, cs', by rw [h2, he.1], hK, fun i u hi => ?_⟩
      have hi' : i < P.cellsOf e := by rw [← h2]; exact (List.getElem?_eq_some_iff.1 hi).1
      have := h3 i hi'
      rw [hi, Go.Proofs.Ytcmepdamemnbkaa.add_add, he.1] at this
      exact this)
    refine ⟨xs, ⟨some a, cap, by rw [hxl], by omega, rfl, by rw [hxl]; unfold maxLen at hm; omega, fun _ => ⟨a, rfl, fun j p hj => ?_⟩⟩, by omega, fun x hx => ?_⟩
    · obtain ⟨_, c, h1, h2, h3⟩ := hxs j p hj
      exact ⟨c, h1, h2, h3⟩
    · obtain ⟨j, hj⟩ := List.getElem?_of_mem hx
      exact (hxs j x hj).1
theorem opens_iso {P : Program} {t : TypeId} {α β : Type} {d : Kd α} {G : α → Prop} (h : Opens P t d G) (f : β → α) (g : α → β) (hfg : ∀ x, f (g x) = x) : Opens P t (Kd.iso d f) (fun y => G (f y)) := by
  refine ⟨h.1, ?_⟩
  intro H enc w fuel cs D ps hh
  obtain ⟨x, hK, hG⟩ := h.2 H enc w fuel cs D ps hh
  exact ⟨g x, show d.K w (f (g x)) cs by rw [hfg]; exact hK, show G (f (g x)) by rw [hfg]; exact hG⟩
theorem opensF_one {P : Program} {f : Field} {off : Nat} {α : Type} {d : Kd α} {G : α → Prop} (ho : f.offset = off) (h : Opens P f.type d G) : OpensF P [f] off d G := by
  intro H enc w fuel cs xs hl hm
  simp only [List.mapM_cons, List.mapM_nil] at hm
  cases hx : DataW.trod enc P w 0 (fun _ => true) true fuel f.type ((cs.drop f.offset).take (P.cellsOf f.type)) with
  | none => simp [hx] at hm
  | some y =>
    obtain ⟨x, hK, hG⟩ := h.2 H enc w fuel _ _ _ hx
    rw [ho, h.1, List.take_of_length_le (by simp; omega)] at hK
    exact ⟨x, hK, hG⟩
theorem opensF_cons {P : Program} {f : Field} {fs : List Field} {off : Nat} {α β : Type} {a : Kd α} {b : Kd β} {Ga : α → Prop} {Gb : β → Prop} (ho : f.offset = off) (h : Opens P f.type a Ga) (hr : OpensF P fs (off + a.sz) b Gb) :
    OpensF P (f :: fs) off (Kd.pair a b) (fun x => Ga x.1 ∧ Gb x.2) := by
  intro H enc w fuel cs xs hl hm
  have hl' : cs.length = off + (a.sz + b.sz) := hl
  simp only [List.mapM_cons] at hm
  cases hx : DataW.trod enc P w 0 (fun _ => true) true fuel f.type ((cs.drop f.offset).take (P.cellsOf f.type)) with
  | none => simp [hx] at hm
  | some y =>
    cases hy : fs.mapM fun f => DataW.trod enc P w 0 (fun _ => true) true fuel f.type ((cs.drop f.offset).take (P.cellsOf f.type)) with
    | none => simp [hx, hy] at hm
    | some ys =>
      obtain ⟨x, hK, hG⟩ := h.2 H enc w fuel _ _ _ hx
      obtain ⟨x', hK', hG'⟩ := hr H enc w fuel cs ys (by omega) hy
      rw [ho, h.1] at hK
      refine ⟨(x, x'), ⟨(cs.drop off).take a.sz, cs.drop (off + a.sz), ?_, hK, hK'⟩, hG, hG'⟩
      rw [← List.drop_drop, List.take_append_drop]
theorem opens_struct {P : Program} {t : TypeId} {fl : List Field} {α : Type} {d : Kd α} {G : α → Prop} (hu : P.underlying t = some (.struct fl.toArray)) (hc : P.cellsOf t = d.sz) (h : OpensF P fl 0 d G) : Opens P t d G := by
  generalize hfs : fl.toArray = fs at hu
  obtain rfl : fl = fs.toList := by rw [← hfs]
  clear hfs
  refine ⟨hc, ?_⟩
  intro H enc w fuel cs D ps hh
  cases fuel with
  | zero => simp [DataW.trod] at hh
  | succ fuel =>
    unfold DataW.trod at hh
    rw [hu] at hh
    have hh' : (if cs.length = P.cellsOf t then (fs.toList.mapM fun f => DataW.trod enc P w 0 (fun _ => true) true fuel f.type ((cs.drop f.offset).take (P.cellsOf f.type))).map fun xs => (DataW.agg (xs.map (·.1)), xs.flatMap (·.2)) else none) = some (D, ps) := by
      split at hh <;> simp_all
    split at hh'
    · rename_i hl
      cases hy : fs.toList.mapM fun f => DataW.trod enc P w 0 (fun _ => true) true fuel f.type ((cs.drop f.offset).take (P.cellsOf f.type)) with
      | none => simp [hy] at hh'
      | some ys =>
        obtain ⟨x, hK, hG⟩ := h H enc w fuel cs ys (by rw [hl, hc]; omega) hy
        exact ⟨x, by simpa using hK, hG⟩
    · simp at hh'
end Go.Proofs.Ytcmepdamemnbkaa
