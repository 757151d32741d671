/- Maps keyed by int that a call has made: a list of entries as it reads, in the order in which they came; what a look-up, a store, a delete, a range do. No program in sight. -/
import Derived.WalkKit
import Derived.WalkSpells
import Derived.WalkLawsBesides
import Derived.Maps.RangeRun
import Derived.RangeFuncRecord
import Derived.MapFrom
import Derived.Carry
import Derived.Below
import Derived.RangeFuncWrites
namespace Go.Proofs.Ytcmepdamemnbkaa
open Go.MapKept Go.RowKit
set_option linter.unusedVariables false
set_option linter.unusedSimpArgs false

def kvE (e : MapEntry) : Value × Value := (e.key, e.val)
def kvI (p : Int × Value) : Value × Value := (.int .i64 p.1, p.2)
/-- these entries are that list -/
structure Ents (es : Array MapEntry) (clock : Nat) (l : List (Int × Value)) : Prop where
  is : es.toList.map kvE = l.map kvI
  keys : (l.map (·.1)).Nodup
  born : ∀ e ∈ es.toList, e.born < clock
  once : (es.toList.map (·.born)).Nodup
def IMap (w : World) (b : Nat) (l : List (Int × Value)) : Prop := ∃ es clock, w.heap[b]? = some (.map es clock) ∧ Ents es clock l
def imGet {β : Type} (x : Int) : List (Int × β) → Option β
  | [] => none
  | p :: r => if p.1 = x then some p.2 else imGet x r
def imSet {β : Type} (x : Int) (v : β) : List (Int × β) → List (Int × β)
  | [] => [(x, v)]
  | p :: r => if p.1 = x then (x, v) :: r else p :: imSet x v r
def imDel {β : Type} (x : Int) : List (Int × β) → List (Int × β)
  | [] => []
  | p :: r => if p.1 = x then r else p :: imDel x r

theorem imGet_map {β γ : Type} (f : β → γ) (x : Int) : ∀ l : List (Int × β), imGet x (l.map fun p => (p.1, f p.2)) = (imGet x l).map f
  | [] => rfl
  | p :: r => by
    simp only [List.map_cons, imGet]
    split
    · rfl
    · exact imGet_map f x r
theorem imSet_map {β γ : Type} (f : β → γ) (x : Int) (v : β) : ∀ l : List (Int × β), imSet x (f v) (l.map fun p => (p.1, f p.2)) = (imSet x v l).map fun p => (p.1, f p.2)
  | [] => rfl
  | p :: r => by
    simp only [List.map_cons, imSet]
    split
    · rfl
    · rw [imSet_map f x v r]; rfl

theorem IMap.at_ {w w' : World} {b : Nat} {l : List (Int × Value)} (h : IMap w b l) (e : w'.heap[b]? = w.heap[b]?) : IMap w' b l := by
  obtain ⟨es, c, h1, h2⟩ := h
  exact ⟨es, c, e.trans h1, h2⟩
theorem IMap.lt {w : World} {b : Nat} {l : List (Int × Value)} (h : IMap w b l) : b < w.heap.size := by
  obtain ⟨es, c, h1, h2⟩ := h
  exact (Array.getElem?_eq_some_iff.1 h1).1
theorem IMap.alloc {w : World} {b : Nat} {l : List (Int × Value)} (h : IMap w b l) (o : Obj) : IMap (w.alloc o) b l := h.at_ (Below.heap_alloc w o b h.lt)
theorem IMap.setCell {w : World} {b : Nat} {l : List (Int × Value)} (h : IMap w b l) {p : Addr} (hp : b ≠ p.block) (v : Value) : IMap (w.setCell p v) b l := h.at_ (Below.heap_setCell w p v b hp)
theorem IMap.below {w w' : World} {b : Nat} {l : List (Int × Value)} (h : IMap w b l) (hb : Below w.heap.size w w') : IMap w' b l := h.at_ (hb.block b h.lt)
theorem IMap.drew {w : World} {b : Nat} {l : List (Int × Value)} (h : IMap w b l) : IMap w.drew b l := h
theorem IMap.new (w : World) : IMap (w.alloc (.map #[] 0)) w.heap.size [] := ⟨#[], 0, heap_alloc_new w _, ⟨rfl, by simp, by simp, by simp⟩⟩

theorem findNow_l (x : Int) : ∀ (l : List (Int × Value)) (es : List MapEntry) (i : Nat), es.map kvE = l.map kvI → (imGet x l = none ∧ Instr.findNow (.int .i64) (.int .i64 x) es i = some none) ∨ (∃ j v e, imGet x l = some v ∧ Instr.findNow (.int .i64) (.int .i64 x) es i = some (some (i + j, v)) ∧ es[j]? = some e ∧ e.key = .int .i64 x)
  | [], [], i, _ => .inl ⟨rfl, rfl⟩
  | [], _ :: _, _, h => by simp at h
  | _ :: _, [], _, h => by simp at h
  | p :: r, e :: es, i, h => by
    simp only [List.map_cons, List.cons.injEq] at h
    obtain ⟨h1, h2⟩ := h
    have hk : e.key = .int .i64 p.1 := congrArg Prod.fst h1
    have hv : e.val = p.2 := congrArg Prod.snd h1
    by_cases hx : p.1 = x
    · right
      refine ⟨0, p.2, e, by simp [imGet, hx], by simp [Instr.findNow, Instr.sameNow, hk, hx, hv], rfl, by rw [hk, hx]⟩
    · have hf : Instr.findNow (.int .i64) (.int .i64 x) (e :: es) i = Instr.findNow (.int .i64) (.int .i64 x) es (i + 1) := by
        have hx' : (x == p.1) = false := by simpa using fun h => hx h.symm
        simp [Instr.findNow, Instr.sameNow, hk, hx']
      have hg : imGet x (p :: r) = imGet x r := by simp [imGet, hx]
      rw [hf, hg]
      rcases findNow_l x r es (i + 1) h2 with h | ⟨j, v, e', a1, a2, a3, a4⟩
      · exact .inl h
      · exact .inr ⟨j + 1, v, e', a1, by rw [a2, show i + (j + 1) = i + 1 + j from by omega], by simpa using a3, a4⟩

section
variable {P : Program} {w : World} {t k e : TypeId} {b : Nat} {l : List (Int × Value)}
theorem IMap.look (h : IMap w b l) (ht : P.underlying t = some (.map k e)) (hk : P.underlying k = some (.int .i64)) {z : Value} (hz : (zeroValue e).run P w = .ok z w) (x : Int) :
    (Instr.lookup t (.map (some b)) (.int .i64 x) true).run P w = .ok (.tuple #[(imGet x l).getD z, .bool (imGet x l).isSome]) w := by
  obtain ⟨es, c, hb, hE⟩ := h
  have hkey : IsKey (.int .i64) (.int .i64 x) := rfl
  rcases findNow_l x l es.toList 0 hE.is with ⟨h1, h2⟩ | ⟨j, v, e', h1, h2, -, -⟩
  · simp [Instr.lookup, run_underlying ht, MapKept.run_getObj_map hb, run_checkKey hk hkey, run_findKey hk h2, hz, h1, Result.andThen]
  · simp [Instr.lookup, run_underlying ht, MapKept.run_getObj_map hb, run_checkKey hk hkey, run_findKey hk h2, h1, Result.andThen]
theorem IMap.look1 (h : IMap w b l) (ht : P.underlying t = some (.map k e)) (hk : P.underlying k = some (.int .i64)) {z : Value} (hz : (zeroValue e).run P w = .ok z w) (x : Int) :
    (Instr.lookup t (.map (some b)) (.int .i64 x) false).run P w = .ok ((imGet x l).getD z) w := by
  obtain ⟨es, c, hb, hE⟩ := h
  have hkey : IsKey (.int .i64) (.int .i64 x) := rfl
  rcases findNow_l x l es.toList 0 hE.is with ⟨h1, h2⟩ | ⟨j, v, e', h1, h2, -, -⟩
  · simp [Instr.lookup, run_underlying ht, MapKept.run_getObj_map hb, run_checkKey hk hkey, run_findKey hk h2, hz, h1, Result.andThen]
  · simp [Instr.lookup, run_underlying ht, MapKept.run_getObj_map hb, run_checkKey hk hkey, run_findKey hk h2, h1, Result.andThen]

theorem imSet_keys (x : Int) (v : Value) : ∀ l : List (Int × Value), (imGet x l = none ∧ imSet x v l = l ++ [(x, v)] ∧ x ∉ l.map (·.1)) ∨ ((imSet x v l).map (·.1) = l.map (·.1) ∧ (imGet x l).isSome)
  | [] => .inl ⟨rfl, rfl, by simp⟩
  | p :: r => by
    by_cases hx : p.1 = x
    · right
      simp [imSet, imGet, hx]
    · rcases imSet_keys x v r with ⟨h1, h2, h3⟩ | ⟨h1, h2⟩
      · left
        refine ⟨by simp [imGet, hx, h1], by simp [imSet, hx, h2], by simpa using ⟨fun e => hx e.symm, by simpa using h3⟩⟩
      · right
        simp [imSet, imGet, hx, h1, h2]
theorem modify_kv (x : Int) (v : Value) : ∀ (l : List (Int × Value)) (es : List MapEntry) (i : Nat) (j : Nat) (u : Value), es.map kvE = l.map kvI → Instr.findNow (.int .i64) (.int .i64 x) es i = some (some (i + j, u)) →
    (es.modify j fun e => { e with key := .int .i64 x, val := v }).map kvE = (imSet x v l).map kvI ∧ (es.modify j fun e => { e with key := .int .i64 x, val := v }).map (·.born) = es.map (·.born)
  | [], [], i, j, u, _, h => by simp [Instr.findNow] at h
  | [], _ :: _, _, _, _, h, _ => by simp at h
  | _ :: _, [], _, _, _, h, _ => by simp at h
  | p :: r, e :: es, i, j, u, h, hf => by
    simp only [List.map_cons, List.cons.injEq] at h
    obtain ⟨h1, h2⟩ := h
    have hk : e.key = .int .i64 p.1 := congrArg Prod.fst h1
    by_cases hx : p.1 = x
    · have : j = 0 := by
        simp [Instr.findNow, Instr.sameNow, hk, hx] at hf
        omega
      subst this
      simp [imSet, hx, h2, kvE, kvI]
    · have hx' : (x == p.1) = false := by simpa using fun h => hx h.symm
      simp only [Instr.findNow, Instr.sameNow, hk, ↓reduceIte, hx'] at hf
      cases j with
      | zero =>
        exfalso
        rcases findNow_l x r es (i + 1) h2 with ⟨_, h3⟩ | ⟨j', v', e', _, h3, _, _⟩
        · rw [h3] at hf; simp at hf
        · rw [h3] at hf; simp at hf; omega
      | succ j =>
        have ih := modify_kv x v r es (i + 1) j u h2 (by rw [hf]; congr 2; simp; omega)
        constructor
        · simp [imSet, hx, h1, ih.1]
        · simp [ih.2]
theorem IMap.store (h : IMap w b l) (ht : P.underlying t = some (.map k e)) (hk : P.underlying k = some (.int .i64)) (x : Int) (v : Value) :
    ∃ o : Obj, (Instr.mapUpdate t (.map (some b)) (.int .i64 x) v).run P w = .ok () (w.putObj b o) ∧ IMap (w.putObj b o) b (imSet x v l) := by
  have hlt := h.lt
  obtain ⟨es, c, hb, hE⟩ := h
  have hkey : IsKey (.int .i64) (.int .i64 x) := rfl
  rcases findNow_l x l es.toList 0 hE.is with ⟨h1, h2⟩ | ⟨j, u, e', h1, h2, h3, h4⟩
  · refine ⟨.map (es.push { key := .int .i64 x, val := v, born := c }) (c + 1), ?_, _, _, World.putObj_heap_same hlt, ?_⟩
    · simp [Instr.mapUpdate, run_underlying ht, MapKept.run_getObj_map hb, run_checkKey hk hkey, run_findKey hk h2, MapKept.run_setObj_map _ hb, Result.andThen, World.putObj]
    · rcases imSet_keys x v l with ⟨_, a2, a3⟩ | ⟨_, a2⟩
      · rw [a2]
        refine ⟨by simp [hE.is, kvE, kvI], ?_, ?_, ?_⟩
        · rw [List.map_append]
          exact List.nodup_append.2 ⟨hE.keys, by simp, fun a ha b' hb' e => by simp at hb'; subst hb'; subst e; exact a3 ha⟩
        · intro e he
          simp at he
          rcases he with he | rfl
          · have := hE.born e (by simpa using he); omega
          · simp
        · simp only [Array.toList_push, List.map_append, List.map_cons, List.map_nil]
          refine List.nodup_append.2 ⟨hE.once, by simp, fun a ha b' hb' e => ?_⟩
          simp at hb'
          subst hb'
          subst e
          obtain ⟨m, hm, he⟩ := List.mem_map.1 ha
          have := hE.born m hm
          omega
      · rw [h1] at a2; simp at a2
  · have hj : es[j]? = some e' := by rw [← Array.getElem?_toList]; exact h3
    have hmod := modify_kv x v l es.toList 0 j u hE.is h2
    have hkk : IsKey (.int .i64) (.int .i64 x) := rfl
    refine ⟨.map (es.modify j fun e => { e with key := .int .i64 x, val := v }) c, ?_, _, _, World.putObj_heap_same hlt, ?_⟩
    · simp [Instr.mapUpdate, run_underlying ht, MapKept.run_getObj_map hb, run_checkKey hk hkey, run_findKey hk h2, hj, h4, run_keyThatStays hkk, MapKept.run_setObj_map _ hb, Result.andThen, World.putObj]
    · have hkeys : (imSet x v l).map (·.1) = l.map (·.1) := by
        rcases imSet_keys x v l with ⟨a1, _, _⟩ | ⟨a1, _⟩
        · rw [h1] at a1; simp at a1
        · exact a1
      refine ⟨by rw [Array.toList_modify]; exact hmod.1, by rw [hkeys]; exact hE.keys, ?_, by rw [Array.toList_modify, hmod.2]; exact hE.once⟩
      intro e he
      rw [Array.toList_modify] at he
      have hm : e.born ∈ (es.toList.modify j fun e => { e with key := .int .i64 x, val := v }).map (·.born) := List.mem_map_of_mem he
      rw [hmod.2] at hm
      obtain ⟨m, hm1, hm2⟩ := List.mem_map.1 hm
      rw [← hm2]
      exact hE.born m hm1
end

/-- an iterator over such a map into which nothing has been laid since: what is left of it -/
def IRange (w : World) (r b : Nat) (l rem : List (Int × Value)) : Prop :=
  ∃ es clock since c0 seen, w.heap[b]? = some (.map es clock) ∧ Ents es clock l ∧ w.heap[r]? = some (.mapIter (some b) since seen c0) ∧ (∀ e ∈ es.toList, e.born < since) ∧ since ≤ c0 ∧ since ≤ clock ∧ (leftOf es seen).toList.map kvE = rem.map kvI
theorem IRange.at_ {w w' : World} {r b : Nat} {l rem : List (Int × Value)} (h : IRange w r b l rem) (e1 : w'.heap[b]? = w.heap[b]?) (e2 : w'.heap[r]? = w.heap[r]?) : IRange w' r b l rem := by
  obtain ⟨es, c, s, c0, seen, h1, h2, h3, h4⟩ := h
  exact ⟨es, c, s, c0, seen, e1.trans h1, h2, e2.trans h3, h4⟩
theorem IRange.lt {w : World} {r b : Nat} {l rem : List (Int × Value)} (h : IRange w r b l rem) : r < w.heap.size ∧ b < w.heap.size ∧ r ≠ b := by
  obtain ⟨es, c, s, c0, seen, h1, h2, h3, h4⟩ := h
  exact ⟨(Array.getElem?_eq_some_iff.1 h3).1, (Array.getElem?_eq_some_iff.1 h1).1, fun e => by rw [e, h1] at h3; cases h3⟩
theorem IRange.imap {w : World} {r b : Nat} {l rem : List (Int × Value)} (h : IRange w r b l rem) : IMap w b l := by
  obtain ⟨es, c, s, c0, seen, h1, h2, h3, h4⟩ := h
  exact ⟨es, c, h1, h2⟩
theorem IMap.range {P : Program} {w : World} {t k e : TypeId} {b : Nat} {l : List (Int × Value)} (h : IMap w b l) (ht : P.underlying t = some (.map k e)) :
    ∃ o : Obj, (Instr.range t (.map (some b))).run P w = .ok (.pointer (some ⟨w.heap.size, 0, none⟩)) (w.alloc o) ∧ IRange (w.alloc o) w.heap.size b l l := by
  have hlt := h.lt
  obtain ⟨es, c, hb, hE⟩ := h
  refine ⟨_, run_range_map w t k e b es c ht hb, es, c, c, c, #[], (Below.heap_alloc w _ b hlt).trans hb, hE, heap_alloc_new w _, hE.born, Nat.le_refl _, Nat.le_refl _, ?_⟩
  have : leftOf es #[] = es := by unfold leftOf; exact Array.filter_eq_self.2 (fun x hx => by simp)
  rw [this]
  exact hE.is
theorem filter_push (seen : Array Nat) (e : MapEntry) : ∀ L : List MapEntry, e ∈ L → (L.map (·.born)).Nodup → ∃ A B, L = A ++ e :: B ∧ L.filter (fun x => !(seen.push e.born).contains x.born) = (A ++ B).filter (fun x => !seen.contains x.born)
  | [], h, _ => by simp at h
  | x :: L, h, hn => by
    simp only [List.map_cons, List.nodup_cons] at hn
    have hkeep : ∀ M : List MapEntry, (∀ y ∈ M, y.born ≠ e.born) → M.filter (fun x => !(seen.push e.born).contains x.born) = M.filter (fun x => !seen.contains x.born) := fun M hM => by
      apply List.filter_congr
      intro y hy
      simp [hM y hy]
    rcases List.mem_cons.1 h with rfl | h'
    · refine ⟨[], L, rfl, ?_⟩
      rw [List.filter_cons_of_neg (by simp)]
      exact hkeep L (fun y hy q => hn.1 (List.mem_map.2 ⟨y, hy, q⟩))
    · obtain ⟨A, B, rfl, hf⟩ := filter_push seen e L h' hn.2
      refine ⟨x :: A, B, rfl, ?_⟩
      have hxe : x.born ≠ e.born := fun q => hn.1 (q ▸ List.mem_map_of_mem (f := (·.born)) h')
      have hx := hkeep [x] (by simpa using hxe)
      rw [show x :: (A ++ e :: B) = [x] ++ (A ++ e :: B) from rfl, List.filter_append, hx, hf, ← List.filter_append]
      rfl
theorem IRange.next {P : Program} {w : World} {r b : Nat} {l rem : List (Int × Value)} (h : IRange w r b l rem) (ty : TypeId) :
    (rem = [] ∧ (Instr.next (.pointer (some ⟨r, 0, none⟩)) false ty).run P w = .ok (.tuple #[.bool false]) w) ∨
    ∃ A p B o w1, rem = A ++ p :: B ∧ (w1 = w ∨ w1 = w.drew) ∧ (Instr.next (.pointer (some ⟨r, 0, none⟩)) false ty).run P w = .ok (.tuple #[.bool true, .int .i64 p.1, p.2]) (w1.putObj r o) ∧ IRange (w1.putObj r o) r b l (A ++ B)
      ∧ (Instr.entry (.pointer (some ⟨r, 0, none⟩))).run P (w1.putObj r o) = .ok (.tuple #[.int .i64 p.1, p.2]) (w1.putObj r o) := by
  obtain ⟨hr, hbl, hrb⟩ := h.lt
  obtain ⟨es, c, since, c0, seen, hb, hE, hit, hold, hsc, hsk, hrem⟩ := h
  rcases run_next_at (P := P) w ty r b since c0 seen es c hit hb hold hsc with ⟨h0, hrun⟩ | ⟨e, he, w1, hw1, hrun⟩
  · left
    refine ⟨?_, hrun⟩
    have : leftOf es seen = #[] := Array.eq_empty_of_size_eq_zero h0
    rw [this] at hrem
    simpa using hrem.symm
  · right
    have hfl : (leftOf es seen).toList = es.toList.filter (fun e => !seen.contains e.born) := by unfold leftOf; rw [Array.toList_filter]
    have hmem : e ∈ es.toList := by rw [hfl] at he; exact (List.mem_filter.1 he).1
    obtain ⟨A0, B0, hAB, hf⟩ := filter_push seen e es.toList hmem hE.once
    have hseen : (!seen.contains e.born) = true := by rw [hfl] at he; exact (List.mem_filter.1 he).2
    have hsplit : (leftOf es seen).toList = A0.filter (fun e => !seen.contains e.born) ++ e :: B0.filter (fun e => !seen.contains e.born) := by
      rw [hfl, hAB, List.filter_append, List.filter_cons_of_pos (by simpa using hseen)]
    rw [hsplit, List.map_append, List.map_cons] at hrem
    obtain ⟨A, R, rfl, hA, hR⟩ := List.map_eq_append_iff.1 hrem.symm
    obtain ⟨p, B, rfl, hp, hB⟩ := List.map_eq_cons_iff.1 hR
    have hk : e.key = .int .i64 p.1 := (congrArg Prod.fst hp).symm
    have hv : e.val = p.2 := (congrArg Prod.snd hp).symm
    rw [hk, hv] at hrun
    have hb1 : w1.heap[b]? = some (.map es c) := by rcases hw1 with rfl | rfl <;> exact hb
    have hsz : r < w1.heap.size := by rcases hw1 with rfl | rfl <;> exact hr
    have hput : (w1.putObj r (.mapIter (some b) since (seen.push e.born) c)).heap[r]? = some (.mapIter (some b) since (seen.push e.born) c) := World.putObj_heap_same hsz
    have hbb : (w1.putObj r (.mapIter (some b) since (seen.push e.born) c)).heap[b]? = some (.map es c) := (World.putObj_heap_other (Ne.symm hrb)).trans hb1
    refine ⟨A, p, B, _, w1, rfl, hw1, hrun, ⟨es, c, since, c, seen.push e.born, hbb, hE, hput, hold, hsk, hsk, ?_⟩, ?_⟩
    · rw [show leftOf es (seen.push e.born) = es.filter fun x => !(seen.push e.born).contains x.born from rfl, Array.toList_filter, hf, List.filter_append, List.map_append, List.map_append, hA, hB]
    · have := run_entry_at (P := P) _ r b since seen es c e hput hbb hmem hE.once
      rw [hk, hv] at this
      exact this
/-- for a range over a function: a map that was made ahead of the loop -/
theorem ownFrom_imap {β : Type} {n : Nat} (M : Nat) (hM : M < n) (f : β → List (Int × Value)) : OwnFrom n (fun x W => IMap W M (f x)) := by
  intro s X Y row hs hg hr
  refine hs.at_ (hg.block M hs.lt (fun e => ?_))
  have := (hr M e.symm).1
  omega
end Go.Proofs.Ytcmepdamemnbkaa
