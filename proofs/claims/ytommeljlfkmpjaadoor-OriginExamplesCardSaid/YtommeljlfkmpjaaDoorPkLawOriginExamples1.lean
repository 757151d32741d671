/- words that the kit's print lays for a seat, as far as they are used / What came in, read a -/
import Derived.Below
import Derived.Deep.Draws
import Derived.Deep.AppendLies
import Derived.Maps.AppendAt
import Derived.OwnWalk
import Derived.Laws.BytesArg
import Derived.Laws.MakeOwn
import Derived.Laws.OwnMore
import Derived.Deep.OwnRows
import Derived.Tactics
import Derived.Lib.ConvBytes
import Derived.Laws.Slices
import Derived.WalkKit
import Derived.KernelRfl
import Derived.RowKit3
import Derived.Deep.LoopGhost
import Derived.Deep.QuietTactic
import Derived.BigQuiet
import Derived.WideLaws
import Derived.Deep.DeepCutAuto
import Derived.Deep.CutBlock
import Derived.Deep.RegionHeld3
import Derived.Laws.Rows
import Derived.Lib.AppendStr
import Derived.ArgAppend
import Derived.Laws.IdiomCopy
import Derived.RowKit
import Derived.ProofKit
import Derived.ChangeOld
import Derived.Deep.Slices
import Derived.DataReads
import Derived.WalkSpells
import Derived.WalkLawsBesides
import Derived.RangeFuncCalls
import Derived.OrdersIn
import Derived.Deep.RegionHeld
import Derived.Scope
import Derived.Maps.RangeRun
import Derived.RangeFuncRecord
import Derived.MapFrom
import Derived.Carry
import Derived.RangeFuncWrites
import Derived.Laws.EntriesVeiled
import Derived.Laws.Cells
import Derived.IntWalk
import Derived.Sort.LoopGhostIn
import Derived.Shelf.Abstract
set_option linter.unusedVariables false
set_option linter.unusedSimpArgs false
namespace Go.Proofs.YtommeljlfkmpjaaDoor
theorem mH {α : Type} {a : α} {l : List α} : a ∈ a :: l := List.Mem.head _
theorem mT {α : Type} {a b : α} {l : List α} (h : a ∈ l) : a ∈ b :: l := List.Mem.tail _ h
theorem mA {α : Type} {a : α} {k l : List α} (h : a ∈ l) : a ∈ k ++ l := List.mem_append_right _ h
theorem lenC {α : Type} {a : α} {l : List α} : (a :: l).length = l.length + 1 := rfl
theorem lenN {α : Type} : ([] : List α).length = 0 := rfl
end Go.Proofs.YtommeljlfkmpjaaDoor
namespace Go.Proofs.YtommeljlfkmpjaaDoorW.PrintWords
open Go.RowKit
structure Drawn0 (w w' : World) : Prop where mk :: (out : ∃ n, w' = w.drewN n)
theorem Drawn0.refl (w : World) : Drawn0 w w := ⟨⟨0, rfl⟩⟩
theorem Drawn0.step {w w' : World} (h : Drawn0 w w') (n : Nat) : Drawn0 w (w'.drewN n) := by
 obtain ⟨m, rfl⟩ := h
 exact ⟨⟨m + n, World.drewN_drewN ..⟩⟩
theorem Drawn0.grown {w w' : World} (h : Drawn0 w w') : Grown w w' := by
 obtain ⟨n, rfl⟩ := h
 induction n with
 | zero => exact Grown.refl _
 | succ n ih => rw [← World.drew_drewN]; exact Grown.drew ih
theorem Drawn0.below {w w' : World} (h : Drawn0 w w') : Below w.heap.size w w' := by
 obtain ⟨n, rfl⟩ := h
 induction n with
 | zero => exact Below.refl _ _
 | succ n ih => rw [← World.drew_drewN]; exact ih.drew
def rd (xs : List Int) (i : Int) : Int := xs.getD i.toNat 0
theorem below_alloc {w W : World} (h : Below w.heap.size w W) (o : Obj) : Below w.heap.size w (W.alloc o) := h.alloc h.size o
theorem below_then {B : Nat} {w w1 w2 : World} (h : Below B w w1) (hB : B ≤ w1.heap.size) (k : Below w1.heap.size w1 w2) : Below B w w2 :=
 h.trans ⟨k.os, k.tape, k.output, k.size, fun i hi => k.block i (Nat.lt_of_lt_of_le hi hB)⟩
theorem grown_of_below {w w1 : World} (h : Below w.heap.size w w1) (row : Option Nat) : w.grownBy w1 row := ⟨h.os, h.tape, h.output, h.size, fun i hi _ => h.block i hi⟩
theorem pw_cell_below {w w1 : World} (h : Below w.heap.size w w1) {a : Addr} {v : Value} (hc : w.cell? a = some v) : w1.cell? a = some v := (h.cell (World.block_lt_of_cell? w a hc)).trans hc
def ReadsInt (w : World) (k : IntKind) (A : Option Addr) (n : Nat) (xs : List Int) : Prop :=
 xs.length = n ∧ n ≤ 9223372036854775807 ∧ (0 < n → ∃ ad, A = some ad ∧ ∀ j, j < n → w.cell? (ad.add j) = some (.int k (xs.getD j 0)))
theorem ReadsInt.at_ {w : World} {k : IntKind} {A : Option Addr} {n : Nat} {xs : List Int} (h : ReadsInt w k A n xs) (i : Int) (h0 : 0 ≤ i) (h1 : i < n) : ∃ ad, A = some ad ∧ w.cell? (ad.add i.toNat) = some (.int k (rd xs i)) := by
 obtain ⟨ad, e, hc⟩ := h.2.2 (by omega)
 exact ⟨ad, e, hc _ (by omega)⟩
theorem ReadsInt.below {w w1 : World} {k : IntKind} {A : Option Addr} {n : Nat} {xs : List Int} (h : ReadsInt w k A n xs) (hb : Below w.heap.size w w1) : ReadsInt w1 k A n xs :=
 ⟨h.1, h.2.1, fun hn => by
  obtain ⟨ad, e, hc⟩ := h.2.2 hn
  exact ⟨ad, e, fun j hj => pw_cell_below hb (hc j hj)⟩⟩
theorem own_nil (W : World) (base : Nat) (e : TypeId) (size : Nat) : W.ownsRow base e size (.slice none 0 0) 0 [] := ⟨by simp, .inl ⟨rfl, rfl⟩⟩
theorem own_base {w : World} {base : Nat} {e : TypeId} {size n : Nat} {v : Value} {xs : List Value} (h : w.ownsRow base e size v n xs) (k : Nat) (hk : v.ownBlock = some k) : base ≤ k := by
 rcases h.2 with ⟨rfl, _⟩ | ⟨g, cap, cur, rfl, hb, _⟩
 ·simp [Value.ownBlock] at hk
 ·have : g = k := by simpa [Value.ownBlock] using hk
  omega
theorem own_lt {w : World} {base : Nat} {e : TypeId} {size n : Nat} {v : Value} {xs : List Value} (h : w.ownsRow base e size v n xs) (k : Nat) (hk : v.ownBlock = some k) : k < w.heap.size := by
 rcases h.2 with ⟨rfl, _⟩ | ⟨g, cap, cur, rfl, hb, hh, _⟩
 ·simp [Value.ownBlock] at hk
 ·have : g = k := by simpa [Value.ownBlock] using hk
  subst this
  exact (Array.getElem?_eq_some_iff.1 hh).1
theorem pw_own_below {w w1 : World} {base : Nat} {e : TypeId} {size n : Nat} {v : Value} {xs : List Value} (h : w.ownsRow base e size v n xs) (hb : Below w.heap.size w w1) : w1.ownsRow base e size v n xs :=
 h.kept (grown_of_below hb none) (by cases v.ownBlock <;> simp)
theorem own_other {w w1 : World} {base : Nat} {e : TypeId} {size n : Nat} {v : Value} {xs : List Value} (h : w.ownsRow base e size v n xs) {row : Option Nat} (hg : w.grownBy w1 row) (hne : v.ownBlock = none ∨ v.ownBlock ≠ row) : w1.ownsRow base e size v n xs := h.kept hg hne
theorem own_slice {w : World} {base n : Nat} {e : TypeId} {size : Nat} {v : Value} {xs : List Value} (h : w.ownsRow base e size v n xs) : ∃ A c, v = .slice A n c := by
 rcases h.2 with ⟨rfl, rfl⟩ | ⟨g, cap, cur, rfl, _⟩
 ·exact ⟨none, 0, rfl⟩
 ·exact ⟨_, cap, rfl⟩
theorem ReadsInt.take_ {w : World} {k : IntKind} {A : Option Addr} {n : Nat} {xs : List Int} (h : ReadsInt w k A n xs) (i : Nat) (hi : i ≤ n) : ReadsInt w k A i (xs.take i) := by
 refine ⟨by rw [List.length_take, h.1]; omega, by have := h.2.1; omega, fun hp => ?_⟩
 obtain ⟨ad, e, hc⟩ := h.2.2 (by omega)
 refine ⟨ad, e, fun j hj => ?_⟩
 rw [hc j (by omega)]
 simp [List.getD_eq_getElem?_getD, hj]
theorem ReadsInt.drop_ {w : World} {k : IntKind} {A : Option Addr} {n c : Nat} {xs : List Int} (h : ReadsInt w k A n xs) (i : Nat) (hi : i ≤ n) (hc : n ≤ c) : ReadsInt w k (if c = i then A else A.map (·.add i)) (n - i) (xs.drop i) := by
 refine ⟨by rw [List.length_drop, h.1], by have := h.2.1; omega, fun hp => ?_⟩
 obtain ⟨ad, rfl, hcell⟩ := h.2.2 (by omega)
 rw [if_neg (by omega)]
 refine ⟨ad.add i, rfl, fun j hj => ?_⟩
 have ha : (ad.add i).add j = ad.add (i + j) := by
  unfold Addr.add
  by_cases h1 : i = 0 <;> by_cases h2 : j = 0 <;> simp [h1, h2, Nat.add_assoc]
 rw [ha, hcell (i + j) (by omega)]
 simp [List.getD_eq_getElem?_getD, List.getElem?_drop]
def LeO {α : Type} (a b : Option α) : Prop := ∀ r, a = some r → b = some r
theorem LeO.refl {α : Type} (a : Option α) : LeO a a := fun _ h => h
theorem LeO.none {α : Type} (b : Option α) : LeO Option.none b := fun _ h => by cases h
theorem LeO.trans {α : Type} {a b c : Option α} (h : LeO a b) (k : LeO b c) : LeO a c := fun r hr => k r (h r hr)
theorem LeO.ite {α : Type} {c : Prop} [Decidable c] {a a' b b' : Option α} (h : LeO a a') (k : LeO b b') : LeO (if c then a else b) (if c then a' else b') := by
 split
 ·exact h
 ·exact k
theorem LeO.bind {α β : Type} {a a' : Option α} {f f' : α → Option β} (h : LeO a a') (k : ∀ x, LeO (f x) (f' x)) : LeO (a.bind f) (a'.bind f') := by
 intro r hr
 obtain ⟨x, hx, hf⟩ := Option.bind_eq_some_iff.1 hr
 exact Option.bind_eq_some_iff.2 ⟨x, h x hx, k x r hf⟩
theorem LeO.map {α β : Type} {a a' : Option α} (f : α → β) (h : LeO a a') : LeO (a.map f) (a'.map f) := by
 intro r hr
 obtain ⟨x, hx, hf⟩ := Option.map_eq_some_iff.1 hr
 exact Option.map_eq_some_iff.2 ⟨x, h x hx, hf⟩
theorem more_rounds {α : Type} {g : Nat → Option α} (h : ∀ k, LeO (g k) (g (k + 1))) (k : Nat) : ∀ j, LeO (g k) (g (k + j))
 | 0 => LeO.refl _
 | j + 1 => (more_rounds h k j).trans (h (k + j))
theorem at_rounds {α : Type} {g : Nat → Option α} (h : ∀ k, LeO (g k) (g (k + 1))) {k k' : Nat} (hk : k ≤ k') {r : α} (hr : g k = some r) : g k' = some r := by
 have := more_rounds h k (k' - k) r hr
 rwa [Nat.add_sub_cancel' hk] at this
def Reps {α : Type} (R : α → List Value → Prop) (size : Nat) (ps : List α) (cs : List Value) : Prop :=
 cs.length = ps.length * size ∧ ∀ j p, ps[j]? = some p → R p ((cs.drop (j * size)).take size)
theorem Reps.none {α : Type} (R : α → List Value → Prop) (size : Nat) : Reps R size [] [] := ⟨by simp, fun j p h => by simp at h⟩
theorem Reps.snoc {α : Type} {R : α → List Value → Prop} {size : Nat} {ps : List α} {cs c : List Value} {p : α} (h : Reps R size ps cs) (hp : R p c) (hc : c.length = size) : Reps R size (ps ++ [p]) (cs ++ c) := by
 refine ⟨by rw [List.length_append, h.1, hc, List.length_append, List.length_singleton, Nat.add_mul, Nat.one_mul], fun j q hq => ?_⟩
 rcases Nat.lt_or_ge j ps.length with hj | hj
 ·rw [List.getElem?_append_left hj] at hq
  have h1 : j * size + size ≤ cs.length := by rw [h.1, ← Nat.succ_mul]; exact Nat.mul_le_mul_right _ hj
  have h2 := h.2 j q hq
  rw [List.drop_append_of_le_length (by omega), List.take_append_of_le_length (by rw [List.length_drop]; omega)]
  exact h2
 ·have hj' : j = ps.length := by
   have := (List.getElem?_eq_some_iff.1 hq).1
   rw [List.length_append, List.length_singleton] at this
   omega
  subst hj'
  have hq' : p = q := by simpa using hq
  subst hq'
  rw [← h.1, List.drop_left, ← hc, List.take_length]
  exact hp
theorem Reps.imp_ {α : Type} {R R' : α → List Value → Prop} {size : Nat} {ps : List α} {cs : List Value} (h : Reps R size ps cs) (hR : ∀ p c, R p c → R' p c) : Reps R' size ps cs := ⟨h.1, fun j p hj => hR _ _ (h.2 j p hj)⟩
def ReadsRow {α : Type} (R : α → List Value → Prop) (size : Nat) (w : World) (A : Option Addr) (n : Nat) (ps : List α) : Prop :=
 ps.length = n ∧ n ≤ 9223372036854775807 ∧ (0 < n → ∃ ad, A = some ad ∧ ∀ j p, ps[j]? = some p → ∃ c, c.length = size ∧ R p c ∧ ∀ i u, c[i]? = some u → w.cell? (ad.add (j * size + i)) = some u)
theorem ReadsRow.get_ {α : Type} {R : α → List Value → Prop} {size : Nat} {w : World} {A : Option Addr} {n : Nat} {ps : List α} (h : ReadsRow R size w A n ps) (d : α) (i : Int) (h0 : 0 ≤ i) (h1 : i < n) :
  ∃ ad c, A = some ad ∧ c.length = size ∧ R (ps.getD i.toNat d) c ∧ ∀ j u, c[j]? = some u → w.cell? (ad.add (i.toNat * size + j)) = some u := by
 obtain ⟨ad, e, hc⟩ := h.2.2 (by omega)
 have hl : i.toNat < ps.length := by have := h.1; omega
 obtain ⟨c, hs, hr, hcell⟩ := hc i.toNat _ (List.getElem?_eq_getElem hl)
 refine ⟨ad, c, e, hs, ?_, hcell⟩
 rw [List.getD_eq_getElem?_getD, List.getElem?_eq_getElem hl]
 exact hr
theorem ReadsRow.imp_ {α : Type} {R R' : α → List Value → Prop} {size : Nat} {w w1 : World} {A : Option Addr} {n : Nat} {ps : List α} (h : ReadsRow R size w A n ps) (hb : Below w.heap.size w w1) (hR : ∀ p c, R p c → R' p c) : ReadsRow R' size w1 A n ps :=
 ⟨h.1, h.2.1, fun hn => by
  obtain ⟨ad, e, hc⟩ := h.2.2 hn
  refine ⟨ad, e, fun j p hj => ?_⟩
  obtain ⟨c, hs, hr, hcell⟩ := hc j p hj
  exact ⟨c, hs, hR _ _ hr, fun i u hu => pw_cell_below hb (hcell i u hu)⟩⟩
theorem own_reads_row {α : Type} {R : α → List Value → Prop} {w : World} {base n size : Nat} {e : TypeId} {v : Value} {ps : List α} {cs : List Value} (h : w.ownsRow base e size v n cs) (hR : Reps R size ps cs) (hn : ps.length = n) :
  ∃ A c, v = .slice A n c ∧ ReadsRow R size w A n ps := by
 rcases Nat.eq_zero_or_pos n with h0 | h0
 ·rcases h.2 with ⟨rfl, rfl⟩ | ⟨g, cap, cur, rfl, _⟩
  ·exact ⟨none, 0, rfl, hn, by omega, fun hp => absurd hp (by omega)⟩
  ·exact ⟨_, cap, rfl, hn, by omega, fun hp => absurd hp (by omega)⟩
 ·obtain ⟨g, cap, rfl, _, _⟩ := h.form h0
  have hm : n ≤ 9223372036854775807 := by
   rcases h.2 with ⟨_, h1⟩ | ⟨g', cap', cur, he, _, _, h1, h2, _⟩
   ·omega
   ·simp only [maxLen] at h2
    omega
  refine ⟨_, cap, rfl, hn, hm, fun _ => ⟨_, rfl, fun j p hj => ⟨(cs.drop (j * size)).take size, ?_, hR.2 j p hj, fun i u hu => ?_⟩⟩⟩
  ·have hjl := (List.getElem?_eq_some_iff.1 hj).1
   have h1 : j * size + size ≤ cs.length := by rw [hR.1, ← Nat.succ_mul]; exact Nat.mul_le_mul_right _ hjl
   rw [List.length_take, List.length_drop]
   omega
  ·refine h.cells (g := g) rfl _ u ?_
   rw [List.getElem?_take] at hu
   split at hu
   ·rw [List.getElem?_drop] at hu
    exact hu
   ·cases hu
section
variable {P : Program} {ops : Array Oper} {rest : List Oper} {o : Oper} {a : Act} {Q : Exit → Act → World → Prop}
theorem print_append_cells {w0 W : World} (base : Nat) (hgd : o.guard = none) (s x : Operand) (t e : TypeId) (z : Value) (size bytes : Nat)
  (ho : o.op = .call { callee := .builtin .append, args := #[s, x], argTypes := #[t, t] })
  (ht : P.underlying t = some (.slice e)) (hinfo : (P.info? e).map (fun i => (i.zero, i.size, i.bytes)) = some (some z, size, bytes)) (hz : z.cells.size = size) (hs0 : 0 < size) (hb0 : 0 < bytes)
  (v : Value) (n : Nat) (xs ys : List Value) (hs : a.eval s = v) (hx : a.eval x = .slice (some ⟨W.heap.size, 0, none⟩) 1 1) (hys : ys.length = size) (h1 : ∀ u ∈ ys, u.oneCell' = true)
  (HO : W.ownsRow base e size v n xs) (HB : Below base w0 W) (hbase : base ≤ W.heap.size) (hl : (n + 1) * bytes ≤ 140737488355328)
  (h : ∀ v1 w1, w1.ownsRow base e size v1 (n + 1) (xs ++ ys) → Below base w0 w1 → W.grownBy w1 v.ownBlock → (v1.ownBlock = v.ownBlock ∨ ∃ b, v1.ownBlock = some b ∧ W.heap.size ≤ b) → wpList P ops Q rest (a.put o.dst v1) w1) :
  wpList P ops Q (o :: rest) a (W.alloc (.cells ys.toArray e)) := by
 obtain ⟨i0, hi, hzz⟩ := Option.map_eq_some_iff.1 hinfo
 simp only [Prod.mk.injEq] at hzz
 obtain ⟨hz0, hz1, hz2⟩ := hzz
 have hlen : n + 1 ≤ 140737488355328 := Nat.le_trans (Nat.le_mul_of_pos_right _ hb0) hl
 refine wpList_append_own_at (W.alloc (.cells ys.toArray e)) hgd s x t ho base e i0 z size bytes ht hi hz0 hz1 hz2 hz hs0 v n xs hs (HO.alloc _) ⟨W.heap.size, 0, none⟩ 1 1 ys hx (by rw [hys]; simp)
  (by simpa using World.news_of_block (cs := ys.toArray) (t := e) (fr := (0, 0)) (heap_alloc_new W (.cells ys.toArray e))) h1 (by simp only [maxLen]; omega) hl (by simp; omega) ?_
 intro v1 w1 hown hg _ hat
 refine h v1 w1 hown ((HB.alloc hbase _).grown hg (by simp; omega) (own_base HO)) (World.grownBy.trans (World.grownBy_alloc W _ _) hg) ?_
 rcases hat with hat | hat
 ·exact .inl hat
 ·exact .inr ⟨_, hat, by simp⟩
end
theorem own_ne {w : World} {base : Nat} {e t : TypeId} {size n g : Nat} {v : Value} {xs : List Value} {cs : Array Value} (h : w.ownsRow base e size v n xs) (hg : w.heap[g]? = some (.cells cs t (0, 0))) (hne : e ≠ t) : some g ≠ v.ownBlock := by
 rcases h.2 with ⟨rfl, _⟩ | ⟨g', cap, cur, rfl, _, hh, _⟩
 ·simp [Value.ownBlock]
 ·intro he
  have : g = g' := by simpa [Value.ownBlock] using he
  subst this
  rw [hg] at hh
  injection hh with hh
  injection hh with _ ht
  exact hne ht.symm
theorem own_setCell {w : World} {base : Nat} {e : TypeId} {size n : Nat} {v : Value} {xs : List Value} (h : w.ownsRow base e size v n xs) {p : Addr} (hne : some p.block ≠ v.ownBlock) (u : Value) : (w.setCell p u).ownsRow base e size v n xs := by
 obtain ⟨h1, h2⟩ := h
 refine ⟨h1, ?_⟩
 rcases h2 with h2 | ⟨g, cap, cur, rfl, hg, hh, r⟩
 ·exact .inl h2
 ·exact .inr ⟨g, cap, cur, rfl, hg, by rw [Below.heap_setCell _ _ _ _ (fun e => hne (by rw [e]; rfl))]; exact hh, r⟩
theorem blk_lt {w : World} {g : Nat} {o : Obj} (h : w.heap[g]? = some o) : g < w.heap.size := (Array.getElem?_eq_some_iff.1 h).1
def KeepBut (w w' : World) (g : Nat) (row : Option Nat) : Prop := w.heap.size ≤ w'.heap.size ∧ ∀ i, i < w.heap.size → i ≠ g → some i ≠ row → w'.heap[i]? = w.heap[i]?
theorem KeepBut.refl (w : World) (g : Nat) (row : Option Nat) : KeepBut w w g row := ⟨Nat.le_refl _, fun _ _ _ _ => rfl⟩
theorem KeepBut.of_grown {w w1 : World} {row : Option Nat} (h : w.grownBy w1 row) (g : Nat) : KeepBut w w1 g row := ⟨h.size, fun i hi _ hr => h.block i hi hr⟩
theorem KeepBut.of_below {w w1 : World} (h : Below w.heap.size w w1) (g : Nat) (row : Option Nat) : KeepBut w w1 g row := ⟨h.size, fun i hi _ _ => h.block i hi⟩
theorem KeepBut.set_ {w w1 : World} {g : Nat} {row : Option Nat} (h : KeepBut w w1 g row) (j : Nat) (u : Value) : KeepBut w (w1.setCell ⟨g, j, none⟩ u) g row :=
 ⟨by simpa [World.setCell] using h.1, fun i hi hg hr => (Below.heap_setCell w1 ⟨g, j, none⟩ u i hg).trans (h.2 i hi hg hr)⟩
theorem KeepBut.trans {w w1 w2 : World} {g : Nat} {row row1 : Option Nat} (h : KeepBut w w1 g row) (k : KeepBut w1 w2 g row1) (hr : row1 = row ∨ ∃ b, row1 = some b ∧ w.heap.size ≤ b) : KeepBut w w2 g row :=
 ⟨Nat.le_trans h.1 k.1, fun i hi hg hn => by
  refine (k.2 i (Nat.lt_of_lt_of_le hi h.1) hg ?_).trans (h.2 i hi hg hn)
  rcases hr with rfl | ⟨b, rfl, hb⟩
  ·exact hn
  ·intro e
   injection e with e
   omega⟩
theorem KeepBut.blk {w w1 : World} {g g' : Nat} {row : Option Nat} {o : Obj} (h : KeepBut w w1 g row) (hb : w.heap[g']? = some o) (hg : g' ≠ g) (hr : some g' ≠ row) : w1.heap[g']? = some o := (h.2 g' (blk_lt hb) hg hr).trans hb
theorem KeepBut.own {w w1 : World} {g : Nat} {row : Option Nat} {base : Nat} {e : TypeId} {size n : Nat} {v : Value} {xs : List Value} (h : KeepBut w w1 g row) (ho : w.ownsRow base e size v n xs) (hg : v.ownBlock ≠ some g) (hr : v.ownBlock = none ∨ v.ownBlock ≠ row) : w1.ownsRow base e size v n xs := by
 obtain ⟨h1, h2⟩ := ho
 refine ⟨h1, ?_⟩
 rcases h2 with h2 | ⟨b, cap, cur, rfl, hb, hh, r⟩
 ·exact .inl h2
 ·refine .inr ⟨b, cap, cur, rfl, hb, h.blk hh ?_ ?_, r⟩
  ·intro e
   exact hg (by rw [← e]; rfl)
  ·rcases hr with hr | hr
   ·simp [Value.ownBlock] at hr
   ·exact hr
def Ev {α : Type} (g : Nat → Option α) (r : α) : Prop := ∃ K, ∀ k, K ≤ k → g k = some r
theorem Ev.of {α : Type} {g : Nat → Option α} {r : α} (hg : ∀ k, LeO (g k) (g (k + 1))) {k : Nat} (h : g k = some r) : Ev g r := ⟨k, fun _ hk => at_rounds hg hk h⟩
theorem Ev.now {α : Type} (r : α) : Ev (fun _ => some r) r := ⟨0, fun _ _ => rfl⟩
theorem Ev.rounds {α : Type} {g : Nat → Option α} {r : α} (h : Ev g r) : ∃ k, g k = some r := by
 obtain ⟨K, h⟩ := h
 exact ⟨K, h K (Nat.le_refl _)⟩
theorem Ev.bind {α β : Type} {g : Nat → Option α} {f : Nat → α → Option β} {a : α} {r : β} (h : Ev g a) (k : Ev (fun n => f n a) r) : Ev (fun n => (g n).bind (f n)) r := by
 obtain ⟨K, h⟩ := h
 obtain ⟨K', k⟩ := k
 refine ⟨max K K', fun n hn => ?_⟩
 have h1 := h n (by omega)
 have h2 := k n (by omega)
 simp only [h1, Option.bind_some]
 exact h2
theorem Ev.step {α : Type} {g f : Nat → Option α} {r : α} (h : ∀ k, g (k + 1) = f k) (k : Ev f r) : Ev g r := by
 obtain ⟨K, k⟩ := k
 refine ⟨K + 1, fun n hn => ?_⟩
 obtain ⟨m, rfl⟩ : ∃ m, n = m + 1 := ⟨n - 1, by omega⟩
 rw [h]
 exact k m (by omega)
theorem Ev.congr {α : Type} {g f : Nat → Option α} {r : α} (h : ∀ k, g k = f k) (k : Ev f r) : Ev g r := by
 obtain ⟨K, k⟩ := k
 exact ⟨K, fun n hn => (h n).trans (k n hn)⟩
section
variable {P : Program} {ops : Array Oper} {o : Oper} {a : Act} {Q : Exit → Act → World → Prop} {K : Act → World → Prop}
theorem step_append_cells {w0 W : World} (base : Nat) (hw : Region.wanted o (yielded ops a.tmps) = true) (s x : Operand) (t e : TypeId) (z : Value) (size bytes : Nat)
  (ho : o.op = .call { callee := .builtin .append, args := #[s, x], argTypes := #[t, t] })
  (ht : P.underlying t = some (.slice e)) (hinfo : (P.info? e).map (fun i => (i.zero, i.size, i.bytes)) = some (some z, size, bytes)) (hz : z.cells.size = size) (hs0 : 0 < size) (hb0 : 0 < bytes)
  (v : Value) (n : Nat) (xs ys : List Value) (hs : a.eval s = v) (hx : a.eval x = .slice (some ⟨W.heap.size, 0, none⟩) 1 1) (hys : ys.length = size) (h1 : ∀ u ∈ ys, u.oneCell' = true)
  (HO : W.ownsRow base e size v n xs) (HB : Below base w0 W) (hbase : base ≤ W.heap.size) (hl : (n + 1) * bytes ≤ 140737488355328)
  (h : ∀ v1 w1, w1.ownsRow base e size v1 (n + 1) (xs ++ ys) → Below base w0 w1 → W.grownBy w1 v.ownBlock → (v1.ownBlock = v.ownBlock ∨ ∃ b, v1.ownBlock = some b ∧ W.heap.size ≤ b) → K (a.put o.dst v1) w1) :
  if Region.wanted o (yielded ops a.tmps) = true then Oper.wp P o a (W.alloc (.cells ys.toArray e)) K Q else K (a.put o.dst undef) (W.alloc (.cells ys.toArray e)) := by
 obtain ⟨i0, hi, hzz⟩ := Option.map_eq_some_iff.1 hinfo
 simp only [Prod.mk.injEq] at hzz
 obtain ⟨hz0, hz1, hz2⟩ := hzz
 have hlen : n + 1 ≤ 140737488355328 := Nat.le_trans (Nat.le_mul_of_pos_right _ hb0) hl
 rw [if_pos hw]
 obtain ⟨v1, w1, hr, hown, hg, _, hat⟩ := run_append_own_at (P := P) (W.alloc (.cells ys.toArray e)) base t o.type e i0 z size bytes ht hi hz0 hz1 hz2 hz hs0 v n xs (HO.alloc _) ⟨W.heap.size, 0, none⟩ 1 1 ys (by rw [hys]; simp)
  (by simpa using World.news_of_block (cs := ys.toArray) (t := e) (fr := (0, 0)) (heap_alloc_new W (.cells ys.toArray e))) h1 (by simp only [maxLen]; omega) hl (by simp; omega)
 unfold Oper.wp execOp
 simp only [ho, resolve, invoke, builtin, Sem.run_bind, Sem.run_pure, Result.andThen_ok, List.map_toArray, List.map_cons, List.map_nil, hs, hx, hr]
 refine h v1 w1 hown ((HB.alloc hbase _).grown hg (by simp; omega) (own_base HO)) (World.grownBy.trans (World.grownBy_alloc W _ _) hg) ?_
 rcases hat with hat | hat
 ·exact .inl hat
 ·exact .inr ⟨_, hat, by simp⟩
end
theorem own_weaken {w : World} {base base' : Nat} {e : TypeId} {size n : Nat} {v : Value} {xs : List Value} (h : w.ownsRow base e size v n xs) (hb : base' ≤ base) : w.ownsRow base' e size v n xs := by
 obtain ⟨h1, h2⟩ := h
 refine ⟨h1, ?_⟩
 rcases h2 with h2 | ⟨g, cap, cur, rfl, hg, r⟩
 ·exact .inl h2
 ·exact .inr ⟨g, cap, cur, rfl, Nat.le_trans hb hg, r⟩
section
variable {α : Type} {enc : α → Value} {d : α}
def encs (enc : α → Value) (xs : List α) : List Value := xs.map enc
def rdOf (d : α) (xs : List α) (i : Int) : α := xs.getD i.toNat d
theorem encs_length (xs : List α) : (encs enc xs).length = xs.length := by simp [encs]
theorem encs_get (xs : List α) (j : Nat) (h : j < xs.length) : (encs enc xs)[j]? = some (enc (xs.getD j d)) := by
 simp [encs, List.getElem?_eq_getElem h, List.getD_eq_getElem?_getD]
def ReadsOf (enc : α → Value) (d : α) (w : World) (A : Option Addr) (n : Nat) (xs : List α) : Prop :=
 xs.length = n ∧ n ≤ 9223372036854775807 ∧ (0 < n → ∃ ad, A = some ad ∧ ∀ j, j < n → w.cell? (ad.add j) = some (enc (xs.getD j d)))
theorem ReadsOf.at_ {w : World} {A : Option Addr} {n : Nat} {xs : List α} (h : ReadsOf enc d w A n xs) (i : Int) (h0 : 0 ≤ i) (h1 : i < n) : ∃ ad, A = some ad ∧ w.cell? (ad.add i.toNat) = some (enc (rdOf d xs i)) := by
 obtain ⟨ad, e, hc⟩ := h.2.2 (by omega)
 exact ⟨ad, e, hc _ (by omega)⟩
theorem ReadsOf.below {w w1 : World} {A : Option Addr} {n : Nat} {xs : List α} (h : ReadsOf enc d w A n xs) (hb : Below w.heap.size w w1) : ReadsOf enc d w1 A n xs :=
 ⟨h.1, h.2.1, fun hn => by
  obtain ⟨ad, e, hc⟩ := h.2.2 hn
  exact ⟨ad, e, fun j hj => pw_cell_below hb (hc j hj)⟩⟩
theorem ReadsOf.take_ {w : World} {A : Option Addr} {n : Nat} {xs : List α} (h : ReadsOf enc d w A n xs) (i : Nat) (hi : i ≤ n) : ReadsOf enc d w A i (xs.take i) := by
 refine ⟨by rw [List.length_take, h.1]; omega, by have := h.2.1; omega, fun hp => ?_⟩
 obtain ⟨ad, e, hc⟩ := h.2.2 (by omega)
 refine ⟨ad, e, fun j hj => ?_⟩
 rw [hc j (by omega)]
 simp [List.getD_eq_getElem?_getD, hj]
theorem ReadsOf.drop_ {w : World} {A : Option Addr} {n c : Nat} {xs : List α} (h : ReadsOf enc d w A n xs) (i : Nat) (hi : i ≤ n) (hc : n ≤ c) : ReadsOf enc d w (if c = i then A else A.map (·.add i)) (n - i) (xs.drop i) := by
 refine ⟨by rw [List.length_drop, h.1], by have := h.2.1; omega, fun hp => ?_⟩
 obtain ⟨ad, rfl, hcell⟩ := h.2.2 (by omega)
 rw [if_neg (by omega)]
 refine ⟨ad.add i, rfl, fun j hj => ?_⟩
 have ha : (ad.add i).add j = ad.add (i + j) := by
  unfold Addr.add
  by_cases h1 : i = 0 <;> by_cases h2 : j = 0 <;> simp [h1, h2, Nat.add_assoc]
 rw [ha, hcell (i + j) (by omega)]
 simp [List.getD_eq_getElem?_getD, List.getElem?_drop]
end
section
variable {α : Type} {P : Program} {ops : Array Oper} {rest : List Oper} {o : Oper} {a : Act} {Q : Exit → Act → World → Prop}
theorem print_append_row_of {w0 W : World} (enc : α → Value) (d : α) (base : Nat) (hgd : o.guard = none) (s x : Operand) (t e : TypeId) (z : Value) (bytes : Nat)
  (ho : o.op = .call { callee := .builtin .append, args := #[s, x], argTypes := #[t, t] })
  (ht : P.underlying t = some (.slice e)) (hinfo : (P.info? e).map (fun i => (i.zero, i.size, i.bytes)) = some (some z, 1, bytes)) (hz : z.cells.size = 1) (hb0 : 0 < bytes) (h1 : ∀ x : α, (enc x).oneCell' = true)
  (v : Value) (xs ys : List α) (A : Option Addr) (m c : Nat) (hs : a.eval s = v) (hx : a.eval x = .slice A m c)
  (HO : W.ownsRow base e 1 v xs.length (encs enc xs)) (HR : ReadsOf enc d W A m ys) (HB : Below base w0 W) (hbase : base ≤ W.heap.size) (hl : (xs.length + m) * bytes ≤ 140737488355328)
  (h : ∀ v1 w1, w1.ownsRow base e 1 v1 (xs ++ ys).length (encs enc (xs ++ ys)) → Below base w0 w1 → W.grownBy w1 v.ownBlock → (v1.ownBlock = v.ownBlock ∨ ∃ b, v1.ownBlock = some b ∧ W.heap.size ≤ b) → wpList P ops Q rest (a.put o.dst v1) w1) :
  wpList P ops Q (o :: rest) a W := by
 obtain ⟨i0, hi, hzz⟩ := Option.map_eq_some_iff.1 hinfo
 simp only [Prod.mk.injEq] at hzz
 obtain ⟨hz0, hz1, hz2⟩ := hzz
 have hm : ys.length = m := HR.1
 have hlen : xs.length + m ≤ 140737488355328 := Nat.le_trans (Nat.le_mul_of_pos_right _ hb0) hl
 have hrun : ∃ v1 w1, (Builtin.append_ #[t, t] o.type #[v, .slice A m c]).run P W = .ok v1 w1 ∧ w1.ownsRow base e 1 v1 (xs ++ ys).length (encs enc (xs ++ ys)) ∧ W.grownBy w1 v.ownBlock ∧ (v1.ownBlock = v.ownBlock ∨ v1.ownBlock = some W.heap.size) := by
  rcases A with _ | ad
  ·have h0 : m = 0 := by
    rcases Nat.eq_zero_or_pos m with h0 | h0
    ·exact h0
    ·obtain ⟨ad, h, _⟩ := HR.2.2 h0
     cases h
   subst h0
   obtain rfl : ys = [] := List.eq_nil_of_length_eq_zero hm
   refine ⟨v, W, ?_, by simpa using HO, World.grownBy.refl W _, .inl rfl⟩
   rcases HO.2 with ⟨rfl, hn⟩ | ⟨g, cap, cur, rfl, _, _, hnc, _⟩
   ·simp [Builtin.append_, run_underlying ht, sizeOf, typeInfo, hi, Builtin.lenOf, Builtin.firstCells]
   ·simp [Builtin.append_, run_underlying ht, sizeOf, typeInfo, hi, Builtin.lenOf, Builtin.firstCells, hnc, storeCells]
  ·have hcells : ∀ j u, (encs enc ys)[j]? = some u → W.cell? (ad.add j) = some u := by
    intro j u hu
    have hj : j < ys.length := by
     rcases Nat.lt_or_ge j ys.length with h | h
     ·exact h
     ·simp [encs, List.getElem?_eq_none h] at hu
    obtain ⟨ad', h', hc⟩ := HR.2.2 (by omega)
    injection h' with h'
    subst h'
    rw [encs_get (d := d) ys j hj] at hu
    rw [← hu]
    exact hc j (by omega)
   obtain ⟨v1, w1, hr, h2, h3, _, h5⟩ := run_append_own_at (P := P) W base t o.type e i0 z 1 bytes ht hi hz0 hz1 hz2 hz (by omega) v xs.length (encs enc xs) HO ad m c (encs enc ys) (by simp [encs, hm]) hcells
    (by intro u hu; simp only [encs, List.mem_map] at hu; obtain ⟨q, _, rfl⟩ := hu; exact h1 q) (by simp only [maxLen]; omega) hl hbase
   exact ⟨v1, w1, hr, by simpa [encs, hm] using h2, h3, h5⟩
 obtain ⟨v1, w1, hr, hown, hg, hat⟩ := hrun
 refine wpList_plain hgd fun K hK => ?_
 unfold Oper.wp execOp
 simp only [ho, resolve, invoke, builtin, Sem.run_bind, Sem.run_pure, Result.andThen_ok, List.map_toArray, List.map_cons, List.map_nil, hs, hx, hr]
 refine hK _ _ (h v1 w1 hown (HB.grown hg hbase (own_base HO)) hg ?_)
 rcases hat with hat | hat
 ·exact .inl hat
 ·exact .inr ⟨_, hat, Nat.le_refl _⟩
end
theorem own_le {w : World} {base n m c size : Nat} {e : TypeId} {A : Option Addr} {xs : List Value} (h : w.ownsRow base e size (.slice A m c) n xs) : m ≤ c := by
 rcases h.2 with ⟨he, _⟩ | ⟨g, cap, cur, he, _, _, hnc, _⟩
 ·injection he with _ h2 h3
  omega
 ·injection he with _ h2 h3
  omega
def OwnRow {α : Type} (R : α → List Value → Prop) (e : TypeId) (size : Nat) (w : World) (base : Nat) (v : Value) (ps : List α) : Prop :=
 ∃ inner, w.ownsRow base e size v ps.length inner ∧ Reps R size ps inner
section
variable {α : Type} {R R' : α → List Value → Prop} {e : TypeId} {size : Nat} {w w1 : World} {base : Nat} {v : Value} {ps : List α}
theorem OwnRow.none_ (R : α → List Value → Prop) (e : TypeId) (size : Nat) (w : World) (base : Nat) : OwnRow R e size w base (.slice none 0 0) [] := ⟨[], own_nil _ _ _ _, Reps.none _ _⟩
theorem OwnRow.imp_ (h : OwnRow R e size w base v ps) (hR : ∀ p c, R p c → R' p c) : OwnRow R' e size w base v ps := by
 obtain ⟨inner, ho, hr⟩ := h
 exact ⟨inner, ho, hr.imp_ hR⟩
theorem OwnRow.below (h : OwnRow R e size w base v ps) (hb : Below w.heap.size w w1) : OwnRow R e size w1 base v ps := by
 obtain ⟨inner, ho, hr⟩ := h
 exact ⟨inner, pw_own_below ho hb, hr⟩
theorem OwnRow.other (h : OwnRow R e size w base v ps) {row : Option Nat} (hg : w.grownBy w1 row) (hne : v.ownBlock = none ∨ v.ownBlock ≠ row) : OwnRow R e size w1 base v ps := by
 obtain ⟨inner, ho, hr⟩ := h
 exact ⟨inner, own_other ho hg hne, hr⟩
theorem OwnRow.set_ (h : OwnRow R e size w base v ps) {g : Nat} {t : TypeId} {cells : Array Value} (hb : w.heap[g]? = some (.cells cells t (0, 0))) (ht : e ≠ t) (j : Nat) (u : Value) : OwnRow R e size (w.setCell ⟨g, j, none⟩ u) base v ps := by
 obtain ⟨inner, ho, hr⟩ := h
 exact ⟨inner, own_setCell ho (own_ne ho hb ht) u, hr⟩
theorem OwnRow.keep (h : OwnRow R e size w base v ps) {g : Nat} {t : TypeId} {cells : Array Value} (hb : w.heap[g]? = some (.cells cells t (0, 0))) (ht : e ≠ t) (hk : KeepBut w w1 g none) : OwnRow R e size w1 base v ps := by
 obtain ⟨inner, ho, hr⟩ := h
 exact ⟨inner, hk.own ho (Ne.symm (own_ne ho hb ht)) (by cases v.ownBlock <;> simp), hr⟩
theorem OwnRow.lower (h : OwnRow R e size w base v ps) {base' : Nat} (hb : base' ≤ base) : OwnRow R e size w base' v ps := by
 obtain ⟨inner, ho, hr⟩ := h
 exact ⟨inner, own_weaken ho hb, hr⟩
theorem OwnRow.slice_ (h : OwnRow R e size w base v ps) : ∃ A c, v = .slice A ps.length c ∧ ps.length ≤ c := by
 obtain ⟨inner, ho, hr⟩ := h
 obtain ⟨A, c, rfl⟩ := own_slice ho
 exact ⟨A, c, rfl, own_le ho⟩
theorem OwnRow.reads (h : OwnRow R e size w base v ps) : ∃ A c, v = .slice A ps.length c ∧ ps.length ≤ c ∧ ReadsRow R size w A ps.length ps := by
 obtain ⟨inner, ho, hr⟩ := h
 obtain ⟨A, c, rfl, hrow⟩ := own_reads_row ho hr rfl
 exact ⟨A, c, rfl, own_le ho, hrow⟩
theorem OwnRow.ne_block (h : OwnRow R e size w base v ps) {g : Nat} {t : TypeId} {cells : Array Value} (hb : w.heap[g]? = some (.cells cells t (0, 0))) (ht : e ≠ t) : some g ≠ v.ownBlock := by
 obtain ⟨inner, ho, hr⟩ := h
 exact own_ne ho hb ht
theorem OwnRow.lit (W : World) (base : Nat) {inner : List Value} (hr : Reps R size ps inner) (hb : base ≤ W.heap.size) (hm : ps.length ≤ 9223372036854775807) :
  OwnRow R e size (W.alloc (.cells inner.toArray e)) base (.slice (some ⟨W.heap.size, 0, none⟩) ps.length ps.length) ps := by
 have h := World.ownsRow_lit (base := base) (e := e) (size := size) W inner.toArray ps.length hb (by simpa [maxLen] using hm) (by simpa using hr.1)
 exact ⟨inner, by simpa using h, hr⟩
end
section
variable {P : Program} {ops : Array Oper} {rest : List Oper} {o : Oper} {a : Act} {Q : Exit → Act → World → Prop} {α : Type} {R : α → List Value → Prop}
theorem OwnRow.append {w0 W : World} (base : Nat) (hgd : o.guard = none) (s x : Operand) (t e : TypeId) (z : Value) (size bytes : Nat)
  (ho : o.op = .call { callee := .builtin .append, args := #[s, x], argTypes := #[t, t] })
  (ht : P.underlying t = some (.slice e)) (hinfo : (P.info? e).map (fun i => (i.zero, i.size, i.bytes)) = some (some z, size, bytes)) (hz : z.cells.size = size) (hs0 : 0 < size) (hb0 : 0 < bytes)
  (v : Value) (ps : List α) (p : α) (cs : List Value) (hs : a.eval s = v) (hx : a.eval x = .slice (some ⟨W.heap.size, 0, none⟩) 1 1) (hp : R p cs) (hcs : cs.length = size) (h1 : ∀ u ∈ cs, u.oneCell' = true)
  (HO : OwnRow R e size W base v ps) (HB : Below base w0 W) (hbase : base ≤ W.heap.size) (hl : (ps.length + 1) * bytes ≤ 140737488355328)
  (h : ∀ v1 w1, OwnRow R e size w1 base v1 (ps ++ [p]) → Below base w0 w1 → W.grownBy w1 v.ownBlock → (v1.ownBlock = v.ownBlock ∨ ∃ b, v1.ownBlock = some b ∧ W.heap.size ≤ b) → wpList P ops Q rest (a.put o.dst v1) w1) :
  wpList P ops Q (o :: rest) a (W.alloc (.cells cs.toArray e)) := by
 obtain ⟨inner, hown, hr⟩ := HO
 refine print_append_cells base hgd s x t e z size bytes ho ht hinfo hz hs0 hb0 v ps.length inner cs hs hx hcs h1 hown HB hbase hl ?_
 intro v1 w1 hown1 hb1 hg1 hat1
 exact h v1 w1 ⟨inner ++ cs, by rw [List.length_append, List.length_singleton]; exact hown1, hr.snoc hp hcs⟩ hb1 hg1 hat1
end
section
variable {P : Program} {ops : Array Oper} {o : Oper} {a : Act} {Q : Exit → Act → World → Prop} {K : Act → World → Prop} {α : Type} {R : α → List Value → Prop}
theorem OwnRow.append_step {w0 W : World} (base : Nat) (hw : Region.wanted o (yielded ops a.tmps) = true) (s x : Operand) (t e : TypeId) (z : Value) (size bytes : Nat)
  (ho : o.op = .call { callee := .builtin .append, args := #[s, x], argTypes := #[t, t] })
  (ht : P.underlying t = some (.slice e)) (hinfo : (P.info? e).map (fun i => (i.zero, i.size, i.bytes)) = some (some z, size, bytes)) (hz : z.cells.size = size) (hs0 : 0 < size) (hb0 : 0 < bytes)
  (v : Value) (ps : List α) (p : α) (cs : List Value) (hs : a.eval s = v) (hx : a.eval x = .slice (some ⟨W.heap.size, 0, none⟩) 1 1) (hp : R p cs) (hcs : cs.length = size) (h1 : ∀ u ∈ cs, u.oneCell' = true)
  (HO : OwnRow R e size W base v ps) (HB : Below base w0 W) (hbase : base ≤ W.heap.size) (hl : (ps.length + 1) * bytes ≤ 140737488355328)
  (h : ∀ v1 w1, OwnRow R e size w1 base v1 (ps ++ [p]) → Below base w0 w1 → W.grownBy w1 v.ownBlock → (v1.ownBlock = v.ownBlock ∨ ∃ b, v1.ownBlock = some b ∧ W.heap.size ≤ b) → K (a.put o.dst v1) w1) :
  if Region.wanted o (yielded ops a.tmps) = true then Oper.wp P o a (W.alloc (.cells cs.toArray e)) K Q else K (a.put o.dst undef) (W.alloc (.cells cs.toArray e)) := by
 obtain ⟨inner, hown, hr⟩ := HO
 refine step_append_cells base hw s x t e z size bytes ho ht hinfo hz hs0 hb0 v ps.length inner cs hs hx hcs h1 hown HB hbase hl ?_
 intro v1 w1 hown1 hb1 hg1 hat1
 exact h v1 w1 ⟨inner ++ cs, by rw [List.length_append, List.length_singleton]; exact hown1, hr.snoc hp hcs⟩ hb1 hg1 hat1
end
theorem ReadsRow.inner_ {α : Type} {R : α → List Value → Prop} {size : Nat} {w : World} {ad : Addr} {n : Nat} {ps : List α} (h : ReadsRow R size w (some ad) n ps) :
  ∃ inner, Reps R size ps inner ∧ ∀ j u, inner[j]? = some u → w.cell? (ad.add j) = some u := by
 have key : ∀ m, m ≤ ps.length → ∃ inner, Reps R size (ps.take m) inner ∧ ∀ j u, inner[j]? = some u → w.cell? (ad.add j) = some u := by
  intro m
  induction m with
  | zero => exact fun _ => ⟨[], Reps.none _ _, fun j u hu => by simp at hu⟩
  | succ m ih =>
   intro hm
   obtain ⟨inner, hr, hc⟩ := ih (by omega)
   obtain ⟨ad', he, hcell⟩ := h.2.2 (by have := h.1; omega)
   injection he with he
   subst he
   obtain ⟨c, hcl, hp, hcc⟩ := hcell m _ (List.getElem?_eq_getElem (show m < ps.length by omega))
   refine ⟨inner ++ c, ?_, fun j u hu => ?_⟩
   ·rw [List.take_succ_eq_append_getElem (show m < ps.length by omega)]
    exact hr.snoc hp hcl
   ·have hil : inner.length = m * size := by rw [hr.1, List.length_take, Nat.min_eq_left (by omega)]
    rcases Nat.lt_or_ge j inner.length with hj | hj
    ·rw [List.getElem?_append_left hj] at hu
     exact hc j u hu
    ·rw [List.getElem?_append_right hj] at hu
     have := hcc (j - inner.length) u hu
     rwa [hil, Nat.add_sub_cancel' (by omega)] at this
 obtain ⟨inner, hr, hc⟩ := key ps.length (Nat.le_refl _)
 rw [List.take_length] at hr
 exact ⟨inner, hr, hc⟩
section
variable {α : Type} {P : Program}
theorem ReadsOf.len_ {enc : α → Value} {d : α} {w : World} {A : Option Addr} {n : Nat} {xs : List α} (h : ReadsOf enc d w A n xs) : ReadsOf enc d w A xs.length xs := by rw [h.1]; exact h
end
structure Kd (α : Type) where
 sz : Nat
 E : List Nat
 K : World → α → List Value → Prop
 M : World → Nat → (Nat → Prop) → α → List Value → Prop
 K_len : ∀ {w x cs}, K w x cs → cs.length = sz
 K_one : ∀ {w x cs}, K w x cs → ∀ u ∈ cs, u.oneCell' = true
 K_below : ∀ {w w1 : World} {x cs}, Below w.heap.size w w1 → K w x cs → K w1 x cs
 K_of_M : ∀ {w base ok x cs}, M w base ok x cs → K w x cs
 M_mono : ∀ {w base ok ok' x cs}, (∀ k, ok k → ok' k) → M w base ok x cs → M w base ok' x cs
 M_bound : ∀ {w : World} {base ok x cs}, M w base ok x cs → M w base (fun k => ok k ∧ base ≤ k ∧ k < w.heap.size ∧ ∃ q, q ∈ E ∧ ∃ cells, w.heap[k]? = some (.cells cells q (0, 0))) x cs
 M_move : ∀ {w w1 : World} {base ok x cs}, (∀ k, ok k → w1.heap[k]? = w.heap[k]?) → M w base ok x cs → M w1 base ok x cs
 M_lower : ∀ {w base base' ok x cs}, base' ≤ base → M w base ok x cs → M w base' ok x cs
theorem own_move {w w1 : World} {base : Nat} {e : TypeId} {size n : Nat} {v : Value} {xs : List Value} (h : w.ownsRow base e size v n xs) (hm : ∀ k, v.ownBlock = some k → w1.heap[k]? = w.heap[k]?) : w1.ownsRow base e size v n xs := by
 obtain ⟨h1, h2⟩ := h
 refine ⟨h1, ?_⟩
 rcases h2 with h2 | ⟨g, cap, cur, rfl, hg, hh, r⟩
 ·exact .inl h2
 ·exact .inr ⟨g, cap, cur, rfl, hg, (hm g (by simp [Value.ownBlock])).trans hh, r⟩
theorem own_typed {w : World} {base : Nat} {e : TypeId} {size n : Nat} {v : Value} {xs : List Value} (h : w.ownsRow base e size v n xs) (k : Nat) (hk : v.ownBlock = some k) : ∃ cells, w.heap[k]? = some (.cells cells e (0, 0)) := by
 rcases h.2 with ⟨rfl, _⟩ | ⟨g, cap, cur, rfl, hg, hh, r⟩
 ·simp [Value.ownBlock] at hk
 ·have : g = k := by simpa [Value.ownBlock] using hk
  subst this
  exact ⟨cur, hh⟩
namespace Kd
def C {α : Type} (d : Kd α) (w : World) (A : Option Addr) (n : Nat) (xs : List α) : Prop := ReadsRow (d.K w) d.sz w A n xs
def R {α : Type} (d : Kd α) (e : Nat) (w : World) (base : Nat) (ok : Nat → Prop) (v : Value) (xs : List α) : Prop :=
 (∀ k, v.ownBlock = some k → ok k) ∧ OwnRow (d.M w base (fun k => ok k ∧ some k ≠ v.ownBlock)) e d.sz w base v xs
section
variable {α : Type} {d : Kd α} {e : Nat} {w w1 : World} {base : Nat} {ok ok' : Nat → Prop} {v : Value} {xs : List α}
theorem C_below {A : Option Addr} {n : Nat} (h : d.C w A n xs) (hb : Below w.heap.size w w1) : d.C w1 A n xs := ReadsRow.imp_ h hb (fun _ _ hp => d.K_below hb hp)
theorem R_mono (h : d.R e w base ok v xs) (hok : ∀ k, ok k → ok' k) : d.R e w base ok' v xs := ⟨fun k hk => hok k (h.1 k hk), h.2.imp_ (fun _ _ hp => d.M_mono (fun k hk => ⟨hok k hk.1, hk.2⟩) hp)⟩
theorem R_bound (h : d.R e w base ok v xs) : d.R e w base (fun k => ok k ∧ base ≤ k ∧ k < w.heap.size ∧ ∃ q, q ∈ e :: d.E ∧ ∃ cells, w.heap[k]? = some (.cells cells q (0, 0))) v xs := by
 obtain ⟨h0, inner, ho, hr⟩ := h
 refine ⟨fun k hk => ?_, inner, ho, hr.imp_ (fun _ _ hp => d.M_mono (fun k hk => ?_) (d.M_bound hp))⟩
 ·obtain ⟨cells, hc⟩ := own_typed ho k hk
  exact ⟨h0 k hk, own_base ho k hk, own_lt ho k hk, e, List.mem_cons_self, cells, hc⟩
 ·obtain ⟨⟨h1, h2⟩, h3, h4, q, hq, hc⟩ := hk
  exact ⟨⟨h1, h3, h4, q, List.mem_cons_of_mem _ hq, hc⟩, h2⟩
theorem R_move (h : d.R e w base ok v xs) (hm : ∀ k, ok k → w1.heap[k]? = w.heap[k]?) : d.R e w1 base ok v xs := by
 obtain ⟨h0, inner, ho, hr⟩ := h
 exact ⟨h0, inner, own_move ho (fun k hk => hm k (h0 k hk)), hr.imp_ (fun _ _ hp => d.M_move (fun k hk => hm k hk.1) hp)⟩
theorem R_lower {base' : Nat} (h : d.R e w base ok v xs) (hb : base' ≤ base) : d.R e w base' ok v xs := by
 obtain ⟨h0, inner, ho, hr⟩ := h
 exact ⟨h0, inner, own_weaken ho hb, hr.imp_ (fun _ _ hp => d.M_lower hb hp)⟩
theorem R_reads (h : d.R e w base ok v xs) : ∃ A c, v = .slice A xs.length c ∧ xs.length ≤ c ∧ d.C w A xs.length xs := by
 obtain ⟨A, c, he, hl, hr⟩ := OwnRow.reads h.2
 exact ⟨A, c, he, hl, hr.imp_ (Below.refl _ _) (fun _ _ hp => d.K_of_M hp)⟩
end
def scalar {α : Type} (enc : α → Value) (h1 : ∀ x, (enc x).oneCell' = true) : Kd α where
 sz := 1
 E := []
 K := fun _ x cs => cs = [enc x]
 M := fun _ _ _ x cs => cs = [enc x]
 K_len := fun h => by rw [h]; rfl
 K_one := fun h u hu => by
  rw [h] at hu
  rw [List.mem_singleton.1 hu]
  exact h1 _
 K_below := fun _ h => h
 K_of_M := fun h => h
 M_mono := fun _ h => h
 M_bound := fun h => h
 M_move := fun _ h => h
 M_lower := fun _ h => h
def int (k : IntKind) : Kd Int := scalar (Value.int k) (fun _ => rfl)
def bool : Kd Bool := scalar Value.bool (fun _ => rfl)
def string : Kd ByteArray := scalar Value.string (fun _ => rfl)
def slice {α : Type} (e : Nat) (d : Kd α) : Kd (List α) where
 sz := 1
 E := e :: d.E
 K := fun w xs cs => ∃ A c, cs = [.slice A xs.length c] ∧ xs.length ≤ c ∧ d.C w A xs.length xs
 M := fun w base ok xs cs => ∃ v, cs = [v] ∧ d.R e w base ok v xs
 K_len := by
  rintro w x cs ⟨A, c, rfl, _⟩
  rfl
 K_one := by
  rintro w x cs ⟨A, c, rfl, _⟩ u hu
  rw [List.mem_singleton.1 hu]
  rfl
 K_below := by
  rintro w w1 x cs hb ⟨A, c, rfl, hl, hr⟩
  exact ⟨A, c, rfl, hl, C_below hr hb⟩
 K_of_M := by
  rintro w base ok x cs ⟨v, rfl, h⟩
  obtain ⟨A, c, rfl, hl, hr⟩ := R_reads h
  exact ⟨A, c, rfl, hl, hr⟩
 M_mono := by
  rintro w base ok ok' x cs hok ⟨v, rfl, h⟩
  exact ⟨v, rfl, R_mono h hok⟩
 M_bound := by
  rintro w base ok x cs ⟨v, rfl, h⟩
  exact ⟨v, rfl, R_bound h⟩
 M_move := by
  rintro w w1 base ok x cs hm ⟨v, rfl, h⟩
  exact ⟨v, rfl, R_move h hm⟩
 M_lower := by
  rintro w base base' ok x cs hb ⟨v, rfl, h⟩
  exact ⟨v, rfl, R_lower h hb⟩
def pair {α β : Type} (a : Kd α) (b : Kd β) : Kd (α × β) where
 sz := a.sz + b.sz
 E := a.E ++ b.E
 K := fun w x cs => ∃ c0 c1, cs = c0 ++ c1 ∧ a.K w x.1 c0 ∧ b.K w x.2 c1
 M := fun w base ok x cs => ∃ c0 c1, cs = c0 ++ c1 ∧ a.M w base ok x.1 c0 ∧ b.M w base ok x.2 c1
 K_len := by
  rintro w x cs ⟨c0, c1, rfl, h0, h1⟩
  rw [List.length_append, a.K_len h0, b.K_len h1]
 K_one := by
  rintro w x cs ⟨c0, c1, rfl, h0, h1⟩ u hu
  rcases List.mem_append.1 hu with hu | hu
  ·exact a.K_one h0 u hu
  ·exact b.K_one h1 u hu
 K_below := by
  rintro w w1 x cs hb ⟨c0, c1, rfl, h0, h1⟩
  exact ⟨c0, c1, rfl, a.K_below hb h0, b.K_below hb h1⟩
 K_of_M := by
  rintro w base ok x cs ⟨c0, c1, rfl, h0, h1⟩
  exact ⟨c0, c1, rfl, a.K_of_M h0, b.K_of_M h1⟩
 M_mono := by
  rintro w base ok ok' x cs hok ⟨c0, c1, rfl, h0, h1⟩
  exact ⟨c0, c1, rfl, a.M_mono hok h0, b.M_mono hok h1⟩
 M_bound := by
  rintro w base ok x cs ⟨c0, c1, rfl, h0, h1⟩
  refine ⟨c0, c1, rfl, a.M_mono ?_ (a.M_bound h0), b.M_mono ?_ (b.M_bound h1)⟩
  ·rintro k ⟨h2, h3, h4, q, hq, hc⟩
   exact ⟨h2, h3, h4, q, List.mem_append_left _ hq, hc⟩
  ·rintro k ⟨h2, h3, h4, q, hq, hc⟩
   exact ⟨h2, h3, h4, q, List.mem_append_right _ hq, hc⟩
 M_move := by
  rintro w w1 base ok x cs hm ⟨c0, c1, rfl, h0, h1⟩
  exact ⟨c0, c1, rfl, a.M_move hm h0, b.M_move hm h1⟩
 M_lower := by
  rintro w base base' ok x cs hb ⟨c0, c1, rfl, h0, h1⟩
  exact ⟨c0, c1, rfl, a.M_lower hb h0, b.M_lower hb h1⟩
def iso {α β : Type} (d : Kd α) (f : β → α) : Kd β where
 sz := d.sz
 E := d.E
 K := fun w x cs => d.K w (f x) cs
 M := fun w base ok x cs => d.M w base ok (f x) cs
 K_len := d.K_len
 K_one := d.K_one
 K_below := d.K_below
 K_of_M := d.K_of_M
 M_mono := d.M_mono
 M_bound := d.M_bound
 M_move := d.M_move
 M_lower := d.M_lower
def bot {α : Type} (sz : Nat) (E : List Nat) : Kd α where
 sz := sz
 E := E
 K := fun _ _ _ => False
 M := fun _ _ _ _ _ => False
 K_len := fun h => h.elim
 K_one := fun h => h.elim
 K_below := fun _ h => h
 K_of_M := fun h => h
 M_mono := fun _ h => h
 M_bound := fun h => h
 M_move := fun _ h => h
 M_lower := fun _ h => h
def upto {α : Type} (F : Kd α → Kd α) (sz : Nat) (E : List Nat) : Nat → Kd α
 | 0 => bot sz E
 | n + 1 => F (upto F sz E n)
theorem reps_scalar {α : Type} {enc : α → Value} (xs : List α) : Reps (fun (x : α) (cs : List Value) => cs = [enc x]) 1 xs (encs enc xs) := by
 refine ⟨by simp [encs], fun j p hj => ?_⟩
 obtain ⟨hl, hp⟩ := List.getElem?_eq_some_iff.1 hj
 have hl' : j < (encs enc xs).length := by rw [encs_length]; exact hl
 rw [Nat.mul_one, List.drop_eq_getElem_cons hl']
 simp [encs, hp]
theorem R_of_own {α : Type} {enc : α → Value} {h1 : ∀ x, (enc x).oneCell' = true} {e : Nat} {w : World} {base : Nat} {ok : Nat → Prop} {v : Value} {xs : List α} (ho : w.ownsRow base e 1 v xs.length (encs enc xs)) (hok : ∀ k, v.ownBlock = some k → ok k) : (scalar enc h1).R e w base ok v xs := ⟨hok, encs enc xs, ho, reps_scalar xs⟩
theorem own_of_R {α : Type} {enc : α → Value} {h1 : ∀ x, (enc x).oneCell' = true} {e : Nat} {w : World} {base : Nat} {ok : Nat → Prop} {v : Value} {xs : List α} (h : (scalar enc h1).R e w base ok v xs) : w.ownsRow base e 1 v xs.length (encs enc xs) := by
 obtain ⟨_, inner, ho, hr⟩ := h
 have : inner = encs enc xs := by
  apply List.ext_getElem?
  intro j
  rcases Nat.lt_or_ge j xs.length with hj | hj
  ·have h2 := hr.2 j _ (List.getElem?_eq_getElem hj)
   have hl : j < inner.length := by have := hr.1; simp [scalar] at this; omega
   have h3 : (inner.drop (j * 1)).take 1 = [enc xs[j]] := h2
   rw [Nat.mul_one, List.drop_eq_getElem_cons hl] at h3
   have h4 : inner[j] = enc xs[j] := by
    have h5 := congrArg List.head? h3
    rw [List.take_succ_cons] at h5
    exact Option.some.inj h5
   rw [List.getElem?_eq_getElem hl, h4]
   simp [encs, List.getElem?_eq_getElem hj]
  ·have h3 : inner.length = xs.length := by have := hr.1; simp [scalar] at this; omega
   rw [List.getElem?_eq_none (by omega), List.getElem?_eq_none (by rw [encs_length]; omega)]
 rw [← this]
 exact ho
theorem reads_of_C {α : Type} {enc : α → Value} {d : α} {h1 : ∀ x, (enc x).oneCell' = true} {w : World} {A : Option Addr} {n : Nat} {xs : List α} (h : (scalar enc h1).C w A n xs) : ReadsOf enc d w A n xs := by
 refine ⟨h.1, h.2.1, fun hn => ?_⟩
 obtain ⟨ad, e, hc⟩ := h.2.2 hn
 refine ⟨ad, e, fun j hj => ?_⟩
 have hl : j < xs.length := by have := h.1; omega
 obtain ⟨c, _, hK, hcell⟩ := hc j _ (List.getElem?_eq_getElem hl)
 have hK' : c = [enc xs[j]] := hK
 subst hK'
 have := hcell 0 _ rfl
 simpa [scalar, List.getD_eq_getElem?_getD, List.getElem?_eq_getElem hl] using this
end Kd
namespace Kd
end Kd
namespace Kd
end Kd
namespace Kd
section
variable {w W : World} {A : Option Addr} {n : Nat}
theorem at_int {k : IntKind} {xs : List Int} (h : (Kd.int k).C w A n xs) (i : Int) (h0 : 0 ≤ i) (h1 : i < n) : ∃ ad, A = some ad ∧ w.cell? (ad.add i.toNat) = some (.int k (rd xs i)) :=
 ReadsOf.at_ (reads_of_C (enc := Value.int k) (d := (0 : Int)) (h1 := fun _ => rfl) h) i h0 h1
variable {α : Type} {enc : α → Value} {h1 : ∀ x, (enc x).oneCell' = true} {e base g cap : Nat} {ok : Nat → Prop} {xs : List α}
end
end Kd
def QRow (w : World) (base : Nat) (e : TypeId) (size : Nat) (v : Value) (n : Nat) (xs : List Value) : Prop :=
  xs.length = n * size ∧
  ((n = 0 ∧ ∃ A, v = .slice A 0 0 ∧ ∀ a, A = some a → base ≤ a.block ∧ ∃ cur, w.heap[a.block]? = some (.cells cur e (0, 0))) ∨
   ∃ g off cap cur, v = .slice (some ⟨g, off * size, none⟩) n cap ∧ base ≤ g ∧ w.heap[g]? = some (.cells cur e (0, 0)) ∧ n ≤ cap ∧ off + cap ≤ maxLen ∧ cur.size = (off + cap) * size ∧ (cur.toList.drop (off * size)).take (n * size) = xs)
namespace Kd
def Q {α : Type} (d : Kd α) (e : Nat) (w : World) (base : Nat) (ok : Nat → Prop) (v : Value) (xs : List α) : Prop :=
 (∀ k, v.ownBlock = some k → ok k) ∧ ∃ inner, QRow w base e d.sz v xs.length inner ∧ Reps (d.M w base (fun k => ok k ∧ some k ≠ v.ownBlock)) d.sz xs inner
end Kd
namespace Kd
end Kd
theorem seg_get {α : Type} (a seg : List α) (o : Nat) (h : o + seg.length ≤ a.length) (q : Nat) :
  (a.take o ++ seg ++ a.drop (o + seg.length))[q]? = if q < o then a[q]? else if q < o + seg.length then seg[q - o]? else a[q]? := by
 have hl : (a.take o).length = o := by rw [List.length_take]; omega
 rw [List.append_assoc]
 by_cases h1 : q < o
 ·rw [if_pos h1, List.getElem?_append_left (by omega), List.getElem?_take, if_pos h1]
 ·rw [if_neg h1, List.getElem?_append_right (by omega), hl]
  by_cases h2 : q < o + seg.length
  ·rw [if_pos h2, List.getElem?_append_left (by omega)]
  ·rw [if_neg h2, List.getElem?_append_right (by omega), List.getElem?_drop]
   congr 1
   omega
namespace Kd
end Kd
namespace Kd
end Kd
namespace Kd
end Kd
namespace Kd
end Kd
theorem add_add (a : Addr) (i j : Nat) : (a.add i).add j = a.add (i + j) := by
 unfold Addr.add
 by_cases h1 : i = 0 <;> by_cases h2 : j = 0 <;> simp [h1, h2, Nat.add_assoc]
namespace Kd
end Kd
theorem string_of_reads {P : Program} {w : World} {src dst e : TypeId} {A : Option Addr} {n c : Nat} {xs : List Int} (hs : P.underlying src = some (.slice e)) (he : P.underlying e = some (.int .u8)) (hd : P.underlying dst = some .string)
  (h : ReadsInt w .u8 A n xs) : (convert src dst (.slice A n c)).run P w = .ok (.string (strOfNums xs)) w := by
 have hn : xs.length = n := h.1
 rcases A with _ | ad
 ·have h0 : n = 0 := by
   rcases Nat.eq_zero_or_pos n with h0 | h0
   ·exact h0
   ·obtain ⟨ad, h', _⟩ := h.2.2 h0
    cases h'
  subst h0
  obtain rfl : xs = [] := List.eq_nil_of_length_eq_zero hn
  exact run_convert_bytes_nil w src e hs he 0 c dst hd
 ·have hl : (loadCells ad n).run P w = .ok (xs.map (Value.int .u8)).toArray w := by
   have := run_loadCells_list (P := P) w ad (xs.map (Value.int .u8)) (fun j v hj => by
    have hjl : j < xs.length := by
     rcases Nat.lt_or_ge j xs.length with h' | h'
     ·exact h'
     ·rw [List.getElem?_eq_none (by rw [List.length_map]; exact h')] at hj
      cases hj
    obtain ⟨ad', he', hc⟩ := h.2.2 (by omega)
    injection he' with he'
    subst he'
    rw [hc j (by omega)]
    rw [List.getElem?_map, List.getElem?_eq_getElem hjl] at hj
    simp at hj
    subst hj
    simp [List.getD_eq_getElem?_getD, List.getElem?_eq_getElem hjl])
   simpa [hn] using this
  rw [run_convert_bytes_string w src dst e _ n c hs he hd, run_bytesToString w ad n c xs hl, foldl_push_bytes]
  simp [strOfNums, ByteArray.empty, ByteArray.emptyWithCapacity]
  rfl
theorem Kd.C_string {P : Program} {w : World} {src dst e : TypeId} {A : Option Addr} {n c : Nat} {xs : List Int} (hs : P.underlying src = some (.slice e)) (he : P.underlying e = some (.int .u8)) (hd : P.underlying dst = some .string)
  (h : (Kd.int .u8).C w A n xs) : (convert src dst (.slice A n c)).run P w = .ok (.string (strOfNums xs)) w :=
 string_of_reads hs he hd (Kd.reads_of_C (enc := Value.int .u8) (d := (0 : Int)) (h1 := fun _ => rfl) h)
theorem below_step {w W w2 : World} (h : Below w.heap.size w W) (k : Below W.heap.size W w2) : Below w.heap.size w w2 := below_then h h.size k
theorem ReadsInt.nil (W : World) (k : IntKind) : ReadsInt W k none ([] : List Int).length [] := ⟨rfl, by simp, fun h => absurd h (Nat.lt_irrefl 0)⟩
theorem ReadsInt.drewN {W : World} {k : IntKind} {A : Option Addr} {n : Nat} {xs : List Int} (h : ReadsInt W k A n xs) (m : Nat) : ReadsInt (W.drewN m) k A n xs := h
theorem ReadsInt.allocS {W : World} {k : IntKind} {A : Option Addr} {n : Nat} {xs : List Int} (h : ReadsInt W k A n xs) (o : Obj) : ReadsInt (W.alloc o) k A n xs := h.below (below_alloc (Below.refl _ _) o)
theorem ReadsInt.ofRow {k : IntKind} {w : World} {a : Option Addr} {len cap : Nat} {zs : List Int} (h : (a = none ∧ len = 0 ∧ cap = 0 ∧ zs = []) ∨ ∃ x, a = some x ∧ len ≤ cap ∧ cap ≤ maxLen ∧ zs.length = cap ∧ (∀ i, i < zs.length → w.cell? (x.add i) = some (.int k (zs.getD i 0))) ∧ ∀ n ∈ zs, (Lit.int k n).wf = true) :
  ∃ l : List Int, len = l.length ∧ ReadsInt w k a l.length l ∧ l.length ≤ maxLen ∧ ∀ x ∈ l, (Lit.int k x).wf = true := by
 rcases h with ⟨rfl, rfl, rfl, rfl⟩ | ⟨x, rfl, hl, hm, hz, hc, hw⟩
 ·exact ⟨[], rfl, ReadsInt.nil _ _, Nat.zero_le _, fun x hx => by simp at hx⟩
 ·have e : (zs.take len).length = len := by simp; omega
  have hm' : len ≤ maxLen := Nat.le_trans hl hm
  refine ⟨zs.take len, e.symm, ⟨rfl, by rw [e]; simpa [maxLen] using hm', fun _ => ⟨x, rfl, fun j hj => ?_⟩⟩, by rw [e]; exact hm', fun y hy => hw y (List.mem_of_mem_take hy)⟩
  rw [e] at hj
  rw [hc j (by omega)]
  simp [List.getD, List.getElem?_take, hj]
theorem keep_cell {w W : World} {g : Nat} (h : KeepBut w W g none) {a : Addr} {v : Value} (hc : w.cell? a = some v) (hne : a.block ≠ g) : W.cell? a = some v := by
 have := h.2 a.block (World.block_lt_of_cell? w a hc) hne (by simp)
 simpa [World.cell?, this] using hc
theorem add_block (a : Addr) (i : Nat) : (a.add i).block = a.block := by unfold Addr.add; split <;> rfl
theorem ReadsOf.nil {α : Type} (enc : α → Value) (d : α) (W : World) : ReadsOf enc d W none ([] : List α).length [] := ⟨rfl, by simp, fun h => absurd h (Nat.lt_irrefl 0)⟩
theorem ReadsOf.drewN {α : Type} {enc : α → Value} {d : α} {W : World} {A : Option Addr} {n : Nat} {xs : List α} (h : ReadsOf enc d W A n xs) (m : Nat) : ReadsOf enc d (W.drewN m) A n xs := h
theorem ReadsOf.allocS {α : Type} {enc : α → Value} {d : α} {W : World} {A : Option Addr} {n : Nat} {xs : List α} (h : ReadsOf enc d W A n xs) (o : Obj) : ReadsOf enc d (W.alloc o) A n xs := h.below (below_alloc (Below.refl _ _) o)
theorem ReadsInt.keep {w W : World} {k : IntKind} {A : Option Addr} {n g : Nat} {xs : List Int} (h : ReadsInt w k A n xs) (hk : KeepBut w W g none) (hf : ∀ ad, A = some ad → 0 < n → ad.block ≠ g) : ReadsInt W k A n xs :=
 ⟨h.1, h.2.1, fun hn => by
  obtain ⟨ad, e, hc⟩ := h.2.2 hn
  exact ⟨ad, e, fun j hj => keep_cell hk (hc j hj) (by rw [add_block]; exact hf ad e hn)⟩⟩
theorem ReadsOf.keep {α : Type} {enc : α → Value} {d : α} {w W : World} {A : Option Addr} {n g : Nat} {xs : List α} (h : ReadsOf enc d w A n xs) (hk : KeepBut w W g none) (hf : ∀ ad, A = some ad → 0 < n → ad.block ≠ g) : ReadsOf enc d W A n xs :=
 ⟨h.1, h.2.1, fun hn => by
  obtain ⟨ad, e, hc⟩ := h.2.2 hn
  exact ⟨ad, e, fun j hj => keep_cell hk (hc j hj) (by rw [add_block]; exact hf ad e hn)⟩⟩
theorem ReadsInt.ofRowC {k : IntKind} {w : World} {a : Option Addr} {len cap : Nat} {zs : List Int} (h : (a = none ∧ len = 0 ∧ cap = 0 ∧ zs = []) ∨ ∃ x, a = some x ∧ len ≤ cap ∧ cap ≤ maxLen ∧ zs.length = cap ∧ (∀ i, i < zs.length → w.cell? (x.add i) = some (.int k (zs.getD i 0))) ∧ ∀ n ∈ zs, (Lit.int k n).wf = true) :
  ∃ l : List Int, len = l.length ∧ ReadsInt w k a l.length l ∧ l.length ≤ maxLen ∧ (∀ x ∈ l, (Lit.int k x).wf = true) ∧ l.length ≤ cap := by
 have hl : len ≤ cap := by
  rcases h with ⟨_, rfl, rfl, _⟩ | ⟨_, _, h, _⟩
  ·exact Nat.le_refl _
  ·exact h
 obtain ⟨l, e, h1, h2, h3⟩ := ReadsInt.ofRow h
 exact ⟨l, e, h1, h2, h3, e ▸ hl⟩
namespace Kd
end Kd
namespace Kd
section
variable {α : Type} {d : Kd α} {e base g : Nat} {ok : Nat → Prop} {w w1 : World} {v : Value} {xs : List α} {o : Obj}
theorem freshB (hb : w.heap[g]? = some o) : ∀ k, w.heap.size ≤ k → k ≠ g := fun k hk => by have := blk_lt hb; omega
end
end Kd
section
variable {P : Program} {ops : Array Oper} {rest : List Oper} {o : Oper} {a : Act} {Q : Exit → Act → World → Prop}
theorem Kd.R_append_row {α : Type} (enc : α → Value) (d : α) {h1 : ∀ x : α, (enc x).oneCell' = true} {w0 W : World} (base : Nat) (hgd : o.guard = none) (s x : Operand) (t e : TypeId) (z : Value) (bytes : Nat)
  (ho : o.op = .call { callee := .builtin .append, args := #[s, x], argTypes := #[t, t] })
  (ht : P.underlying t = some (.slice e)) (hinfo : (P.info? e).map (fun i => (i.zero, i.size, i.bytes)) = some (some z, 1, bytes)) (hz : z.cells.size = 1) (hb0 : 0 < bytes)
  (v : Value) (xs ys : List α) (A : Option Addr) (m c : Nat) (ok : Nat → Prop) (hs : a.eval s = v) (hx : a.eval x = .slice A m c) (hfresh : ∀ k, W.heap.size ≤ k → ok k)
  (HO : (Kd.scalar enc h1).R e W base ok v xs) (HR : (Kd.scalar enc h1).C W A m ys) (HB : Below base w0 W) (hbase : base ≤ W.heap.size) (hl : (xs.length + m) * bytes ≤ 140737488355328)
  (h : ∀ v1 w1, (Kd.scalar enc h1).R e w1 base ok v1 (xs ++ ys) → Below base w0 w1 → W.grownBy w1 v.ownBlock → (v1.ownBlock = v.ownBlock ∨ ∃ b, v1.ownBlock = some b ∧ W.heap.size ≤ b) → wpList P ops Q rest (a.put o.dst v1) w1) :
  wpList P ops Q (o :: rest) a W := by
 refine print_append_row_of (w0 := w0) enc d base hgd s x t e z bytes ho ht hinfo hz hb0 h1 v xs ys A m c hs hx (Kd.own_of_R HO) (Kd.reads_of_C (d := d) HR) HB hbase hl ?_
 intro v1 w1 hown hb hg hat
 refine h v1 w1 (Kd.R_of_own hown (fun k hk => ?_)) hb hg hat
 rcases hat with e1 | ⟨b, e1, hbb⟩
 ·exact HO.1 k (by rw [← e1]; exact hk)
 ·rw [e1] at hk
  injection hk with hk
  subst hk
  exact hfresh _ hbb
end
namespace Kd
end Kd
namespace Kd
end Kd
section
variable {P : Program} {ops : Array Oper} {o : Oper} {a : Act} {Q : Exit → Act → World → Prop} {Kc : Act → World → Prop}
namespace Kd
variable {α : Type}
end Kd
end
namespace Kd
end Kd
end Go.Proofs.YtommeljlfkmpjaaDoorW.PrintWords
namespace Go.Proofs.YtommeljlfkmpjaaDoor
open Go.RowKit Go.ChangeShapes Go.WideShapes Go.ChangeAt Go.Proofs.YtommeljlfkmpjaaDoorW.PrintWords
theorem add_add (a : Addr) (m n : Nat) : (a.add m).add n = a.add (m + n) := by
 unfold Addr.add
 by_cases h1 : m = 0 <;> by_cases h2 : n = 0 <;> simp [h1, h2]
 omega
end Go.Proofs.YtommeljlfkmpjaaDoor
namespace Go.Proofs.YtommeljlfkmpjaaDoor
def wideR (ro : Option Nat) : Fence := { Fence.wide with round := ro }
theorem callsIn_wideR {ro : Option Nat} {n : Nat} {P : Program} {f : FuncId} {args : Array Value} {w : World} {R : Ending → World → Prop} (h : Calls P f args w R) : CallsIn (wideR ro) n P f args w R := callsIn_wide.2 h
def isDefer : Op → Bool
 | .defer _ => true
 | _ => false
section
variable {P : Program} {b : Frame} {a : Act} {k : List Item} {cs : List Frame} {w : World}
theorem stepR_scope {c : Code} : step P (lone (b.atR a (.code (.scope c) :: k)) cs w) = .next (lone (b.atR a (.code c :: .inScope c :: k)) cs w) :=
 step_lone_go (by simp [stepG, stepG.exec, Frame.atR])
theorem stepR_inScope {c : Code} : step P (lone (b.atR a (.inScope c :: k)) cs w) = .next (lone (b.atR a k) cs w) :=
 step_lone_go (by simp [stepG, stepG.exec, Frame.atR])
theorem wpIn_scope_straight {F : Fence} {n : Nat} {c : Code} {Q : Exit → Act → World → Prop} (h : c.wpIn F n P (Exit.noGoto Q) a w) : (Code.scope c).wpIn F n P Q a w := by
 intro b k cs hro hb hr
 have h0 : (lone (b.atR a (.code (.scope c) :: k)) cs w).fenced P F := fenced_calm hb hr rfl
 obtain ⟨e, a₁, w₁, hq, harr⟩ := h b (.inScope c :: k) cs hro hb hr
 cases e with
 | normal => exact ⟨.normal, a₁, w₁, hq, .head h0 stepR_scope (StepsIn.trans harr (.one (fenced_calm hb hr rfl) stepR_inScope))⟩
 | exit id =>
  have hx : exitTo id (.inScope c :: k) = exitTo id k := by simp [exitTo]
  exact ⟨.exit id, a₁, w₁, hq, fun k' hk => .head h0 stepR_scope (harr.1 k' (by rw [hx]; exact hk)), fun hr' hk => let ⟨k₁, h1, h2⟩ := harr.2 hr' (by rw [hx]; exact hk); ⟨k₁, h1, .head h0 stepR_scope h2⟩⟩
 | goto l => exact hq.elim
 | ret => exact ⟨_, a₁, w₁, hq, .of_steps (.one h0 stepR_scope) harr⟩
 | panic ch => exact ⟨_, a₁, w₁, hq, .of_steps (.one h0 stepR_scope) harr⟩
 | outgrown => exact ⟨_, a₁, w₁, hq, .of_steps (.one h0 stepR_scope) harr⟩
end
end Go.Proofs.YtommeljlfkmpjaaDoor
namespace Go.Proofs.YtommeljlfkmpjaaDoor
open Go.MapKept Go.RowKit
def kvE (e : MapEntry) : Value × Value := (e.key, e.val)
def kvI (p : Int × Value) : Value × Value := (.int .i64 p.1, p.2)
structure Ents (es : Array MapEntry) (clock : Nat) (l : List (Int × Value)) : Prop where
 is : es.toList.map kvE = l.map kvI
 keys : (l.map (·.1)).Nodup
 born : ∀ e ∈ es.toList, e.born < clock
 once : (es.toList.map (·.born)).Nodup
def IMap (w : World) (b : Nat) (l : List (Int × Value)) : Prop := ∃ es clock, w.heap[b]? = some (.map es clock) ∧ Ents es clock l
def imGet {β : Type} (x : Int) : List (Int × β) → Option β
 | [] => none
 | p :: r => if p.1 = x then some p.2 else imGet x r
def imSet {β : Type} (x : Int) (v : β) : List (Int × β) → List (Int × β)
 | [] => [(x, v)]
 | p :: r => if p.1 = x then (x, v) :: r else p :: imSet x v r
def imDel {β : Type} (x : Int) : List (Int × β) → List (Int × β)
 | [] => []
 | p :: r => if p.1 = x then r else p :: imDel x r
theorem IMap.at_ {w w' : World} {b : Nat} {l : List (Int × Value)} (h : IMap w b l) (e : w'.heap[b]? = w.heap[b]?) : IMap w' b l := by
 obtain ⟨es, c, h1, h2⟩ := h
 exact ⟨es, c, e.trans h1, h2⟩
theorem IMap.lt {w : World} {b : Nat} {l : List (Int × Value)} (h : IMap w b l) : b < w.heap.size := by
 obtain ⟨es, c, h1, h2⟩ := h
 exact (Array.getElem?_eq_some_iff.1 h1).1
theorem IMap.alloc {w : World} {b : Nat} {l : List (Int × Value)} (h : IMap w b l) (o : Obj) : IMap (w.alloc o) b l := h.at_ (Below.heap_alloc w o b h.lt)
theorem IMap.setCell {w : World} {b : Nat} {l : List (Int × Value)} (h : IMap w b l) {p : Addr} (hp : b ≠ p.block) (v : Value) : IMap (w.setCell p v) b l := h.at_ (Below.heap_setCell w p v b hp)
theorem IMap.below {w w' : World} {b : Nat} {l : List (Int × Value)} (h : IMap w b l) (hb : Below w.heap.size w w') : IMap w' b l := h.at_ (hb.block b h.lt)
theorem IMap.drew {w : World} {b : Nat} {l : List (Int × Value)} (h : IMap w b l) : IMap w.drew b l := h
theorem IMap.new (w : World) : IMap (w.alloc (.map #[] 0)) w.heap.size [] := ⟨#[], 0, heap_alloc_new w _, ⟨rfl, by simp, by simp, by simp⟩⟩
theorem findNow_l (x : Int) : ∀ (l : List (Int × Value)) (es : List MapEntry) (i : Nat), es.map kvE = l.map kvI → (imGet x l = none ∧ Instr.findNow (.int .i64) (.int .i64 x) es i = some none) ∨ (∃ j v e, imGet x l = some v ∧ Instr.findNow (.int .i64) (.int .i64 x) es i = some (some (i + j, v)) ∧ es[j]? = some e ∧ e.key = .int .i64 x)
 | [], [], i, _ => .inl ⟨rfl, rfl⟩
 | [], _ :: _, _, h => by simp at h
 | _ :: _, [], _, h => by simp at h
 | p :: r, e :: es, i, h => by
  simp only [List.map_cons, List.cons.injEq] at h
  obtain ⟨h1, h2⟩ := h
  have hk : e.key = .int .i64 p.1 := congrArg Prod.fst h1
  have hv : e.val = p.2 := congrArg Prod.snd h1
  by_cases hx : p.1 = x
  ·right
   refine ⟨0, p.2, e, by simp [imGet, hx], by simp [Instr.findNow, Instr.sameNow, hk, hx, hv], rfl, by rw [hk, hx]⟩
  ·have hf : Instr.findNow (.int .i64) (.int .i64 x) (e :: es) i = Instr.findNow (.int .i64) (.int .i64 x) es (i + 1) := by
    have hx' : (x == p.1) = false := by simpa using fun h => hx h.symm
    simp [Instr.findNow, Instr.sameNow, hk, hx']
   have hg : imGet x (p :: r) = imGet x r := by simp [imGet, hx]
   rw [hf, hg]
   rcases findNow_l x r es (i + 1) h2 with h | ⟨j, v, e', a1, a2, a3, a4⟩
   ·exact .inl h
   ·exact .inr ⟨j + 1, v, e', a1, by rw [a2, show i + (j + 1) = i + 1 + j from by omega], by simpa using a3, a4⟩
section
variable {P : Program} {w : World} {t k e : TypeId} {b : Nat} {l : List (Int × Value)}
theorem IMap.look (h : IMap w b l) (ht : P.underlying t = some (.map k e)) (hk : P.underlying k = some (.int .i64)) {z : Value} (hz : (zeroValue e).run P w = .ok z w) (x : Int) :
  (Instr.lookup t (.map (some b)) (.int .i64 x) true).run P w = .ok (.tuple #[(imGet x l).getD z, .bool (imGet x l).isSome]) w := by
 obtain ⟨es, c, hb, hE⟩ := h
 have hkey : IsKey (.int .i64) (.int .i64 x) := rfl
 rcases findNow_l x l es.toList 0 hE.is with ⟨h1, h2⟩ | ⟨j, v, e', h1, h2, -, -⟩
 ·simp [Instr.lookup, run_underlying ht, MapKept.run_getObj_map hb, run_checkKey hk hkey, run_findKey hk h2, hz, h1, Result.andThen]
 ·simp [Instr.lookup, run_underlying ht, MapKept.run_getObj_map hb, run_checkKey hk hkey, run_findKey hk h2, h1, Result.andThen]
theorem IMap.look1 (h : IMap w b l) (ht : P.underlying t = some (.map k e)) (hk : P.underlying k = some (.int .i64)) {z : Value} (hz : (zeroValue e).run P w = .ok z w) (x : Int) :
  (Instr.lookup t (.map (some b)) (.int .i64 x) false).run P w = .ok ((imGet x l).getD z) w := by
 obtain ⟨es, c, hb, hE⟩ := h
 have hkey : IsKey (.int .i64) (.int .i64 x) := rfl
 rcases findNow_l x l es.toList 0 hE.is with ⟨h1, h2⟩ | ⟨j, v, e', h1, h2, -, -⟩
 ·simp [Instr.lookup, run_underlying ht, MapKept.run_getObj_map hb, run_checkKey hk hkey, run_findKey hk h2, hz, h1, Result.andThen]
 ·simp [Instr.lookup, run_underlying ht, MapKept.run_getObj_map hb, run_checkKey hk hkey, run_findKey hk h2, h1, Result.andThen]
theorem imSet_keys (x : Int) (v : Value) : ∀ l : List (Int × Value), (imGet x l = none ∧ imSet x v l = l ++ [(x, v)] ∧ x ∉ l.map (·.1)) ∨ ((imSet x v l).map (·.1) = l.map (·.1) ∧ (imGet x l).isSome)
 | [] => .inl ⟨rfl, rfl, by simp⟩
 | p :: r => by
  by_cases hx : p.1 = x
  ·right
   simp [imSet, imGet, hx]
  ·rcases imSet_keys x v r with ⟨h1, h2, h3⟩ | ⟨h1, h2⟩
   ·left
    refine ⟨by simp [imGet, hx, h1], by simp [imSet, hx, h2], by simpa using ⟨fun e => hx e.symm, by simpa using h3⟩⟩
   ·right
    simp [imSet, imGet, hx, h1, h2]
theorem modify_kv (x : Int) (v : Value) : ∀ (l : List (Int × Value)) (es : List MapEntry) (i : Nat) (j : Nat) (u : Value), es.map kvE = l.map kvI → Instr.findNow (.int .i64) (.int .i64 x) es i = some (some (i + j, u)) →
  (es.modify j fun e => { e with key := .int .i64 x, val := v }).map kvE = (imSet x v l).map kvI ∧ (es.modify j fun e => { e with key := .int .i64 x, val := v }).map (·.born) = es.map (·.born)
 | [], [], i, j, u, _, h => by simp [Instr.findNow] at h
 | [], _ :: _, _, _, _, h, _ => by simp at h
 | _ :: _, [], _, _, _, h, _ => by simp at h
 | p :: r, e :: es, i, j, u, h, hf => by
  simp only [List.map_cons, List.cons.injEq] at h
  obtain ⟨h1, h2⟩ := h
  have hk : e.key = .int .i64 p.1 := congrArg Prod.fst h1
  by_cases hx : p.1 = x
  ·have : j = 0 := by
    simp [Instr.findNow, Instr.sameNow, hk, hx] at hf
    omega
   subst this
   simp [imSet, hx, h2, kvE, kvI]
  ·have hx' : (x == p.1) = false := by simpa using fun h => hx h.symm
   simp only [Instr.findNow, Instr.sameNow, hk, ↓reduceIte, hx'] at hf
   cases j with
   | zero =>
    exfalso
    rcases findNow_l x r es (i + 1) h2 with ⟨_, h3⟩ | ⟨j', v', e', _, h3, _, _⟩
    ·rw [h3] at hf; simp at hf
    ·rw [h3] at hf; simp at hf; omega
   | succ j =>
    have ih := modify_kv x v r es (i + 1) j u h2 (by rw [hf]; congr 2; simp; omega)
    constructor
    ·simp [imSet, hx, h1, ih.1]
    ·simp [ih.2]
theorem IMap.store (h : IMap w b l) (ht : P.underlying t = some (.map k e)) (hk : P.underlying k = some (.int .i64)) (x : Int) (v : Value) :
  ∃ o : Obj, (Instr.mapUpdate t (.map (some b)) (.int .i64 x) v).run P w = .ok () (w.putObj b o) ∧ IMap (w.putObj b o) b (imSet x v l) := by
 have hlt := h.lt
 obtain ⟨es, c, hb, hE⟩ := h
 have hkey : IsKey (.int .i64) (.int .i64 x) := rfl
 rcases findNow_l x l es.toList 0 hE.is with ⟨h1, h2⟩ | ⟨j, u, e', h1, h2, h3, h4⟩
 ·refine ⟨.map (es.push { key := .int .i64 x, val := v, born := c }) (c + 1), ?_, _, _, World.putObj_heap_same hlt, ?_⟩
  ·simp [Instr.mapUpdate, run_underlying ht, MapKept.run_getObj_map hb, run_checkKey hk hkey, run_findKey hk h2, MapKept.run_setObj_map _ hb, Result.andThen, World.putObj]
  ·rcases imSet_keys x v l with ⟨_, a2, a3⟩ | ⟨_, a2⟩
   ·rw [a2]
    refine ⟨by simp [hE.is, kvE, kvI], ?_, ?_, ?_⟩
    ·rw [List.map_append]
     exact List.nodup_append.2 ⟨hE.keys, by simp, fun a ha b' hb' e => by simp at hb'; subst hb'; subst e; exact a3 ha⟩
    ·intro e he
     simp at he
     rcases he with he | rfl
     ·have := hE.born e (by simpa using he); omega
     ·simp
    ·simp only [Array.toList_push, List.map_append, List.map_cons, List.map_nil]
     refine List.nodup_append.2 ⟨hE.once, by simp, fun a ha b' hb' e => ?_⟩
     simp at hb'
     subst hb'
     subst e
     obtain ⟨m, hm, he⟩ := List.mem_map.1 ha
     have := hE.born m hm
     omega
   ·rw [h1] at a2; simp at a2
 ·have hj : es[j]? = some e' := by rw [← Array.getElem?_toList]; exact h3
  have hmod := modify_kv x v l es.toList 0 j u hE.is h2
  have hkk : IsKey (.int .i64) (.int .i64 x) := rfl
  refine ⟨.map (es.modify j fun e => { e with key := .int .i64 x, val := v }) c, ?_, _, _, World.putObj_heap_same hlt, ?_⟩
  ·simp [Instr.mapUpdate, run_underlying ht, MapKept.run_getObj_map hb, run_checkKey hk hkey, run_findKey hk h2, hj, h4, run_keyThatStays hkk, MapKept.run_setObj_map _ hb, Result.andThen, World.putObj]
  ·have hkeys : (imSet x v l).map (·.1) = l.map (·.1) := by
    rcases imSet_keys x v l with ⟨a1, _, _⟩ | ⟨a1, _⟩
    ·rw [h1] at a1; simp at a1
    ·exact a1
   refine ⟨by rw [Array.toList_modify]; exact hmod.1, by rw [hkeys]; exact hE.keys, ?_, by rw [Array.toList_modify, hmod.2]; exact hE.once⟩
   intro e he
   rw [Array.toList_modify] at he
   have hm : e.born ∈ (es.toList.modify j fun e => { e with key := .int .i64 x, val := v }).map (·.born) := List.mem_map_of_mem he
   rw [hmod.2] at hm
   obtain ⟨m, hm1, hm2⟩ := List.mem_map.1 hm
   rw [← hm2]
   exact hE.born m hm1
end
def IRange (w : World) (r b : Nat) (l rem : List (Int × Value)) : Prop :=
 ∃ es clock since c0 seen, w.heap[b]? = some (.map es clock) ∧ Ents es clock l ∧ w.heap[r]? = some (.mapIter (some b) since seen c0) ∧ (∀ e ∈ es.toList, e.born < since) ∧ since ≤ c0 ∧ since ≤ clock ∧ (leftOf es seen).toList.map kvE = rem.map kvI
theorem IRange.at_ {w w' : World} {r b : Nat} {l rem : List (Int × Value)} (h : IRange w r b l rem) (e1 : w'.heap[b]? = w.heap[b]?) (e2 : w'.heap[r]? = w.heap[r]?) : IRange w' r b l rem := by
 obtain ⟨es, c, s, c0, seen, h1, h2, h3, h4⟩ := h
 exact ⟨es, c, s, c0, seen, e1.trans h1, h2, e2.trans h3, h4⟩
theorem IRange.lt {w : World} {r b : Nat} {l rem : List (Int × Value)} (h : IRange w r b l rem) : r < w.heap.size ∧ b < w.heap.size ∧ r ≠ b := by
 obtain ⟨es, c, s, c0, seen, h1, h2, h3, h4⟩ := h
 exact ⟨(Array.getElem?_eq_some_iff.1 h3).1, (Array.getElem?_eq_some_iff.1 h1).1, fun e => by rw [e, h1] at h3; cases h3⟩
theorem IRange.imap {w : World} {r b : Nat} {l rem : List (Int × Value)} (h : IRange w r b l rem) : IMap w b l := by
 obtain ⟨es, c, s, c0, seen, h1, h2, h3, h4⟩ := h
 exact ⟨es, c, h1, h2⟩
theorem IMap.range {P : Program} {w : World} {t k e : TypeId} {b : Nat} {l : List (Int × Value)} (h : IMap w b l) (ht : P.underlying t = some (.map k e)) :
  ∃ o : Obj, (Instr.range t (.map (some b))).run P w = .ok (.pointer (some ⟨w.heap.size, 0, none⟩)) (w.alloc o) ∧ IRange (w.alloc o) w.heap.size b l l := by
 have hlt := h.lt
 obtain ⟨es, c, hb, hE⟩ := h
 refine ⟨_, run_range_map w t k e b es c ht hb, es, c, c, c, #[], (Below.heap_alloc w _ b hlt).trans hb, hE, heap_alloc_new w _, hE.born, Nat.le_refl _, Nat.le_refl _, ?_⟩
 have : leftOf es #[] = es := by unfold leftOf; exact Array.filter_eq_self.2 (fun x hx => by simp)
 rw [this]
 exact hE.is
theorem filter_push (seen : Array Nat) (e : MapEntry) : ∀ L : List MapEntry, e ∈ L → (L.map (·.born)).Nodup → ∃ A B, L = A ++ e :: B ∧ L.filter (fun x => !(seen.push e.born).contains x.born) = (A ++ B).filter (fun x => !seen.contains x.born)
 | [], h, _ => by simp at h
 | x :: L, h, hn => by
  simp only [List.map_cons, List.nodup_cons] at hn
  have hkeep : ∀ M : List MapEntry, (∀ y ∈ M, y.born ≠ e.born) → M.filter (fun x => !(seen.push e.born).contains x.born) = M.filter (fun x => !seen.contains x.born) := fun M hM => by
   apply List.filter_congr
   intro y hy
   simp [hM y hy]
  rcases List.mem_cons.1 h with rfl | h'
  ·refine ⟨[], L, rfl, ?_⟩
   rw [List.filter_cons_of_neg (by simp)]
   exact hkeep L (fun y hy q => hn.1 (List.mem_map.2 ⟨y, hy, q⟩))
  ·obtain ⟨A, B, rfl, hf⟩ := filter_push seen e L h' hn.2
   refine ⟨x :: A, B, rfl, ?_⟩
   have hxe : x.born ≠ e.born := fun q => hn.1 (q ▸ List.mem_map_of_mem (f := (·.born)) h')
   have hx := hkeep [x] (by simpa using hxe)
   rw [show x :: (A ++ e :: B) = [x] ++ (A ++ e :: B) from rfl, List.filter_append, hx, hf, ← List.filter_append]
   rfl
theorem IRange.next {P : Program} {w : World} {r b : Nat} {l rem : List (Int × Value)} (h : IRange w r b l rem) (ty : TypeId) :
  (rem = [] ∧ (Instr.next (.pointer (some ⟨r, 0, none⟩)) false ty).run P w = .ok (.tuple #[.bool false]) w) ∨
  ∃ A p B o w1, rem = A ++ p :: B ∧ (w1 = w ∨ w1 = w.drew) ∧ (Instr.next (.pointer (some ⟨r, 0, none⟩)) false ty).run P w = .ok (.tuple #[.bool true, .int .i64 p.1, p.2]) (w1.putObj r o) ∧ IRange (w1.putObj r o) r b l (A ++ B)
   ∧ (Instr.entry (.pointer (some ⟨r, 0, none⟩))).run P (w1.putObj r o) = .ok (.tuple #[.int .i64 p.1, p.2]) (w1.putObj r o) := by
 obtain ⟨hr, hbl, hrb⟩ := h.lt
 obtain ⟨es, c, since, c0, seen, hb, hE, hit, hold, hsc, hsk, hrem⟩ := h
 rcases run_next_at (P := P) w ty r b since c0 seen es c hit hb hold hsc with ⟨h0, hrun⟩ | ⟨e, he, w1, hw1, hrun⟩
 ·left
  refine ⟨?_, hrun⟩
  have : leftOf es seen = #[] := Array.eq_empty_of_size_eq_zero h0
  rw [this] at hrem
  simpa using hrem.symm
 ·right
  have hfl : (leftOf es seen).toList = es.toList.filter (fun e => !seen.contains e.born) := by unfold leftOf; rw [Array.toList_filter]
  have hmem : e ∈ es.toList := by rw [hfl] at he; exact (List.mem_filter.1 he).1
  obtain ⟨A0, B0, hAB, hf⟩ := filter_push seen e es.toList hmem hE.once
  have hseen : (!seen.contains e.born) = true := by rw [hfl] at he; exact (List.mem_filter.1 he).2
  have hsplit : (leftOf es seen).toList = A0.filter (fun e => !seen.contains e.born) ++ e :: B0.filter (fun e => !seen.contains e.born) := by
   rw [hfl, hAB, List.filter_append, List.filter_cons_of_pos (by simpa using hseen)]
  rw [hsplit, List.map_append, List.map_cons] at hrem
  obtain ⟨A, R, rfl, hA, hR⟩ := List.map_eq_append_iff.1 hrem.symm
  obtain ⟨p, B, rfl, hp, hB⟩ := List.map_eq_cons_iff.1 hR
  have hk : e.key = .int .i64 p.1 := (congrArg Prod.fst hp).symm
  have hv : e.val = p.2 := (congrArg Prod.snd hp).symm
  rw [hk, hv] at hrun
  have hb1 : w1.heap[b]? = some (.map es c) := by rcases hw1 with rfl | rfl <;> exact hb
  have hsz : r < w1.heap.size := by rcases hw1 with rfl | rfl <;> exact hr
  have hput : (w1.putObj r (.mapIter (some b) since (seen.push e.born) c)).heap[r]? = some (.mapIter (some b) since (seen.push e.born) c) := World.putObj_heap_same hsz
  have hbb : (w1.putObj r (.mapIter (some b) since (seen.push e.born) c)).heap[b]? = some (.map es c) := (World.putObj_heap_other (Ne.symm hrb)).trans hb1
  refine ⟨A, p, B, _, w1, rfl, hw1, hrun, ⟨es, c, since, c, seen.push e.born, hbb, hE, hput, hold, hsk, hsk, ?_⟩, ?_⟩
  ·rw [show leftOf es (seen.push e.born) = es.filter fun x => !(seen.push e.born).contains x.born from rfl, Array.toList_filter, hf, List.filter_append, List.map_append, List.map_append, hA, hB]
  ·have := run_entry_at (P := P) _ r b since seen es c e hput hbb hmem hE.once
   rw [hk, hv] at this
   exact this
end Go.Proofs.YtommeljlfkmpjaaDoor
namespace Go.Proofs.YtommeljlfkmpjaaDoor
open Go.RowKit
abbrev Slots := List (Nat × Value)
def slot (i : Nat) : Slots → Option Value
 | [] => none
 | p :: r => bif Nat.beq p.1 i then some p.2 else slot i r
def ev (σ : Slots) : Operand → Option Value
 | .tmp t => slot t σ
 | .const v => some v
 | .global g => some (.pointer (some ⟨g, 0, none⟩))
 | .func f => some (.func (.func f) #[] #[])
def evs (σ : Slots) : List Operand → Option (List Value)
 | [] => some []
 | x :: r => match ev σ x, evs σ r with
  | some v, some vs => some (v :: vs)
  | _, _ => none
def putS : Option Tmp → Value → Slots → Slots
 | some d, v, σ => (d, v) :: σ
 | none, _, σ => σ
def dstOK (N : Nat) : Option Tmp → Bool
 | some d => Nat.blt d N
 | none => true
structure SOK (N : Nat) (ds : List Deferred) (σ : Slots) (a : Act) : Prop where
 sz : a.tmps.size = N
 sl : ∀ i v, slot i σ = some v → a.tmps[i]? = some v
 df : a.defers = ds
theorem getD_of {α : Type} {l : Array α} {i : Nat} {v d : α} (h : l[i]? = some v) : l.getD i d = v := by
 rw [Array.getD_eq_getD_getElem?, h]; rfl
theorem SOK.ev {N : Nat} {ds : List Deferred} {σ : Slots} {a : Act} (h : SOK N ds σ a) {x : Operand} {v : Value} (e : ev σ x = some v) : a.eval x = v := by
 cases x with
 | tmp t => exact getD_of (h.sl t v e)
 | const c => exact Option.some.inj e
 | global g => exact Option.some.inj e
 | func f => exact Option.some.inj e
theorem SOK.evs {N : Nat} {ds : List Deferred} {σ : Slots} {a : Act} (h : SOK N ds σ a) : ∀ {xs : List Operand} {vs : List Value}, evs σ xs = some vs → xs.map a.eval = vs
 | [], vs, e => by cases e; rfl
 | x :: r, vs, e => by
  unfold Go.Proofs.YtommeljlfkmpjaaDoor.evs at e
  split at e
  ·rename_i v ws h1 h2
   cases e
   rw [List.map_cons, h.ev h1, h.evs h2]
  ·cases e
theorem SOK.put {N : Nat} {ds : List Deferred} {σ : Slots} {a : Act} (h : SOK N ds σ a) {d : Option Tmp} (hd : dstOK N d = true) (v : Value) : SOK N ds (putS d v σ) (a.put d v) := by
 cases d with
 | none => exact h
 | some d =>
  have hlt : d < N := by simpa [dstOK, Nat.blt_eq] using hd
  refine ⟨by simp [Act.put, h.sz], fun i u hu => ?_, h.df⟩
  simp only [Act.put]
  unfold putS slot at hu
  cases hb : Nat.beq d i with
  | true =>
   have e : d = i := Nat.eq_of_beq_eq_true hb
   simp only [hb, cond_true, Option.some.injEq] at hu
   subst e
   subst hu
   rw [Array.getElem?_setIfInBounds_self, if_pos (by rw [h.sz]; exact hlt)]
  | false =>
   have e : d ≠ i := fun e => by subst e; simp at hb
   simp only [hb, cond_false] at hu
   rw [Array.getElem?_setIfInBounds_ne e]
   exact h.sl i u hu
def subS : Slots → Slots → Prop
 | [], _ => True
 | p :: r, σ => slot p.1 σ = some p.2 ∧ subS r σ
theorem SOK.sub {N : Nat} {ds : List Deferred} {σ : Slots} {a : Act} (h : SOK N ds σ a) : ∀ {σ' : Slots}, subS σ' σ → SOK N ds σ' a
 | [], _ => ⟨h.sz, (fun i v e => by cases e), h.df⟩
 | p :: r, ⟨h1, h2⟩ => by
  have ih := h.sub h2
  refine ⟨h.sz, fun i v e => ?_, h.df⟩
  unfold slot at e
  cases hb : Nat.beq p.1 i with
  | true =>
   have e' : p.1 = i := Nat.eq_of_beq_eq_true hb
   simp only [hb, cond_true, Option.some.injEq] at e
   subst e'
   subst e
   exact h.sl _ _ h1
  | false =>
   simp only [hb, cond_false] at e
   exact ih.sl i v e
abbrev HP := Obj → Prop
abbrev Hp := List (Nat × Bool × HP)
def cel (cs : List Value) (t : TypeId) : HP := fun o => o = .cells cs.toArray t (0, 0)
structure Kx (X : Nat → Prop) (w0 w : World) : Prop where
 os : w.os = w0.os
 tape : w.tape = w0.tape
 output : w.output = w0.output
 size : w0.heap.size ≤ w.heap.size
 block : ∀ k, k < w0.heap.size → ¬ X k → w.heap[k]? = w0.heap[k]?
def XNone : Nat → Prop := fun _ => False
theorem Kx.refl (X : Nat → Prop) (w : World) : Kx X w w := ⟨rfl, rfl, rfl, Nat.le_refl _, fun _ _ _ => rfl⟩
theorem Kx.below {w0 w : World} (h : Kx XNone w0 w) : Below w0.heap.size w0 w := ⟨h.os, h.tape, h.output, h.size, fun k hk => h.block k hk (fun x => x)⟩
theorem Kx.of_below {X : Nat → Prop} {w0 w : World} (h : Below w0.heap.size w0 w) : Kx X w0 w := ⟨h.os, h.tape, h.output, h.size, fun k hk _ => h.block k hk⟩
theorem Kx.cell {X : Nat → Prop} {w0 w : World} (h : Kx X w0 w) {p : Addr} {v : Value} (hc : w0.cell? p = some v) (hx : ¬ X p.block) : w.cell? p = some v := by
 have hb := World.block_lt_of_cell? w0 p hc
 unfold World.cell? at hc ⊢
 rw [h.block _ hb hx]
 exact hc
structure WOK (w0 : World) (X : Nat → Prop) (η : Hp) (w : World) : Prop where
 kx : Kx X w0 w
 bl : ∀ e ∈ η, ∃ o, w.heap[e.1]? = some o ∧ e.2.2 o
 nd : (η.map (·.1)).Nodup
 ow : ∀ e ∈ η, e.2.1 = true → w0.heap.size ≤ e.1 ∨ X e.1
theorem WOK.start (X : Nat → Prop) (w : World) : WOK w X [] w := ⟨Kx.refl X w, by simp, by simp, by simp⟩
theorem WOK.lt {w0 : World} {X : Nat → Prop} {η : Hp} {w : World} (h : WOK w0 X η w) {e : Nat × Bool × HP} (he : e ∈ η) : e.1 < w.heap.size := by
 obtain ⟨o, h1, _⟩ := h.bl e he
 exact (Array.getElem?_eq_some_iff.1 h1).1
theorem WOK.alloc {w0 : World} {X : Nat → Prop} {η : Hp} {w : World} (h : WOK w0 X η w) (o : Obj) (φ : HP) (hφ : φ o) : WOK w0 X ((w.heap.size, true, φ) :: η) (w.alloc o) := by
 refine ⟨⟨h.kx.os, h.kx.tape, h.kx.output, by simp; have := h.kx.size; omega, fun k hk hx => (Below.heap_alloc w o k (Nat.lt_of_lt_of_le hk h.kx.size)).trans (h.kx.block k hk hx)⟩, ?_, ?_, ?_⟩
 ·intro e he
  rcases List.mem_cons.1 he with rfl | he
  ·exact ⟨o, heap_alloc_new w o, hφ⟩
  ·obtain ⟨o', h1, h2⟩ := h.bl e he
   exact ⟨o', (Below.heap_alloc w o _ (h.lt he)).trans h1, h2⟩
 ·simp only [List.map_cons, List.nodup_cons]
  refine ⟨fun hm => ?_, h.nd⟩
  obtain ⟨e, he, h1⟩ := List.mem_map.1 hm
  have := h.lt he
  omega
 ·intro e he hw
  rcases List.mem_cons.1 he with rfl | he
  ·exact .inl h.kx.size
  ·exact h.ow e he hw
inductive Upd (b : Nat) (φ' : HP) : Hp → Hp → Prop
 | head {φ : HP} {r : Hp} : Upd b φ' ((b, true, φ) :: r) ((b, true, φ') :: r)
 | tail {e : Nat × Bool × HP} {r r' : Hp} (h : Upd b φ' r r') : Upd b φ' (e :: r) (e :: r')
theorem Upd.keys {b : Nat} {φ' : HP} {η η' : Hp} (h : Upd b φ' η η') : η'.map (·.1) = η.map (·.1) := by
 induction h with
 | head => rfl
 | tail _ ih => simp only [List.map_cons, ih]
theorem Upd.has {b : Nat} {φ' : HP} {η η' : Hp} (h : Upd b φ' η η') : ∃ φ, (b, true, φ) ∈ η := by
 induction h with
 | head => exact ⟨_, List.mem_cons_self ..⟩
 | tail _ ih => obtain ⟨φ, h⟩ := ih; exact ⟨φ, List.mem_cons_of_mem _ h⟩
theorem Upd.mem {b : Nat} {φ' : HP} {η η' : Hp} (h : Upd b φ' η η') : ∀ e ∈ η', e = (b, true, φ') ∨ e ∈ η := by
 induction h with
 | head =>
  intro e he
  rcases List.mem_cons.1 he with rfl | he
  ·exact .inl rfl
  ·exact .inr (List.mem_cons_of_mem _ he)
 | tail _ ih =>
  intro e he
  rcases List.mem_cons.1 he with rfl | he
  ·exact .inr (List.mem_cons_self ..)
  ·rcases ih e he with h | h
   ·exact .inl h
   ·exact .inr (List.mem_cons_of_mem _ h)
theorem Upd.memNe {b : Nat} {φ' : HP} {η η' : Hp} (h : Upd b φ' η η') (hn : (η.map (·.1)).Nodup) : ∀ e ∈ η', e = (b, true, φ') ∨ (e ∈ η ∧ e.1 ≠ b) := by
 induction h with
 | head =>
  intro e he
  rcases List.mem_cons.1 he with rfl | he
  ·exact .inl rfl
  ·refine .inr ⟨List.mem_cons_of_mem _ he, fun q => ?_⟩
   simp only [List.map_cons, List.nodup_cons] at hn
   exact hn.1 (List.mem_map.2 ⟨e, he, q⟩)
 | tail h ih =>
  intro e he
  simp only [List.map_cons, List.nodup_cons] at hn
  rcases List.mem_cons.1 he with rfl | he
  ·refine .inr ⟨List.mem_cons_self .., fun q => ?_⟩
   obtain ⟨φ, hb⟩ := h.has
   exact hn.1 (List.mem_map.2 ⟨_, hb, q.symm⟩)
  ·rcases ih hn.2 e he with h | h
   ·exact .inl h
   ·exact .inr ⟨List.mem_cons_of_mem _ h.1, h.2⟩
structure OneB (b : Nat) (w w' : World) : Prop where
 os : w'.os = w.os
 tape : w'.tape = w.tape
 output : w'.output = w.output
 size : w'.heap.size = w.heap.size
 block : ∀ k, k ≠ b → w'.heap[k]? = w.heap[k]?
theorem OneB.refl (b : Nat) (w : World) : OneB b w w := ⟨rfl, rfl, rfl, rfl, fun _ _ => rfl⟩
theorem OneB.trans {b : Nat} {w w1 w2 : World} (h : OneB b w w1) (k : OneB b w1 w2) : OneB b w w2 := ⟨k.os.trans h.os, k.tape.trans h.tape, k.output.trans h.output, k.size.trans h.size, fun i hi => (k.block i hi).trans (h.block i hi)⟩
theorem OneB.setCell (w : World) (b i : Nat) (v : Value) : OneB b w (w.setCell ⟨b, i, none⟩ v) := ⟨rfl, rfl, rfl, by simp, fun k hk => Below.heap_setCell w _ v k hk⟩
theorem OneB.putObj (w : World) (b : Nat) (o : Obj) : OneB b w (w.putObj b o) := ⟨rfl, rfl, rfl, by simp, fun k hk => World.putObj_heap_other hk⟩
theorem WOK.upd {w0 : World} {X : Nat → Prop} {η η' : Hp} {w w' : World} {b : Nat} {φ' : HP} (h : WOK w0 X η w) (hU : Upd b φ' η η') (h1 : OneB b w w') {o : Obj} (ho : w'.heap[b]? = some o) (hφ : φ' o) : WOK w0 X η' w' := by
 obtain ⟨φ, hb⟩ := hU.has
 have hown := h.ow _ hb rfl
 refine ⟨⟨h1.os.trans h.kx.os, h1.tape.trans h.kx.tape, h1.output.trans h.kx.output, by rw [h1.size]; exact h.kx.size, fun k hk hx => ?_⟩, ?_, by rw [hU.keys]; exact h.nd, ?_⟩
 ·refine (h1.block k (fun e => ?_)).trans (h.kx.block k hk hx)
  subst e
  rcases hown with h2 | h2
  ·exact absurd hk (Nat.not_lt.2 h2)
  ·exact hx h2
 ·intro e he
  rcases hU.memNe h.nd e he with rfl | ⟨he, hne⟩
  ·exact ⟨o, ho, hφ⟩
  ·obtain ⟨o', h2, h3⟩ := h.bl e he
   exact ⟨o', (h1.block _ hne).trans h2, h3⟩
 ·intro e he hw
  rcases hU.mem e he with rfl | he
  ·exact hown
  ·exact h.ow e he hw
theorem WOK.below {w0 : World} {X : Nat → Prop} {η : Hp} {w w' : World} (h : WOK w0 X η w) (hb : Below w.heap.size w w') : WOK w0 X η w' := by
 refine ⟨⟨hb.os.trans h.kx.os, hb.tape.trans h.kx.tape, hb.output.trans h.kx.output, Nat.le_trans h.kx.size hb.size, fun k hk hx => (hb.block k (Nat.lt_of_lt_of_le hk h.kx.size)).trans (h.kx.block k hk hx)⟩, ?_, h.nd, h.ow⟩
 intro e he
 obtain ⟨o, h1, h2⟩ := h.bl e he
 exact ⟨o, (hb.block _ (h.lt he)).trans h1, h2⟩
theorem WOK.more {w0 : World} {X : Nat → Prop} {η : Hp} {w w' : World} (h : WOK w0 X η w) (hb : Below w.heap.size w w') {b : Nat} {o : Obj} {φ : HP} (hbb : w.heap.size ≤ b) (ho : w'.heap[b]? = some o) (hφ : φ o) : WOK w0 X ((b, true, φ) :: η) w' := by
 have h' := h.below hb
 refine ⟨h'.kx, ?_, ?_, ?_⟩
 ·intro e he
  rcases List.mem_cons.1 he with rfl | he
  ·exact ⟨o, ho, hφ⟩
  ·exact h'.bl e he
 ·simp only [List.map_cons, List.nodup_cons]
  refine ⟨fun hm => ?_, h.nd⟩
  obtain ⟨e, he, h1⟩ := List.mem_map.1 hm
  have := h.lt he
  omega
 ·intro e he hw
  rcases List.mem_cons.1 he with rfl | he
  ·exact .inl (Nat.le_trans h.kx.size hbb)
  ·exact h.ow e he hw
theorem WOK.drew {w0 : World} {X : Nat → Prop} {η : Hp} {w : World} (h : WOK w0 X η w) : WOK w0 X η w.drew := ⟨⟨h.kx.os, h.kx.tape, h.kx.output, h.kx.size, h.kx.block⟩, h.bl, h.nd, h.ow⟩
theorem WOK.sub {w0 : World} {X : Nat → Prop} {η η' : Hp} {w : World} (h : WOK w0 X η w) (hs : List.Sublist η' η) : WOK w0 X η' w :=
 ⟨h.kx, fun e he => h.bl e (hs.subset he), (hs.map _).nodup h.nd, fun e he => h.ow e (hs.subset he)⟩
theorem WOK.perm {w0 : World} {X : Nat → Prop} {η η' : Hp} {w : World} (h : WOK w0 X η w) (hp : List.Perm η η') : WOK w0 X η' w :=
 ⟨h.kx, fun e he => h.bl e (hp.mem_iff.2 he), (hp.map _).nodup_iff.1 h.nd, fun e he => h.ow e (hp.mem_iff.2 he)⟩
theorem WOK.obj {w0 : World} {X : Nat → Prop} {η : Hp} {w : World} (h : WOK w0 X η w) {b : Nat} {wr : Bool} {cs : List Value} {t : TypeId} (he : (b, wr, cel cs t) ∈ η) : w.heap[b]? = some (.cells cs.toArray t (0, 0)) := by
 obtain ⟨o, h1, h2⟩ := h.bl _ he
 rw [h1]
 exact congrArg some h2
theorem WOK.cell {w0 : World} {X : Nat → Prop} {η : Hp} {w : World} (h : WOK w0 X η w) {b : Nat} {wr : Bool} {cs : List Value} {t : TypeId} (he : (b, wr, cel cs t) ∈ η) (i : Nat) {v : Value} (hv : cs[i]? = some v) : w.cell? ⟨b, i, none⟩ = some v := by
 rw [cell_of_row w b i _ t _ (h.obj he)]
 simpa using hv
def look {α : Type} (i : Nat) : List (Nat × α) → Option α
 | [] => none
 | p :: r => bif Nat.beq p.1 i then some p.2 else look i r
theorem look_mem {α : Type} {i : Nat} {v : α} : ∀ {l : List (Nat × α)}, look i l = some v → (i, v) ∈ l
 | [], h => by cases h
 | p :: r, h => by
  unfold look at h
  cases hb : Nat.beq p.1 i with
  | true =>
   simp only [hb, cond_true, Option.some.injEq] at h
   have := Nat.eq_of_beq_eq_true hb
   subst this
   subst h
   exact List.mem_cons_self ..
  | false =>
   simp only [hb, cond_false] at h
   exact List.mem_cons_of_mem _ (look_mem h)
structure Tys (P : Program) where
 mixed : P.follows .mixedOrders = true
 tk : List (Nat × Nat)
 htk : ∀ p ∈ tk, (∀ w, (isAgg p.1).run P w = .ok (Nat.blt 0 p.2) w) ∧ (∀ w, (sizeOf p.1).run P w = .ok (bif Nat.beq p.2 0 then 1 else p.2) w)
 zs : List (Nat × Value)
 hzs : ∀ p ∈ zs, ∀ w, (zeroValue p.1).run P w = .ok p.2 w
 fo : List (Nat × List Nat)
 hfo : ∀ p ∈ fo, ∀ f off, p.2[f]? = some off → ∀ a w, (Instr.fieldAt p.1 (.pointer (some a)) f).run P w = .ok (.pointer (some (a.add off))) w
 el : List (Nat × Nat)
 hel : ∀ p ∈ el, P.underlying p.1 = some (.slice p.2)
 ik : List (Nat × IntKind)
 hik : ∀ p ∈ ik, P.underlying p.1 = some (.int p.2)
 mp : List (Nat × Nat × Nat)
 hmp : ∀ p ∈ mp, P.underlying p.1 = some (.map p.2.1 p.2.2)
section
variable {P : Program} {ro : Option Nat} {n N : Nat} {ds : List Deferred} {w0 : World} {X : Nat → Prop}
def XC (P : Program) (ro : Option Nat) (n N : Nat) (ds : List Deferred) (w0 : World) (X : Nat → Prop) (Q : Exit → Act → World → Prop) (σ : Slots) (η : Hp) (c : Code) : Prop :=
 ∀ a w, SOK N ds σ a → WOK w0 X η w → c.wpIn (wideR ro) n P Q a w
def XO (P : Program) (ro : Option Nat) (n N : Nat) (ds : List Deferred) (w0 : World) (X : Nat → Prop) (Q : Exit → Act → World → Prop) (ops : List Oper) (σ : Slots) (η : Hp) (rest : List Oper) : Prop :=
 ∀ a w, SOK N ds σ a → WOK w0 X η w → wpListIn (wideR ro) n P ops.toArray Q rest a w
def XQ (N : Nat) (ds : List Deferred) (w0 : World) (X : Nat → Prop) (Q : Exit → Act → World → Prop) (e : Exit) (σ : Slots) (η : Hp) : Prop :=
 ∀ a w, SOK N ds σ a → WOK w0 X η w → Q e a w
variable {Q : Exit → Act → World → Prop} {σ : Slots} {η : Hp}
theorem xc_seq {x y : Code} (h : XC P ro n N ds w0 X (Exit.then (y.wpIn (wideR ro) n P Q) Q) σ η x) : XC P ro n N ds w0 X Q σ η (.seq x y) := fun a w ha hw => wpIn_seq (h a w ha hw)
theorem xc_skip (h : XQ N ds w0 X Q .normal σ η) : XC P ro n N ds w0 X Q σ η .skip := fun a w ha hw => wpIn_skip (h a w ha hw)
theorem xc_label {l : Nat} (h : XQ N ds w0 X Q .normal σ η) : XC P ro n N ds w0 X Q σ η (.label l) := fun a w ha hw => wpIn_label (h a w ha hw)
theorem xc_exit {id : Nat} (h : XQ N ds w0 X Q (.exit id) σ η) : XC P ro n N ds w0 X Q σ η (.exit id) := fun a w ha hw => wpIn_exit (h a w ha hw)
theorem xc_ret (h : XQ N ds w0 X Q .ret σ η) : XC P ro n N ds w0 X Q σ η .ret := fun a w ha hw => wpIn_ret (h a w ha hw)
theorem xc_block {id : Nat} {c : Code} (h : XC P ro n N ds w0 X (Exit.inBlock id Q) σ η c) : XC P ro n N ds w0 X Q σ η (.block id c) := fun a w ha hw => wpIn_block (h a w ha hw)
theorem xc_scope {c : Code} (h : XC P ro n N ds w0 X (Exit.noGoto Q) σ η c) : XC P ro n N ds w0 X Q σ η (.scope c) := fun a w ha hw => wpIn_scope_straight (h a w ha hw)
theorem xc_cond {c : Operand} {x y : Code} {b : Bool} (hc : ev σ c = some (.bool b)) (ht : b = true → XC P ro n N ds w0 X Q σ η x) (hf : b = false → XC P ro n N ds w0 X Q σ η y) : XC P ro n N ds w0 X Q σ η (.cond c x y) :=
 fun a w ha hw => wpIn_cond_split (ha.ev hc) (fun h => ht h a w ha hw) (fun h => hf h a w ha hw)
theorem xc_condT {c : Operand} {x y : Code} (hc : ev σ c = some (.bool true)) (ht : XC P ro n N ds w0 X Q σ η x) : XC P ro n N ds w0 X Q σ η (.cond c x y) :=
 fun a w ha hw => wpIn_cond_true (ha.ev hc) (ht a w ha hw)
theorem xc_condF {c : Operand} {x y : Code} (hc : ev σ c = some (.bool false)) (hf : XC P ro n N ds w0 X Q σ η y) : XC P ro n N ds w0 X Q σ η (.cond c x y) :=
 fun a w ha hw => wpIn_cond_false (ha.ev hc) (hf a w ha hw)
theorem xcR {id : Nat} {l : List Oper} (h : XO P ro n N ds w0 X Q l σ η l) : XC P ro n N ds w0 X Q σ η (.region id l.toArray false) := fun a w ha hw => wpIn_region_lit (h a w ha hw)
theorem xc_loop {γ : Type} {c : Code} (C : γ → Prop) (S : γ → Slots) (H : γ → Hp) (μ : γ → Nat) (g0 : γ) (hC : C g0) (hs : subS (S g0) σ) (hh : List.Sublist (H g0) η)
  (round : ∀ g, C g → XC P ro n N ds w0 X (Exit.then (fun a w => ∃ k, k < μ g ∧ ∃ g', C g' ∧ μ g' = k ∧ SOK N ds (S g') a ∧ WOK w0 X (H g') w) Q) (S g) (H g) c) : XC P ro n N ds w0 X Q σ η (.loop c) := by
 intro a w ha hw
 refine wpIn_loop_ghost (fun k a w => ∃ g', C g' ∧ μ g' = k ∧ SOK N ds (S g') a ∧ WOK w0 X (H g') w) (μ g0) ⟨g0, hC, rfl, ha.sub hs, hw.sub hh⟩ ?_
 rintro k a w ⟨g, hg, rfl, h1, h2⟩
 exact round g hg a w h1 h2
theorem xq_again {γ : Type} (C : γ → Prop) (S : γ → Slots) (H : γ → Hp) (μ : γ → Nat) (m : Nat) (g' : γ) (hC : C g') (hm : μ g' < m) (hs : subS (S g') σ) (hh : List.Sublist (H g') η) :
  XQ N ds w0 X (Exit.then (fun a w => ∃ k, k < m ∧ ∃ g', C g' ∧ μ g' = k ∧ SOK N ds (S g') a ∧ WOK w0 X (H g') w) Q) .normal σ η :=
 fun a w ha hw => ⟨_, hm, g', hC, rfl, ha.sub hs, hw.sub hh⟩
theorem xqT {y : Code} (h : XC P ro n N ds w0 X Q σ η y) : XQ N ds w0 X (Exit.then (y.wpIn (wideR ro) n P Q) Q) .normal σ η := h
theorem xq_thenR {K : Act → World → Prop} (h : XQ N ds w0 X Q .ret σ η) : XQ N ds w0 X (Exit.then K Q) .ret σ η := h
theorem xq_thenE {K : Act → World → Prop} {id : Nat} (h : XQ N ds w0 X Q (.exit id) σ η) : XQ N ds w0 X (Exit.then K Q) (.exit id) σ η := h
theorem xqB {id : Nat} (h : XQ N ds w0 X Q .normal σ η) : XQ N ds w0 X (Exit.inBlock id Q) .normal σ η := h
theorem xq_blockR {id : Nat} (h : XQ N ds w0 X Q .ret σ η) : XQ N ds w0 X (Exit.inBlock id Q) .ret σ η := h
theorem xq_blockE {id id' : Nat} (hb : Nat.beq id' id = false) (h : XQ N ds w0 X Q (.exit id') σ η) : XQ N ds w0 X (Exit.inBlock id Q) (.exit id') σ η := fun a w ha hw => by
 have : id' ≠ id := fun e => by subst e; simp at hb
 simp only [Exit.inBlock, if_neg this]
 exact h a w ha hw
theorem xq_blockX {id : Nat} (h : XQ N ds w0 X Q .normal σ η) : XQ N ds w0 X (Exit.inBlock id Q) (.exit id) σ η := fun a w ha hw => by
 simp only [Exit.inBlock, ↓reduceIte]
 exact h a w ha hw
theorem xqS (h : XQ N ds w0 X Q .normal σ η) : XQ N ds w0 X (Exit.noGoto Q) .normal σ η := h
theorem xq_scopeR (h : XQ N ds w0 X Q .ret σ η) : XQ N ds w0 X (Exit.noGoto Q) .ret σ η := h
theorem xq_scopeE {id : Nat} (h : XQ N ds w0 X Q (.exit id) σ η) : XQ N ds w0 X (Exit.noGoto Q) (.exit id) σ η := h
end
end Go.Proofs.YtommeljlfkmpjaaDoor
namespace Go.Proofs.YtommeljlfkmpjaaDoor
open Go.RowKit Go.MapKept
attribute [local go_sem] Oper.semAt_some
def nthD : Nat → List Oper → Option Tmp
 | _, [] => none
 | 0, o :: _ => o.dst
 | j + 1, _ :: r => nthD j r
def eqB : Bool → Bool → Bool
 | true, w => w
 | false, true => false
 | false, false => true
def gS (ops : List Oper) (σ : Slots) : Option (Nat × Bool) → Option Bool
 | none => some true
 | some (j, want) => match nthD j ops with
  | some d => match slot d σ with
   | some (.bool b) => some (eqB b want)
   | some _ => some false
   | none => none
  | none => none
theorem nthD_eq : ∀ (j : Nat) (l : List Oper), nthD j l = (l[j]?).bind (·.dst)
 | _, [] => by simp [nthD]
 | 0, o :: _ => rfl
 | j + 1, _ :: r => by simp [nthD, nthD_eq j r]
def nth {α : Type} : Nat → List α → Option α
 | _, [] => none
 | 0, x :: _ => some x
 | j + 1, _ :: r => nth j r
theorem nth_eq {α : Type} : ∀ (j : Nat) (l : List α), nth j l = l[j]?
 | _, [] => by simp [nth]
 | 0, o :: _ => rfl
 | j + 1, _ :: r => by simp [nth, nth_eq j r]
def seg : Nat → Nat → List Value → Option (List Value)
 | 0, 0, _ => some []
 | 0, n + 1, v :: r => match seg 0 n r with
  | some vs => some (v :: vs)
  | none => none
 | o + 1, n, _ :: r => seg o n r
 | _, _, [] => none
theorem seg_get : ∀ (o n : Nat) (cs vs : List Value), seg o n cs = some vs → vs.length = n ∧ ∀ j v, vs[j]? = some v → cs[o + j]? = some v
 | 0, 0, cs, vs, h => by unfold seg at h; cases h; simp
 | 0, n + 1, [], vs, h => by simp [seg] at h
 | 0, n + 1, x :: r, vs, h => by
  unfold seg at h
  split at h
  ·rename_i ws hw
   cases h
   have ih := seg_get 0 n r ws hw
   refine ⟨by simp [ih.1], fun j v hj => ?_⟩
   cases j with
   | zero => simpa using hj
   | succ j => have := ih.2 j v (by simpa using hj); simpa using this
  ·cases h
 | o + 1, n, [], vs, h => by cases n <;> simp [seg] at h
 | o + 1, n, x :: r, vs, h => by
  have h' : seg o n r = some vs := by cases n <;> simpa [seg] using h
  have ih := seg_get o n r vs h'
  refine ⟨ih.1, fun j v hj => ?_⟩
  have := ih.2 j v hj
  rw [show o + 1 + j = (o + j) + 1 from by omega]
  simpa using this
def setSeg : Nat → List Value → List Value → Option (List Value)
 | 0, [], cs => some cs
 | 0, v :: vs, _ :: r => match setSeg 0 vs r with
  | some r' => some (v :: r')
  | none => none
 | o + 1, vs, x :: r => match setSeg o vs r with
  | some r' => some (x :: r')
  | none => none
 | _, _, [] => none
section
variable {P : Program} {ro : Option Nat} {n N : Nat} {ds : List Deferred} {w0 : World} {X : Nat → Prop} {Q : Exit → Act → World → Prop} {ops : List Oper} {σ : Slots} {η : Hp} {rest : List Oper}
variable {d : Option Tmp} {ty : TypeId} {pos : String} {aft : Array Edge} {g : Option (Nat × Bool)}
theorem wanted_of {a : Act} (ha : SOK N ds σ a) {o : Oper} {b : Bool} (h : gS ops σ o.guard = some b) : Region.wanted o (yielded ops.toArray a.tmps) = b := by
 unfold gS at h
 unfold Region.wanted
 split at h
 ·rename_i hg
  cases h
  rw [hg]
 ·rename_i j want hg
  rw [hg]
  split at h
  ·rename_i dd hd
   split at h
   ·rename_i bb hs
    cases h
    have h1 := ha.sl _ _ hs
    rw [nthD_eq] at hd
    have hd' : (ops.toArray[j]?).bind (·.dst) = some dd := by simpa using hd
    simp only [yielded, hd', Option.bind_some, h1]
    cases bb <;> cases want <;> rfl
   ·rename_i v hnb hs
    cases h
    have h1 := ha.sl _ _ hs
    rw [nthD_eq] at hd
    have hd' : (ops.toArray[j]?).bind (·.dst) = some dd := by simpa using hd
    simp only [yielded, hd', Option.bind_some, h1]
    cases v <;> first | rfl | exact absurd rfl (hnb _)
   ·cases h
  ·cases h
theorem xo_nil (h : XQ N ds w0 X Q .normal σ η) : XO P ro n N ds w0 X Q ops σ η [] := fun a w ha hw => h a w ha hw
theorem xo_base {o : Oper} (hd : isDefer o.op = false) (hg : gS ops σ o.guard = some true)
  (h : ∀ a w, SOK N ds σ a → WOK w0 X η w → ∃ nx w' v, (execOp a.eval o).run P w = .ok nx w' ∧ (nx = .value v ∨ (nx = .skip ∧ v = undef)) ∧ wpListIn (wideR ro) n P ops.toArray Q rest (a.put o.dst v) w') :
  XO P ro n N ds w0 X Q ops σ η (o :: rest) := by
 intro a w ha hw
 unfold wpListIn
 rw [if_pos (wanted_of ha hg)]
 refine ⟨fun _ _ => trivial, ?_⟩
 have hd' : ∀ c, o.op ≠ .defer c := fun c e => by rw [e] at hd; simp [isDefer] at hd
 rw [show (wideR ro).round = ro from rfl, Oper.semAt_eq ro _ _ hd']
 obtain ⟨nx, w', v, hr, hn, hk⟩ := h a w ha hw
 rw [hr]
 rcases hn with rfl | ⟨rfl, rfl⟩
 ·exact hk
 ·exact hk
theorem xo_not {o : Oper} (hg : gS ops σ o.guard = some false) (hN : dstOK N o.dst = true) (h : XO P ro n N ds w0 X Q ops (putS o.dst undef σ) η rest) : XO P ro n N ds w0 X Q ops σ η (o :: rest) := by
 intro a w ha hw
 unfold wpListIn
 rw [if_neg (by rw [wanted_of ha hg]; simp)]
 exact ⟨fun _ _ => trivial, h _ _ (ha.put hN _) hw⟩
theorem xoN {o : Oper} (h : XO P ro n N ds w0 X Q ops (putS o.dst undef σ) η rest) (hg : gS ops σ o.guard = some false := by exact rfl) (hN : dstOK N o.dst = true := by exact rfl) : XO P ro n N ds w0 X Q ops σ η (o :: rest) := xo_not hg hN h
theorem xo_val {o : Oper} (v : Value) (hd : isDefer o.op = false) (hg : gS ops σ o.guard = some true) (hN : dstOK N o.dst = true) (hrun : ∀ a w, SOK N ds σ a → WOK w0 X η w → (execOp a.eval o).run P w = .ok (.value v) w)
  (h : XO P ro n N ds w0 X Q ops (putS o.dst v σ) η rest) : XO P ro n N ds w0 X Q ops σ η (o :: rest) :=
 xo_base hd hg fun a w ha hw => ⟨_, w, v, hrun a w ha hw, .inl rfl, h _ _ (ha.put hN v) hw⟩
theorem xo_as {i : Tmp} {u v : Value} (hb : slot i σ = some u) (e : u = v) (h : XO P ro n N ds w0 X Q ops ((i, v) :: σ) η rest) : XO P ro n N ds w0 X Q ops σ η rest := by
 intro a w ha hw
 refine h a w ⟨ha.sz, fun j z hj => ?_, ha.df⟩ hw
 unfold slot at hj
 cases hq : Nat.beq i j with
 | true =>
  have e' := Nat.eq_of_beq_eq_true hq
  simp only [hq, cond_true, Option.some.injEq] at hj
  subst e'
  subst hj
  exact e ▸ ha.sl _ _ hb
 | false =>
  simp only [hq, cond_false] at hj
  exact ha.sl _ _ hj
theorem xo_mv {x : Operand} {v : Value} (hg : gS ops σ g = some true) (hx : ev σ x = some v) (hN : dstOK N d = true) (h : XO P ro n N ds w0 X Q ops (putS d v σ) η rest) : XO P ro n N ds w0 X Q ops σ η (⟨d, .move x, ty, pos, aft, g⟩ :: rest) :=
 xo_val v rfl hg hN (fun a w ha hw => by simp only [execOp, ha.ev hx]; rfl) h
theorem xoM {x : Operand} {v : Value} (h : XO P ro n N ds w0 X Q ops (putS d v σ) η rest) (hg : gS ops σ g = some true := by exact rfl) (hx : ev σ x = some v := by exact rfl) (hN : dstOK N d = true := by exact rfl) : XO P ro n N ds w0 X Q ops σ η (⟨d, .move x, ty, pos, aft, g⟩ :: rest) := xo_mv hg hx hN h
theorem xo_asg {x : Operand} {v : Value} (hg : gS ops σ g = some true) (hx : ev σ x = some v) (hN : dstOK N d = true) (h : XO P ro n N ds w0 X Q ops (putS d v σ) η rest) : XO P ro n N ds w0 X Q ops σ η (⟨d, .assign x, ty, pos, aft, g⟩ :: rest) :=
 xo_val v rfl hg hN (fun a w ha hw => by simp only [execOp, ha.ev hx]; rfl) h
theorem xoA {x : Operand} {v : Value} (h : XO P ro n N ds w0 X Q ops (putS d v σ) η rest) (hg : gS ops σ g = some true := by exact rfl) (hx : ev σ x = some v := by exact rfl) (hN : dstOK N d = true := by exact rfl) : XO P ro n N ds w0 X Q ops σ η (⟨d, .assign x, ty, pos, aft, g⟩ :: rest) := xo_asg hg hx hN h
theorem xo_pickT {c x y : Operand} {v : Value} (hg : gS ops σ g = some true) (hc : ev σ c = some (.bool true)) (hx : ev σ x = some v) (hN : dstOK N d = true) (h : XO P ro n N ds w0 X Q ops (putS d v σ) η rest) : XO P ro n N ds w0 X Q ops σ η (⟨d, .pick c x y, ty, pos, aft, g⟩ :: rest) :=
 xo_val v rfl hg hN (fun a w ha hw => by simp [execOp, ha.ev hc, ha.ev hx, asBool]) h
theorem xo_pickF {c x y : Operand} {v : Value} (hg : gS ops σ g = some true) (hc : ev σ c = some (.bool false)) (hx : ev σ y = some v) (hN : dstOK N d = true) (h : XO P ro n N ds w0 X Q ops (putS d v σ) η rest) : XO P ro n N ds w0 X Q ops σ η (⟨d, .pick c x y, ty, pos, aft, g⟩ :: rest) :=
 xo_val v rfl hg hN (fun a w ha hw => by simp [execOp, ha.ev hc, ha.ev hx, asBool]) h
theorem xo_notOp {x : Operand} {t : TypeId} {b : Bool} (hg : gS ops σ g = some true) (hx : ev σ x = some (.bool b)) (hN : dstOK N d = true) (h : XO P ro n N ds w0 X Q ops (putS d (.bool (!b)) σ) η rest) : XO P ro n N ds w0 X Q ops σ η (⟨d, .unOp .not t x, ty, pos, aft, g⟩ :: rest) :=
 xo_val _ rfl hg hN (fun a w ha hw => by simp only [execOp, ha.ev hx]; rfl) h
section
variable {t t' : TypeId} {x y : Operand} {k : IntKind} {a b : Int}
theorem xo_lss (hg : gS ops σ g = some true) (hx : ev σ x = some (.int k a)) (hy : ev σ y = some (.int k b)) (hN : dstOK N d = true) (h : XO P ro n N ds w0 X Q ops (putS d (.bool (decide (a < b))) σ) η rest) : XO P ro n N ds w0 X Q ops σ η (⟨d, .binOp .lss t x y t', ty, pos, aft, g⟩ :: rest) :=
 xo_val _ rfl hg hN (fun _ w ha hw => by simp [execOp, ha.ev hx, ha.ev hy, eqGuard_lss, binOp_lss]) h
theorem xo_leq (hg : gS ops σ g = some true) (hx : ev σ x = some (.int k a)) (hy : ev σ y = some (.int k b)) (hN : dstOK N d = true) (h : XO P ro n N ds w0 X Q ops (putS d (.bool (decide (a ≤ b))) σ) η rest) : XO P ro n N ds w0 X Q ops σ η (⟨d, .binOp .leq t x y t', ty, pos, aft, g⟩ :: rest) :=
 xo_val _ rfl hg hN (fun _ w ha hw => by simp [execOp, ha.ev hx, ha.ev hy, eqGuard_leq, binOp_leq]) h
theorem xo_gtr (hg : gS ops σ g = some true) (hx : ev σ x = some (.int k a)) (hy : ev σ y = some (.int k b)) (hN : dstOK N d = true) (h : XO P ro n N ds w0 X Q ops (putS d (.bool (decide (b < a))) σ) η rest) : XO P ro n N ds w0 X Q ops σ η (⟨d, .binOp .gtr t x y t', ty, pos, aft, g⟩ :: rest) :=
 xo_val _ rfl hg hN (fun _ w ha hw => by simp [execOp, ha.ev hx, ha.ev hy, eqGuard_gtr, binOp_gtr]) h
theorem xo_geq (hg : gS ops σ g = some true) (hx : ev σ x = some (.int k a)) (hy : ev σ y = some (.int k b)) (hN : dstOK N d = true) (h : XO P ro n N ds w0 X Q ops (putS d (.bool (decide (b ≤ a))) σ) η rest) : XO P ro n N ds w0 X Q ops σ η (⟨d, .binOp .geq t x y t', ty, pos, aft, g⟩ :: rest) :=
 xo_val _ rfl hg hN (fun _ w ha hw => by simp [execOp, ha.ev hx, ha.ev hy, eqGuard_geq, binOp_geq]) h
theorem xo_eql (hg : gS ops σ g = some true) (hx : ev σ x = some (.int k a)) (hy : ev σ y = some (.int k b)) (hN : dstOK N d = true) (h : XO P ro n N ds w0 X Q ops (putS d (.bool (decide (a = b))) σ) η rest) : XO P ro n N ds w0 X Q ops σ η (⟨d, .binOp .eql t x y t', ty, pos, aft, g⟩ :: rest) :=
 xo_val _ rfl hg hN (fun _ w ha hw => by simp [execOp, ha.ev hx, ha.ev hy, eqGuard_at_int, binOp_eql]; rfl) h
theorem xo_neq (hg : gS ops σ g = some true) (hx : ev σ x = some (.int k a)) (hy : ev σ y = some (.int k b)) (hN : dstOK N d = true) (h : XO P ro n N ds w0 X Q ops (putS d (.bool (!decide (a = b))) σ) η rest) : XO P ro n N ds w0 X Q ops σ η (⟨d, .binOp .neq t x y t', ty, pos, aft, g⟩ :: rest) :=
 xo_val _ rfl hg hN (fun _ w ha hw => by simp [execOp, ha.ev hx, ha.ev hy, eqGuard_at_int, binOp_neq]; rfl) h
theorem xo_add (hg : gS ops σ g = some true) (hx : ev σ x = some (.int .i64 a)) (hy : ev σ y = some (.int .i64 b)) (hb : -9223372036854775808 ≤ a + b ∧ a + b ≤ 9223372036854775807) (hN : dstOK N d = true) (h : XO P ro n N ds w0 X Q ops (putS d (.int .i64 (a + b)) σ) η rest) : XO P ro n N ds w0 X Q ops σ η (⟨d, .binOp .add t x y t', ty, pos, aft, g⟩ :: rest) :=
 xo_val _ rfl hg hN (fun _ w ha hw => by simp [execOp, ha.ev hx, ha.ev hy, eqGuard_add, binOp_add, Op.intArith, IntWalk.i64_in _ hb]) h
theorem xo_sub (hg : gS ops σ g = some true) (hx : ev σ x = some (.int .i64 a)) (hy : ev σ y = some (.int .i64 b)) (hb : -9223372036854775808 ≤ a - b ∧ a - b ≤ 9223372036854775807) (hN : dstOK N d = true) (h : XO P ro n N ds w0 X Q ops (putS d (.int .i64 (a - b)) σ) η rest) : XO P ro n N ds w0 X Q ops σ η (⟨d, .binOp .sub t x y t', ty, pos, aft, g⟩ :: rest) :=
 xo_val _ rfl hg hN (fun _ w ha hw => by simp [execOp, ha.ev hx, ha.ev hy, eqGuard_sub, binOp_sub, Op.intArith, IntWalk.i64_in _ hb]) h
end
theorem look_ik (T : Tys P) {t : TypeId} {k : IntKind} (h : look t T.ik = some k) : P.underlying t = some (.int k) := T.hik _ (look_mem h)
theorem xo_conv (T : Tys P) {src dst : TypeId} {x : Operand} {k k' : IntKind} {a : Int} (hg : gS ops σ g = some true) (hs : look src T.ik = some k) (hdt : look dst T.ik = some k') (hx : ev σ x = some (.int k a)) (hb : k'.wrap a = a) (hN : dstOK N d = true) (h : XO P ro n N ds w0 X Q ops (putS d (.int k' a) σ) η rest) :
  XO P ro n N ds w0 X Q ops σ η (⟨d, .convert src dst x, ty, pos, aft, g⟩ :: rest) := by
 refine xo_val _ rfl hg hN (fun _ w ha hw => ?_) h
 have h1 := look_ik T hs
 have h2 := look_ik T hdt
 have hk : P.intKind dst = k' := by simp [Program.intKind, h2]
 have := run_convert_int (P := P) w src dst k a (by simp [h1]) (by rw [hk]; exact h2)
 rw [hk, hb] at this
 simp [execOp, ha.ev hx, this]
theorem xo_ext {x : Operand} {i : Nat} {vs : List Value} {v : Value} (hg : gS ops σ g = some true) (hx : ev σ x = some (.tuple vs.toArray)) (hi : nth i vs = some v) (hN : dstOK N d = true) (h : XO P ro n N ds w0 X Q ops (putS d v σ) η rest) : XO P ro n N ds w0 X Q ops σ η (⟨d, .extract x i, ty, pos, aft, g⟩ :: rest) :=
 xo_val v rfl hg hN (fun a w ha hw => by rw [nth_eq] at hi; simp [execOp, ha.ev hx, Instr.extract, hi]) h
theorem xo_mkf {fn : Fn} {first cap : List Operand} {vs us : List Value} (hg : gS ops σ g = some true) (h1 : evs σ first = some vs) (h2 : evs σ cap = some us) (hN : dstOK N d = true) (h : XO P ro n N ds w0 X Q ops (putS d (.func fn vs.toArray us.toArray) σ) η rest) : XO P ro n N ds w0 X Q ops σ η (⟨d, .makeFunc fn first.toArray cap.toArray, ty, pos, aft, g⟩ :: rest) :=
 xo_val _ rfl hg hN (fun a w ha hw => by simp [execOp, Instr.makeFunc, ha.evs h1, ha.evs h2]) h
theorem xo_fa (T : Tys P) {s : TypeId} {x : Operand} {f : Nat} {offs : List Nat} {off : Nat} {b o : Nat} (hg : gS ops σ g = some true) (hs : look s T.fo = some offs) (ho : nth f offs = some off) (hx : ev σ x = some (.pointer (some ⟨b, o, none⟩))) (hN : dstOK N d = true)
  (h : XO P ro n N ds w0 X Q ops (putS d (.pointer (some ⟨b, o + off, none⟩)) σ) η rest) : XO P ro n N ds w0 X Q ops σ η (⟨d, .fieldAddr s x f, ty, pos, aft, g⟩ :: rest) :=
 xo_val _ rfl hg hN (fun a w ha hw => by
  have := T.hfo _ (look_mem hs) f off (by rw [← nth_eq]; exact ho) ⟨b, o, none⟩ w
  rw [Addr.add_lit] at this
  simp [execOp, ha.ev hx, this]) h
theorem xo_faR (T : Tys P) {s : TypeId} {x : Operand} {f : Nat} {offs : List Nat} {off : Nat} {p : Addr} (hg : gS ops σ g = some true) (hs : look s T.fo = some offs) (ho : nth f offs = some off) (hx : ev σ x = some (.pointer (some p))) (hN : dstOK N d = true)
  (h : XO P ro n N ds w0 X Q ops (putS d (.pointer (some (p.add off))) σ) η rest) : XO P ro n N ds w0 X Q ops σ η (⟨d, .fieldAddr s x f, ty, pos, aft, g⟩ :: rest) :=
 xo_val _ rfl hg hN (fun a w ha hw => by
  have := T.hfo _ (look_mem hs) f off (by rw [← nth_eq]; exact ho) p w
  simp [execOp, ha.ev hx, this]) h
def szN (k : Nat) : Nat := bif Nat.beq k 0 then 1 else k
theorem xo_ia (T : Tys P) {t e : TypeId} {k0 : Nat} {x ix : Operand} {p : Addr} {len cap : Nat} {k : IntKind} {i : Int} (hg : gS ops σ g = some true) (he : look t T.el = some e) (hk : look e T.tk = some k0) (hx : ev σ x = some (.slice (some p) len cap)) (hi : ev σ ix = some (.int k i))
  (hb : 0 ≤ i ∧ i < (len : Int)) (hN : dstOK N d = true) (h : XO P ro n N ds w0 X Q ops (putS d (.pointer (some (p.add (i.toNat * szN k0)))) σ) η rest) : XO P ro n N ds w0 X Q ops σ η (⟨d, .indexAddr t x ix, ty, pos, aft, g⟩ :: rest) := by
 refine xo_val _ rfl hg hN (fun a w ha hw => ?_) h
 have h1 := T.hel _ (look_mem he)
 simp only at h1
 have h2 := (T.htk _ (look_mem hk)).2 w
 have hel : P.elem t = e := by simp [Program.elem, h1]
 have := run_indexAt_slice (P := P) w t p len cap k i (by rw [hel]; exact h1)
 rw [if_pos hb, hel, h2] at this
 simp only [Result.andThen_ok] at this
 simp [execOp, ha.ev hx, ha.ev hi, this, szN]
def RO (w0 : World) (X : Nat → Prop) (p : Addr) (cs : List Value) : Prop := ∀ j v, cs[j]? = some v → w0.cell? (p.add j) = some v ∧ ¬ X (p.add j).block
theorem xo_load0 (T : Tys P) {t : TypeId} {x : Operand} {b i : Nat} {wr : Bool} {cs : List Value} {te : TypeId} {v : Value} (hg : gS ops σ g = some true) (ht : look t T.tk = some 0) (hx : ev σ x = some (.pointer (some ⟨b, i, none⟩))) (hm : (b, wr, cel cs te) ∈ η) (hv : nth i cs = some v) (hN : dstOK N d = true)
  (h : XO P ro n N ds w0 X Q ops (putS d v σ) η rest) : XO P ro n N ds w0 X Q ops σ η (⟨d, .load t x, ty, pos, aft, g⟩ :: rest) :=
 xo_val v rfl hg hN (fun a w ha hw => by
  have h1 := (T.htk _ (look_mem ht)).1 w
  have h2 := hw.cell hm i (by rw [← nth_eq]; exact hv)
  simp [execOp, ha.ev hx, Instr.loadAt, Instr.sureAddr, loadVar, h1, h2]) h
theorem xo_loadN (T : Tys P) {t : TypeId} {x : Operand} {b i k : Nat} {wr : Bool} {cs vs : List Value} {te : TypeId} (hg : gS ops σ g = some true) (ht : look t T.tk = some (k + 1)) (hx : ev σ x = some (.pointer (some ⟨b, i, none⟩))) (hm : (b, wr, cel cs te) ∈ η) (hv : seg i (k + 1) cs = some vs) (hN : dstOK N d = true)
  (h : XO P ro n N ds w0 X Q ops (putS d (.agg vs.toArray) σ) η rest) : XO P ro n N ds w0 X Q ops σ η (⟨d, .load t x, ty, pos, aft, g⟩ :: rest) :=
 xo_val _ rfl hg hN (fun a w ha hw => by
  obtain ⟨h1, h3_⟩ := T.htk _ (look_mem ht)
  have h3 : ∀ w, (sizeOf t).run P w = .ok (k + 1) w := h3_
  have h1 : ∀ w, (isAgg t).run P w = .ok true w := fun w => (h1 w).trans (by simp [Nat.blt])
  clear h3_
  have hs := seg_get _ _ _ _ hv
  have h2 := run_loadCells_list (P := P) (w := w) ⟨b, i, none⟩ vs (fun j v hj => by rw [Addr.add_lit]; exact hw.cell hm (i + j) (hs.2 j v hj))
  rw [hs.1] at h2
  simp [execOp, ha.ev hx, Instr.loadAt, Instr.sureAddr, loadVar, h1, h3, h2]) h
theorem xo_loadR0 (T : Tys P) {t : TypeId} {x : Operand} {p : Addr} {v : Value} (hg : gS ops σ g = some true) (ht : look t T.tk = some 0) (hx : ev σ x = some (.pointer (some p))) (hc : RO w0 X p [v]) (hN : dstOK N d = true)
  (h : XO P ro n N ds w0 X Q ops (putS d v σ) η rest) : XO P ro n N ds w0 X Q ops σ η (⟨d, .load t x, ty, pos, aft, g⟩ :: rest) :=
 xo_val v rfl hg hN (fun a w ha hw => by
  have h1 := (T.htk _ (look_mem ht)).1 w
  have h0 := hc 0 v rfl
  rw [Addr.add_zero'] at h0
  have h2 := hw.kx.cell h0.1 h0.2
  simp [execOp, ha.ev hx, Instr.loadAt, Instr.sureAddr, loadVar, h1, h2]) h
theorem xo_loadRN (T : Tys P) {t : TypeId} {x : Operand} {p : Addr} {k : Nat} {vs : List Value} (hg : gS ops σ g = some true) (ht : look t T.tk = some (k + 1)) (hx : ev σ x = some (.pointer (some p))) (hc : RO w0 X p vs) (hl : vs.length = k + 1) (hN : dstOK N d = true)
  (h : XO P ro n N ds w0 X Q ops (putS d (.agg vs.toArray) σ) η rest) : XO P ro n N ds w0 X Q ops σ η (⟨d, .load t x, ty, pos, aft, g⟩ :: rest) :=
 xo_val _ rfl hg hN (fun a w ha hw => by
  obtain ⟨h1, h3_⟩ := T.htk _ (look_mem ht)
  have h3 : ∀ w, (sizeOf t).run P w = .ok (k + 1) w := h3_
  have h1 : ∀ w, (isAgg t).run P w = .ok true w := fun w => (h1 w).trans (by simp [Nat.blt])
  clear h3_
  have h2 := run_loadCells_list (P := P) (w := w) p vs (fun j v hj => hw.kx.cell (hc j v hj).1 (hc j v hj).2)
  rw [hl] at h2
  simp [execOp, ha.ev hx, Instr.loadAt, Instr.sureAddr, loadVar, h1, h3, h2]) h
theorem xo_alloc (T : Tys P) {t : TypeId} {z : Value} {cs : List Value} (hg : gS ops σ g = some true) (hz : look t T.zs = some z) (hc : z.cells.toList = cs) (hN : dstOK N d = true)
  (h : ∀ b, XO P ro n N ds w0 X Q ops (putS d (.pointer (some ⟨b, 0, none⟩)) σ) ((b, true, cel cs t) :: η) rest) : XO P ro n N ds w0 X Q ops σ η (⟨d, .alloc t, ty, pos, aft, g⟩ :: rest) :=
 xo_base rfl hg fun a w ha hw => by
  have h1 := T.hzs _ (look_mem hz) w
  refine ⟨_, w.alloc (.cells z.cells t), .pointer (some ⟨w.heap.size, 0, none⟩), ?_, .inl rfl, h _ _ _ (ha.put hN _) (hw.alloc _ _ ?_)⟩
  ·simp only [execOp, Instr.alloc, Sem.run_bind, h1, Result.andThen_ok]
   rfl
  ·rw [← hc]; simp [cel]
theorem xo_box {t : TypeId} {x : Operand} {v : Value} {cs : List Value} (hg : gS ops σ g = some true) (hx : ev σ x = some v) (hc : v.cells.toList = cs) (hN : dstOK N d = true)
  (h : ∀ b, XO P ro n N ds w0 X Q ops (putS d (.pointer (some ⟨b, 0, none⟩)) σ) ((b, true, cel cs t) :: η) rest) : XO P ro n N ds w0 X Q ops σ η (⟨d, .box t x, ty, pos, aft, g⟩ :: rest) :=
 xo_base rfl hg fun a w ha hw => by
  refine ⟨_, w.alloc (.cells v.cells t), .pointer (some ⟨w.heap.size, 0, none⟩), ?_, .inl rfl, h _ _ _ (ha.put hN _) (hw.alloc _ _ ?_)⟩
  ·simp only [execOp, Instr.box, Sem.run_bind, ha.ev hx, Result.andThen_ok]
   rfl
  ·rw [← hc]; simp [cel]
theorem run_storeCells (b : Nat) (te : TypeId) : ∀ (vs cs : List Value) (i j : Nat) (cs' : List Value) (w : World), (∀ v ∈ vs, v.oneCell' = true) → setSeg (i + j) vs cs = some cs' → w.heap[b]? = some (.cells cs.toArray te (0, 0)) →
  ∃ w', (storeCells ⟨b, i, none⟩ vs j).run P w = .ok () w' ∧ OneB b w w' ∧ w'.heap[b]? = some (.cells cs'.toArray te (0, 0)) := by
 have put1 : ∀ (k : Nat) (v : Value) (vs cs cs' : List Value), setSeg k (v :: vs) cs = some cs' → k < cs.length ∧ setSeg (k + 1) vs (cs.set k v) = some cs' := by
  intro k
  induction k with
  | zero =>
   intro v vs cs cs' h
   cases cs with
   | nil => simp [setSeg] at h
   | cons x r =>
    simp only [setSeg] at h
    split at h
    ·rename_i r' hr
     cases h
     refine ⟨by simp, ?_⟩
     simp only [List.set_cons_zero, setSeg, Nat.zero_add, hr]
    ·cases h
  | succ k ih =>
   intro v vs cs cs' h
   cases cs with
   | nil => simp [setSeg] at h
   | cons x r =>
    simp only [setSeg] at h
    split at h
    ·rename_i r' hr
     cases h
     have := ih v vs r r' hr
     refine ⟨by simp; exact this.1, ?_⟩
     simp only [List.set_cons_succ, setSeg, this.2]
    ·cases h
 have done : ∀ (k : Nat) (cs cs' : List Value), setSeg k [] cs = some cs' → cs' = cs := by
  intro k
  induction k with
  | zero => intro cs cs' h; simp [setSeg] at h; exact h.symm
  | succ k ih =>
   intro cs cs' h
   cases cs with
   | nil => simp [setSeg] at h
   | cons x r =>
    simp only [setSeg] at h
    split at h
    ·rename_i r' hr
     cases h
     rw [ih r r' hr]
    ·cases h
 intro vs
 induction vs with
 | nil =>
  intro cs i j cs' w _ hs hb
  have := done _ _ _ hs
  subst this
  exact ⟨w, rfl, OneB.refl b w, hb⟩
 | cons v vs ih =>
  intro cs i j cs' w h1 hs hb
  obtain ⟨hlt, hs'⟩ := put1 _ _ _ _ _ hs
  have hcell : w.cell? ⟨b, i + j, none⟩ = some (cs[i + j]'hlt) := by
   rw [cell_of_row w b (i + j) _ te _ hb]
   simp [List.getElem?_eq_getElem hlt]
  have hfz : w.frozen? ⟨b, i + j, none⟩ = false := frozen_of_row w b (i + j) _ te hb
  have hst : (store ⟨b, i + j, none⟩ v .plain).run P w = .ok () (w.setCell ⟨b, i + j, none⟩ v) := by
   rw [run_store P w _ v _ (h1 v (List.mem_cons_self ..)), hcell]
   simp [hfz]
  have hb' : (w.setCell ⟨b, i + j, none⟩ v).heap[b]? = some (.cells (cs.set (i + j) v).toArray te (0, 0)) := by
   rw [heap_setCell_same w b (i + j) _ te v hb]
   simp
  obtain ⟨w', hr, ho, hb2⟩ := ih (cs.set (i + j) v) i (j + 1) cs' _ (fun u hu => h1 u (List.mem_cons_of_mem _ hu)) (by rw [show i + (j + 1) = i + j + 1 from rfl]; exact hs') hb'
  refine ⟨w', ?_, (OneB.setCell w b (i + j) v).trans ho, hb2⟩
  simp only [storeCells, Addr.add_lit, Sem.run_bind, hst, Result.andThen_ok, hr]
theorem xo_store (T : Tys P) {t : TypeId} {p x : Operand} {b i k0 : Nat} {cs cs' vs : List Value} {te : TypeId} {v : Value} {η' : Hp} (hg : gS ops σ g = some true) (ht : look t T.tk = some k0) (hp : ev σ p = some (.pointer (some ⟨b, i, none⟩))) (hx : ev σ x = some v)
  (hm : (b, true, cel cs te) ∈ η) (hvs : v.cells.toList = vs) (hl : Nat.beq vs.length (szN k0) = true) (h1 : vs.all (·.oneCell') = true) (hs : setSeg i vs cs = some cs') (hU : Upd b (cel cs' te) η η') (hN : dstOK N d = true)
  (h : XO P ro n N ds w0 X Q ops (putS d undef σ) η' rest) : XO P ro n N ds w0 X Q ops σ η (⟨d, .store t p x, ty, pos, aft, g⟩ :: rest) :=
 xo_base rfl hg fun a w ha hw => by
  have h2 := (T.htk _ (look_mem ht)).2 w
  obtain ⟨w', hr, ho, hb⟩ := run_storeCells (P := P) b te vs cs i 0 cs' w (by simpa using h1) hs (hw.obj hm)
  refine ⟨_, w', undef, ?_, .inr ⟨rfl, rfl⟩, h _ _ (ha.put hN _) (hw.upd hU ho hb rfl)⟩
  have hlen : v.cells.size = szN k0 := by have := Nat.eq_of_beq_eq_true hl; rw [← this, ← hvs]; simp
  unfold szN at hlen
  simp only [execOp, ha.ev hp, ha.ev hx, Instr.storeAt, Instr.sureAddr, storeVar, Sem.run_bind, Sem.run_pure, Result.andThen_ok, h2, hlen, hvs, hr, ne_eq, not_true_eq_false, ↓reduceIte]
end
end Go.Proofs.YtommeljlfkmpjaaDoor
namespace Go.Proofs.YtommeljlfkmpjaaDoor
open Go.RowKit Go.MapKept
attribute [local go_sem] Oper.semAt_some
def hmap (l : List (Int × Value)) : HP := fun o => ∃ es c, o = .map es c ∧ Ents es c l
def setV (s : List Int) : List (Int × Value) := s.map fun i => (i, .bool true)
def insN (x : Int) (s : List Int) : List Int := if x ∈ s then s else s ++ [x]
theorem mem_insN {x y : Int} {s : List Int} : y ∈ insN x s ↔ y = x ∨ y ∈ s := by
 unfold insN
 split
 ·constructor
  ·exact .inr
  ·rintro (rfl | h)
   ·assumption
   ·exact h
 ·simp [or_comm]
theorem imSet_setV (x : Int) : ∀ s : List Int, imSet x (.bool true) (setV s) = setV (insN x s)
 | [] => rfl
 | p :: r => by
  have ih := imSet_setV x r
  simp only [setV, insN] at *
  by_cases h : p = x
  ·subst h; simp [imSet]
  ·simp only [List.map_cons, imSet, h, ↓reduceIte, ih]
   by_cases hx : x ∈ r
   ·simp [hx]
   ·simp [hx, show ¬ x = p from fun e => h e.symm]
theorem imap_of {w : World} {b : Nat} {l : List (Int × Value)} {o : Obj} (h1 : w.heap[b]? = some o) (h2 : hmap l o) : IMap w b l := by
 obtain ⟨es, c, rfl, hE⟩ := h2
 exact ⟨es, c, h1, hE⟩
theorem hmap_of {w : World} {b : Nat} {l : List (Int × Value)} (h : IMap w b l) : ∃ o, w.heap[b]? = some o ∧ hmap l o := by
 obtain ⟨es, c, h1, h2⟩ := h
 exact ⟨_, h1, es, c, rfl, h2⟩
section
variable {P : Program} {ro : Option Nat} {n N : Nat} {ds : List Deferred} {w0 : World} {X : Nat → Prop} {Q : Exit → Act → World → Prop} {ops : List Oper} {σ : Slots} {η : Hp} {rest : List Oper}
variable {d : Option Tmp} {ty : TypeId} {pos : String} {aft : Array Edge} {g : Option (Nat × Bool)}
theorem WOK.imap {w : World} (h : WOK w0 X η w) {b : Nat} {wr : Bool} {l : List (Int × Value)} (he : (b, wr, hmap l) ∈ η) : IMap w b l := by
 obtain ⟨o, h1, h2⟩ := h.bl _ he
 exact imap_of h1 h2
theorem xo_call {fo : Operand} {xs : List Operand} {ats : Array TypeId} {f : FuncId} {vs fs cs : List Value} (hg : gS ops σ g = some true) (hf : ev σ fo = some (.func (.func f) fs.toArray cs.toArray)) (ha_ : evs σ xs = some vs)
  (eg : ∀ args w, (callFunc f args).run P w = .ok (.enter f args) w) (hN : dstOK N d = true)
  (hc : ∀ w, WOK w0 X η w → Calls P f (fs ++ vs ++ cs).toArray w fun e w' => ∃ v η', e = .returned v ∧ WOK w0 X η' w' ∧ XO P ro n N ds w0 X Q ops (putS d v σ) η' rest) :
  XO P ro n N ds w0 X Q ops σ η (⟨d, .call { callee := .value fo, args := xs.toArray, argTypes := ats }, ty, pos, aft, g⟩ :: rest) := by
 intro a w ha hw
 unfold wpListIn
 rw [if_pos (wanted_of ha (o := ⟨d, .call { callee := .value fo, args := xs.toArray, argTypes := ats }, ty, pos, aft, g⟩) hg)]
 refine ⟨fun _ _ => trivial, ?_⟩
 rw [show (wideR ro).round = ro from rfl, Oper.semAt_eq ro _ _ (fun c e => by cases e)]
 have hrun : (execOp a.eval ⟨d, .call { callee := .value fo, args := xs.toArray, argTypes := ats }, ty, pos, aft, g⟩).run P w = .ok (.enter f (fs ++ vs ++ cs).toArray) w := by
  simp [execOp, resolve, Deferred.ofValue, invoke, ha.ev hf, ha.evs ha_, eg]
 rw [hrun]
 refine ⟨(fun h => by cases h), callsIn_wideR ((hc w hw).mono ?_)⟩
 rintro e w' ⟨v, η', rfl, hw', hk⟩
 exact hk _ _ (ha.put hN v) hw'
theorem xo_callB {fo : Operand} {xs : List Operand} {ats : Array TypeId} {f : FuncId} {vs fs cs : List Value} {v : Value} (hg : gS ops σ g = some true) (hf : ev σ fo = some (.func (.func f) fs.toArray cs.toArray)) (ha_ : evs σ xs = some vs)
  (eg : ∀ args w, (callFunc f args).run P w = .ok (.enter f args) w) (hN : dstOK N d = true)
  (hc : ∀ w, WOK w0 X η w → Calls P f (fs ++ vs ++ cs).toArray w fun e w' => e = .returned v ∧ Below w.heap.size w w') (h : XO P ro n N ds w0 X Q ops (putS d v σ) η rest) :
  XO P ro n N ds w0 X Q ops σ η (⟨d, .call { callee := .value fo, args := xs.toArray, argTypes := ats }, ty, pos, aft, g⟩ :: rest) :=
 xo_call hg hf ha_ eg hN fun w hw => (hc w hw).mono fun e w' ⟨he, hb⟩ => ⟨v, η, he, hw.below hb, h⟩
theorem xo_bi {b : Builtin} {xs : List Operand} {ats : Array TypeId} {vs : List Value} (v : Value) (hg : gS ops σ g = some true) (ha_ : evs σ xs = some vs) (hN : dstOK N d = true)
  (hrun : ∀ w, WOK w0 X η w → ∀ cs, (builtin b ats ty cs vs.toArray).run P w = .ok (.value v) w) (h : XO P ro n N ds w0 X Q ops (putS d v σ) η rest) :
  XO P ro n N ds w0 X Q ops σ η (⟨d, .call { callee := .builtin b, args := xs.toArray, argTypes := ats }, ty, pos, aft, g⟩ :: rest) :=
 xo_val v rfl hg hN (fun a w ha hw => by
  simp [execOp, resolve, invoke, ha.evs ha_]
  exact hrun w hw _) h
theorem xo_len (T : Tys P) {x : Operand} {t e : TypeId} {A : Option Addr} {len cap : Nat} (hg : gS ops σ g = some true) (hx : ev σ x = some (.slice A len cap)) (ht : look t T.el = some e) (hN : dstOK N d = true) (h : XO P ro n N ds w0 X Q ops (putS d (.int .i64 (len : Int)) σ) η rest) :
  XO P ro n N ds w0 X Q ops σ η (⟨d, .call { callee := .builtin .len, args := #[x], argTypes := #[t] }, ty, pos, aft, g⟩ :: rest) := by
 refine xo_bi (xs := [x]) (vs := [.slice A len cap]) _ hg (by simp [evs, hx]) hN (fun w hw cs => ?_) h
 have h1 := T.hel _ (look_mem ht)
 have := run_len_slice (P := P) w t ty A len cap (by simp only [Program.elem]; rw [show P.underlying t = _ from h1])
 simp [builtin, this, goInt]
theorem xo_mkm {t : TypeId} (hg : gS ops σ g = some true) (hN : dstOK N d = true) (h : ∀ b, XO P ro n N ds w0 X Q ops (putS d (.map (some b)) σ) ((b, true, hmap []) :: η) rest) :
  XO P ro n N ds w0 X Q ops σ η (⟨d, .makeMap t none, ty, pos, aft, g⟩ :: rest) :=
 xo_base rfl hg fun a w ha hw => by
  refine ⟨_, w.alloc (.map #[] 0), .map (some w.heap.size), ?_, .inl rfl, h _ _ _ (ha.put hN _) (hw.alloc _ _ ⟨#[], 0, rfl, ⟨rfl, by simp, by simp, by simp⟩⟩)⟩
  simp [execOp, Instr.makeMap]
theorem xo_mupd (T : Tys P) {t tk te : TypeId} {m x y : Operand} {b : Nat} {l : List (Int × Value)} {k : Int} {v : Value} {η' : Hp} (hg : gS ops σ g = some true) (ht : look t T.mp = some (tk, te)) (hk : look tk T.ik = some .i64) (hm : ev σ m = some (.map (some b))) (hx : ev σ x = some (.int .i64 k)) (hy : ev σ y = some v)
  (hb : (b, true, hmap l) ∈ η) (hU : Upd b (hmap (imSet k v l)) η η') (hN : dstOK N d = true) (h : XO P ro n N ds w0 X Q ops (putS d undef σ) η' rest) :
  XO P ro n N ds w0 X Q ops σ η (⟨d, .mapUpdate t m x y, ty, pos, aft, g⟩ :: rest) :=
 xo_base rfl hg fun a w ha hw => by
  obtain ⟨o, hr, hM⟩ := (hw.imap hb).store (P := P) (T.hmp _ (look_mem ht)) (T.hik _ (look_mem hk)) k v
  obtain ⟨o', h1, h2⟩ := hmap_of hM
  refine ⟨.skip, _, undef, ?_, .inr ⟨rfl, rfl⟩, h _ _ (ha.put hN _) (hw.upd hU (OneB.putObj w b o) h1 h2)⟩
  simp [execOp, ha.ev hm, ha.ev hx, ha.ev hy, hr]
theorem xo_sins (T : Tys P) {t tk te : TypeId} {m x y : Operand} {b : Nat} {s : List Int} {k : Int} {η' : Hp} (hg : gS ops σ g = some true) (ht : look t T.mp = some (tk, te)) (hk : look tk T.ik = some .i64) (hm : ev σ m = some (.map (some b))) (hx : ev σ x = some (.int .i64 k)) (hy : ev σ y = some (.bool true))
  (hb : (b, true, hmap (setV s)) ∈ η) (hU : Upd b (hmap (setV (insN k s))) η η') (hN : dstOK N d = true) (h : XO P ro n N ds w0 X Q ops (putS d undef σ) η' rest) :
  XO P ro n N ds w0 X Q ops σ η (⟨d, .mapUpdate t m x y, ty, pos, aft, g⟩ :: rest) :=
 xo_mupd T hg ht hk hm hx hy hb (by rw [imSet_setV]; exact hU) hN h
theorem xo_bs1 (T : Tys P) {t e : TypeId} {x : Operand} {v z : Value} (hg : gS ops σ g = some true) (ht : look t T.el = some e) (hk : look e T.tk = some 0) (hz : look e T.zs = some z) (hzc : z.cells.toList.length = 1) (hx : ev σ x = some v) (hv : v.cells = #[v]) (hN : dstOK N d = true)
  (h : ∀ b, XO P ro n N ds w0 X Q ops (putS d (.slice (some ⟨b, 0, none⟩) 1 1) σ) ((b, true, cel [v] e) :: η) rest) : XO P ro n N ds w0 X Q ops σ η (⟨d, .buildSlice t 1 #[(0, x)], ty, pos, aft, g⟩ :: rest) :=
 xo_base rfl hg fun a w ha hw => by
  have h1 := T.hel _ (look_mem ht)
  have h2 : (sizeOf e).run P w = .ok 1 w := (T.htk _ (look_mem hk)).2 w
  have h3 := T.hzs _ (look_mem hz) w
  refine ⟨_, w.alloc (.cells #[v] e), .slice (some ⟨w.heap.size, 0, none⟩) 1 1, ?_, .inl rfl, h _ _ _ (ha.put hN _) (hw.alloc _ _ rfl)⟩
  have hz1 : z.cells.size = 1 := by simpa using hzc
  simp only at h1 h2 h3
  simp [execOp, Instr.buildSlice, run_underlying h1, h2, h3, ha.ev hx, Instr.fill, hv, hz1, newRow, Array.range_succ, Array.range_zero']
theorem xo_bs2 (T : Tys P) {t e : TypeId} {x y : Operand} {v u z : Value} (hg : gS ops σ g = some true) (ht : look t T.el = some e) (hk : look e T.tk = some 0) (hz : look e T.zs = some z) (hzc : z.cells.toList.length = 1) (hx : ev σ x = some v) (hy : ev σ y = some u) (hv : v.cells = #[v]) (hu : u.cells = #[u]) (hN : dstOK N d = true)
  (h : ∀ b, XO P ro n N ds w0 X Q ops (putS d (.slice (some ⟨b, 0, none⟩) 2 2) σ) ((b, true, cel [v, u] e) :: η) rest) : XO P ro n N ds w0 X Q ops σ η (⟨d, .buildSlice t 2 #[(0, x), (1, y)], ty, pos, aft, g⟩ :: rest) :=
 xo_base rfl hg fun a w ha hw => by
  have h1 := T.hel _ (look_mem ht)
  have h2 : (sizeOf e).run P w = .ok 1 w := (T.htk _ (look_mem hk)).2 w
  have h3 := T.hzs _ (look_mem hz) w
  refine ⟨_, w.alloc (.cells #[v, u] e), .slice (some ⟨w.heap.size, 0, none⟩) 2 2, ?_, .inl rfl, h _ _ _ (ha.put hN _) (hw.alloc _ _ rfl)⟩
  have hz1 : z.cells.size = 1 := by simpa using hzc
  simp only at h1 h2 h3
  simp [execOp, Instr.buildSlice, run_underlying h1, h2, h3, ha.ev hx, ha.ev hy, Instr.fill, hv, hu, hz1, newRow, Array.range_succ, Array.range_zero']
end
def argS : Nat → List Value → Slots
 | _, [] => []
 | i, v :: r => (i, v) :: argS (i + 1) r
theorem slot_argS : ∀ (vs : List Value) (i j : Nat) (v : Value), slot j (argS i vs) = some v → i ≤ j ∧ vs[j - i]? = some v
 | [], i, j, v, h => by cases h
 | u :: r, i, j, v, h => by
  unfold argS slot at h
  cases hq : Nat.beq i j with
  | true =>
   have e := Nat.eq_of_beq_eq_true hq
   simp only [hq, cond_true, Option.some.injEq] at h
   subst e
   subst h
   simp
  | false =>
   simp only [hq, cond_false] at h
   obtain ⟨h1, h2⟩ := slot_argS r (i + 1) j v h
   have h3 : i ≤ j := by omega
   refine ⟨h3, ?_⟩
   rw [show j - i = (j - (i + 1)) + 1 from by omega]
   simpa using h2
theorem SOK.args (vs : List Value) (N : Nat) (h : vs.length ≤ N) : SOK N [] (argS 0 vs) { tmps := vs.toArray ++ Array.replicate (N - vs.toArray.size) undef, defers := [] } := by
 refine ⟨by simp; omega, fun i v hv => ?_, rfl⟩
 obtain ⟨_, h2⟩ := slot_argS vs 0 i v hv
 simp only [Nat.sub_zero] at h2
 have hlt : i < vs.length := (List.getElem?_eq_some_iff.1 h2).1
 rw [Array.getElem?_append_left (by simpa using hlt)]
 simpa using h2
theorem x_calls {P : Program} {f : FuncId} {fn : Func} {c : Code} {vs : List Value} {w : World} {R : Ending → World → Prop} {X : Nat → Prop} (hf : P.funcs[f]? = some fn) (hb : fn.body = some c) {N : Nat} (hn : fn.ntmps = N) (hl : Nat.ble vs.length N = true)
  (h : XC P none 0 N [] w X (bodyPost P fn R) (argS 0 vs) [] c) : Calls P f vs.toArray w R := by
 subst hn
 exact (callsIn_wide (n := 0)).1 (callsIn_of_wp hf hb trivial (h _ w (SOK.args vs _ (Nat.le_of_ble_eq_true hl)) (WOK.start X w)) rfl)
section
variable {P : Program} {N : Nat} {w0 : World} {X : Nat → Prop} {fn : Func} {R : Ending → World → Prop} {σ : Slots} {η : Hp}
theorem xq_ret1 {t : Tmp} {v : Value} (hf : fn.results = #[.tmp t]) (hv : slot t σ = some v) (h : ∀ w, WOK w0 X η w → R (.returned v) w) : XQ N [] w0 X (bodyPost P fn R) .ret σ η :=
 fun a w ha hw => ⟨ha.df, v, by rw [results_tmp hf, getD_of (ha.sl _ _ hv)], h w hw⟩
theorem xq_ret2 {t u : Tmp} {v x : Value} (hf : fn.results = #[.tmp t, .tmp u]) (hv : slot t σ = some v) (hx : slot u σ = some x) (h : ∀ w, WOK w0 X η w → R (.returned (.tuple #[v, x])) w) : XQ N [] w0 X (bodyPost P fn R) .ret σ η :=
 fun a w ha hw => ⟨ha.df, _, by rw [results_tmp2 hf, getD_of (ha.sl _ _ hv), getD_of (ha.sl _ _ hx)], h w hw⟩
theorem xq_ret0 (hf : fn.results = #[]) (h : ∀ w, WOK w0 X η w → R (.returned (.tuple #[])) w) : XQ N [] w0 X (bodyPost P fn R) .ret σ η :=
 fun a w ha hw => ⟨ha.df, _, by rw [results_none hf], h w hw⟩
theorem xq_end0 (hf : fn.results = #[]) (h : ∀ w, WOK w0 X η w → R (.returned (.tuple #[])) w) : XQ N [] w0 X (bodyPost P fn R) .normal σ η :=
 fun a w ha hw => ⟨ha.df, _, by rw [results_none hf], h w hw⟩
theorem run_loadVar_cel (T : Tys P) {w : World} (hw : WOK w0 X η w) {t : TypeId} {b i k : Nat} {wr : Bool} {cs vs : List Value} {te : TypeId} (ht : look t T.tk = some (k + 1)) (hm : (b, wr, cel cs te) ∈ η) (hv : seg i (k + 1) cs = some vs) :
  (loadVar t ⟨b, i, none⟩).run P w = .ok (.agg vs.toArray) w := by
 obtain ⟨h1, h3_⟩ := T.htk _ (look_mem ht)
 have h3 : ∀ w, (sizeOf t).run P w = .ok (k + 1) w := h3_
 have h1 : ∀ w, (isAgg t).run P w = .ok true w := fun w => (h1 w).trans (by simp [Nat.blt])
 have hs := seg_get _ _ _ _ hv
 have h2 := run_loadCells_list (P := P) (w := w) ⟨b, i, none⟩ vs (fun j v hj => by rw [Addr.add_lit]; exact hw.cell hm (i + j) (hs.2 j v hj))
 rw [hs.1] at h2
 simp [loadVar, h1, h3, h2]
theorem xq_retC (T : Tys P) {t : Tmp} {ts : TypeId} {b i k : Nat} {wr : Bool} {cs vs : List Value} {te : TypeId} (hf : fn.results = #[.cell t ts]) (hv : slot t σ = some (.pointer (some ⟨b, i, none⟩)))
  (ht : look ts T.tk = some (k + 1)) (hm : (b, wr, cel cs te) ∈ η) (hs : seg i (k + 1) cs = some vs) (h : ∀ w, WOK w0 X η w → R (.returned (.agg vs.toArray)) w) : XQ N [] w0 X (bodyPost P fn R) .ret σ η :=
 fun a w ha hw => ⟨ha.df, .agg vs.toArray, by
  have := run_loadVar_cel T hw ht hm hs
  simp [results, hf, ha.sl _ _ hv, asAddr, this], h w hw⟩
end
end Go.Proofs.YtommeljlfkmpjaaDoor
namespace Go.Proofs.YtommeljlfkmpjaaDoor
section
variable {P : Program} {ro : Option Nat} {n N : Nat} {ds : List Deferred} {w0 : World} {X : Nat → Prop} {Q : Exit → Act → World → Prop} {ops : List Oper} {σ : Slots} {η : Hp} {rest : List Oper}
variable {d : Option Tmp} {ty : TypeId} {pos : String} {aft : Array Edge} {g : Option (Nat × Bool)}
theorem xo_min {x y : Operand} {ats : Array TypeId} {a b : Int} (hg : gS ops σ g = some true) (hx : ev σ x = some (.int .i64 a)) (hy : ev σ y = some (.int .i64 b)) (hN : dstOK N d = true) (h : XO P ro n N ds w0 X Q ops (putS d (.int .i64 (if b < a then b else a)) σ) η rest) :
  XO P ro n N ds w0 X Q ops σ η (⟨d, .call { callee := .builtin .min, args := #[x, y], argTypes := ats }, ty, pos, aft, g⟩ :: rest) := by
 refine xo_bi (xs := [x, y]) (vs := [.int .i64 a, .int .i64 b]) _ hg (by simp [evs, hx, hy]) hN (fun w hw cs => ?_) h
 have : (Builtin.min_ ats ty #[.int .i64 a, .int .i64 b]).run P w = .ok (.int .i64 (if b < a then b else a)) w := by go_simp
 simp [builtin, this]
theorem xo_max {x y : Operand} {ats : Array TypeId} {a b : Int} (hg : gS ops σ g = some true) (hx : ev σ x = some (.int .i64 a)) (hy : ev σ y = some (.int .i64 b)) (hN : dstOK N d = true) (h : XO P ro n N ds w0 X Q ops (putS d (.int .i64 (if a < b then b else a)) σ) η rest) :
  XO P ro n N ds w0 X Q ops σ η (⟨d, .call { callee := .builtin .max, args := #[x, y], argTypes := ats }, ty, pos, aft, g⟩ :: rest) := by
 refine xo_bi (xs := [x, y]) (vs := [.int .i64 a, .int .i64 b]) _ hg (by simp [evs, hx, hy]) hN (fun w hw cs => ?_) h
 have : (Builtin.max_ ats ty #[.int .i64 a, .int .i64 b]).run P w = .ok (.int .i64 (if a < b then b else a)) w := by go_simp
 simp [builtin, this]
end
end Go.Proofs.YtommeljlfkmpjaaDoor
