/- SX: rows of several cells an element, of the call's own: read, written, copied. No program in sight. -/
import Derived.Test.YtcmepdamemnbkaaSG
import Derived.Test.YtcmepdamemnbkaaWWords
namespace Go.Proofs.Ytcmepdamemnbkaa
open Go.RowKit Go.Proofs.YtcmepdamemnbkaaW.PrintWords
set_option linter.unusedVariables false
set_option linter.unusedSimpArgs false
theorem flat_len {α : Type} (sz : Nat) : ∀ (cells : List (List α)), (∀ c ∈ cells, c.length = sz) → cells.flatten.length = cells.length * sz
  | [], _ => by simp
  | c :: r, h => by
    rw [List.flatten_cons, List.length_append, flat_len sz r (fun x hx => h x (List.mem_cons_of_mem _ hx)), h c (List.mem_cons_self ..), List.length_cons, Nat.add_mul]
    omega
theorem flat_at {α : Type} (sz : Nat) : ∀ (cells : List (List α)) (j i : Nat), (∀ c ∈ cells, c.length = sz) → i < sz → cells.flatten[j * sz + i]? = (cells[j]?).bind (·[i]?)
  | [], j, i, _, _ => by simp
  | c :: r, 0, i, h, hi => by
    have := h c (List.mem_cons_self ..)
    simp only [Nat.zero_mul, Nat.zero_add, List.flatten_cons, List.getElem?_cons_zero, Option.bind_some]
    rw [List.getElem?_append_left (by omega)]
  | c :: r, j + 1, i, h, hi => by
    have := h c (List.mem_cons_self ..)
    rw [List.flatten_cons, List.getElem?_append_right (by rw [this, Nat.add_mul]; omega), List.getElem?_cons_succ, ← flat_at sz r j i (fun x hx => h x (List.mem_cons_of_mem _ hx)) hi, this]
    congr 1
    rw [Nat.add_mul]
    omega
theorem flat_split {α : Type} {sz : Nat} (hsz : 0 < sz) (k : Nat) : k = (k / sz) * sz + k % sz ∧ k % sz < sz := ⟨by rw [Nat.mul_comm]; exact (Nat.div_add_mod k sz).symm, Nat.mod_lt _ hsz⟩
theorem flat_set {α : Type} (sz : Nat) : ∀ (cells : List (List α)) (j i : Nat) (c : List α) (v : α), (∀ c ∈ cells, c.length = sz) → cells[j]? = some c → i < sz → cells.flatten.set (j * sz + i) v = (cells.set j (c.set i v)).flatten
  | [], j, i, c, v, _, h, _ => by simp at h
  | x :: r, 0, i, c, v, h, hc, hi => by
    simp at hc
    subst hc
    have := h x (List.mem_cons_self ..)
    simp only [Nat.zero_mul, Nat.zero_add, List.flatten_cons, List.set_cons_zero]
    rw [List.set_append_left _ _ (by omega)]
  | x :: r, j + 1, i, c, v, h, hc, hi => by
    have := h x (List.mem_cons_self ..)
    rw [List.flatten_cons, List.set_append_right _ _ (by rw [this, Nat.add_mul]; omega), List.set_cons_succ, List.flatten_cons, ← flat_set sz r j i c v (fun x hx => h x (List.mem_cons_of_mem _ hx)) (by simpa using hc) hi, this]
    congr 2
    rw [Nat.add_mul]
    omega
/-- the cells of a row that is read -/
theorem C_cells {α : Type} {d : Kd α} {w : World} {A : Option Addr} {n : Nat} {xs : List α} (h : Kd.C d w A n xs) (hsz : 0 < d.sz) :
    ∃ cells : List (List Value), cells.length = n ∧ (∀ c ∈ cells, c.length = d.sz) ∧ (∀ (j : Nat) (x : α) (c : List Value), xs[j]? = some x → cells[j]? = some c → d.K w x c) ∧ ∀ p, A = some p → ∀ (i : Nat) (u : Value), cells.flatten[i]? = some u → w.cell? (p.add i) = some u := by
  obtain ⟨hl, _, hc⟩ := h
  by_cases hn : n = 0
  · subst hn
    exact ⟨[], rfl, by simp, by simp, by simp⟩
  obtain ⟨p, e, hc2⟩ := hc (by omega)
  subst e
  have hex : ∀ j, ∃ c, j < n → (∀ x, xs[j]? = some x → d.K w x c) ∧ c.length = d.sz ∧ ∀ i u, c[i]? = some u → w.cell? (p.add (j * d.sz + i)) = some u := fun j => by
    by_cases hj : j < n
    · have hjl : j < xs.length := by omega
      obtain ⟨c, h1, h2, h3⟩ := hc2 j _ (List.getElem?_eq_getElem hjl)
      refine ⟨c, fun _ => ⟨fun x hx => ?_, d.K_len h2, h3⟩⟩
      rw [List.getElem?_eq_getElem hjl] at hx
      cases hx
      exact h2
    · exact ⟨[], fun q => absurd q hj⟩
  let f := fun j => (hex j).choose
  have hf := fun j => (hex j).choose_spec
  have hat : ∀ j, j < n → ((List.range n).map f)[j]? = some (f j) := fun j hj => by simp [hj]
  have hall : ∀ c ∈ (List.range n).map f, c.length = d.sz := fun c hc => by
    obtain ⟨j, hj, rfl⟩ := List.mem_map.1 hc
    exact (hf j (List.mem_range.1 hj)).2.1
  refine ⟨(List.range n).map f, by simp, hall, fun j x c hx hc => ?_, fun q e i u hu => ?_⟩
  · have hj : j < n := by have := (List.getElem?_eq_some_iff.1 hx).1; omega
    rw [hat j hj] at hc
    cases hc
    exact (hf j hj).1 x hx
  · cases e
    obtain ⟨h1, h2⟩ := flat_split (α := Value) hsz i
    rw [h1, flat_at d.sz _ _ _ hall h2] at hu
    obtain ⟨c, h3, h4⟩ := Option.bind_eq_some_iff.1 hu
    have hj : i / d.sz < n := by have := (List.getElem?_eq_some_iff.1 h3).1; simpa using this
    rw [hat _ hj] at h3
    cases h3
    rw [h1]
    exact (hf _ hj).2.2 _ u h4
/-- a row of the call's own, as it is read -/
theorem C_row {α : Type} {d : Kd α} {w : World} {b cap : Nat} {e : TypeId} {xs : List α} {cells : List (List Value)} {o : Obj} (ho : w.heap[b]? = some o) (hr : orow e d.sz cells.length cap cells.flatten o) (hl : cells.length = xs.length) (hc : ∀ c ∈ cells, c.length = d.sz)
    (hK : ∀ (j : Nat) (x : α) (c : List Value), xs[j]? = some x → cells[j]? = some c → d.K w x c) (hm : xs.length ≤ 9223372036854775807) : Kd.C d w (some ⟨b, 0, none⟩) xs.length xs := by
  obtain ⟨cur, rfl, h5, h6, h7, h8⟩ := hr
  refine ⟨rfl, hm, fun _ => ⟨_, rfl, fun j x hj => ?_⟩⟩
  have hjl : j < cells.length := by have := (List.getElem?_eq_some_iff.1 hj).1; omega
  have hcj := List.getElem?_eq_getElem hjl
  refine ⟨cells[j], hc _ (List.getElem_mem hjl), hK j x _ hj hcj, ?_⟩
  intro i u hu
  have hi : i < d.sz := by have := (List.getElem?_eq_some_iff.1 hu).1; have := hc _ (List.getElem_mem hjl); omega
  have h9 := flat_at d.sz cells j i hc hi
  rw [hcj, Option.bind_some, hu, ← h8] at h9
  rw [List.getElem?_take] at h9
  split at h9
  · rw [Addr.add_lit, Nat.zero_add, cell_of_row w b _ _ e _ ho, ← Array.getElem?_toList]
    exact h9
  · cases h9
section
variable {P : Program} {ro : Option Nat} {n N : Nat} {ds : List Deferred} {w0 : World} {X : Nat → Prop} {Q : Exit → Act → World → Prop} {σ : Slots} {η : Hp} {ops rest : List Oper} {d : Option Tmp} {ty : TypeId} {pos : String} {aft : Array Edge} {g : Option (Nat × Bool)}
theorem xo_loadZ (T : Tys P) {t : TypeId} {x : Operand} {p : Addr} {b m cap k sz : Nat} {wr : Bool} {xs : List Value} {te : TypeId} {v : Value} (hg : gS ops σ g = some true) (ht : look t T.tk = some 0) (hx : ev σ x = some (.pointer (some p))) (hp : p = ⟨b, k, none⟩) (hm : (b, wr, orow te sz m cap xs) ∈ η) (hv : xs[k]? = some v) (hN : dstOK N d = true)
    (h : XO P ro n N ds w0 X Q ops (putS d v σ) η rest) : XO P ro n N ds w0 X Q ops σ η (⟨d, .load t x, ty, pos, aft, g⟩ :: rest) :=
  xo_val v rfl hg hN (fun a w ha hw => by
    have h1 := (T.htk _ (look_mem ht)).1 w
    obtain ⟨o, h4, cur, rfl, h5, h6, h7, h8⟩ := hw.bl _ hm
    have h2 : w.cell? ⟨b, k, none⟩ = some v := by
      rw [cell_of_row w b k _ te _ h4, ← Array.getElem?_toList]
      rw [← h8] at hv
      rw [List.getElem?_take] at hv
      split at hv
      · exact hv
      · cases hv
    have h3 := ha.ev hx
    rw [hp] at h3
    simp [execOp, h3, Instr.loadAt, Instr.sureAddr, loadVar, h1, h2]) h
theorem xo_storeZ (T : Tys P) {t : TypeId} {p x : Operand} {pa : Addr} {b k m cap sz : Nat} {xs : List Value} {te : TypeId} {v : Value} {η' : Hp} (hg : gS ops σ g = some true) (ht : look t T.tk = some 0) (hp : ev σ p = some (.pointer (some pa))) (hpa : pa = ⟨b, k, none⟩) (hx : ev σ x = some v)
    (hm : (b, true, orow te sz m cap xs) ∈ η) (hv : v.cells = #[v]) (h1 : v.oneCell' = true) (hlt : k < m * sz) (hU : Upd b (orow te sz m cap (xs.set k v)) η η') (hN : dstOK N d = true)
    (h : XO P ro n N ds w0 X Q ops (putS d undef σ) η' rest) : XO P ro n N ds w0 X Q ops σ η (⟨d, .store t p x, ty, pos, aft, g⟩ :: rest) :=
  xo_base rfl hg fun a w ha hw => by
    have h2 : (sizeOf t).run P w = .ok 1 w := (T.htk _ (look_mem ht)).2 w
    obtain ⟨o, h4, cur, rfl, h5, h6, h7, h8⟩ := hw.bl _ hm
    have hkc : k < cur.size := by rw [h7]; exact Nat.lt_of_lt_of_le hlt (Nat.mul_le_mul_right _ h5)
    have hcell : w.cell? ⟨b, k, none⟩ = some (cur[k]'hkc) := by
      rw [cell_of_row w b k _ te _ h4]
      simp [Array.getElem?_eq_getElem hkc]
    have hfz : w.frozen? ⟨b, k, none⟩ = false := frozen_of_row w b k _ te h4
    have hst : (store ⟨b, k, none⟩ v .plain).run P w = .ok () (w.setCell ⟨b, k, none⟩ v) := by
      rw [run_store P w _ v _ h1, hcell]
      simp [hfz]
    have hb' : (w.setCell ⟨b, k, none⟩ v).heap[b]? = some (.cells (cur.setIfInBounds k v) te (0, 0)) := heap_setCell_same w b k _ te v h4
    have h3 := ha.ev hp
    rw [hpa] at h3
    refine ⟨.skip, _, undef, ?_, .inr ⟨rfl, rfl⟩, h _ _ (ha.put hN _) (hw.upd hU (OneB.setCell w b k v) hb' ⟨_, rfl, h5, h6, by simpa using h7, ?_⟩)⟩
    · simp only [execOp, h3, ha.ev hx, Instr.storeAt, Instr.sureAddr, storeVar, Sem.run_bind, Sem.run_pure, Result.andThen_ok, h2, hv, List.size_toArray, List.length_cons, List.length_nil, ne_eq, not_true_eq_false, ↓reduceIte, storeCells, Addr.add_zero', hst]
    · rw [Array.toList_setIfInBounds, ← h8, List.take_set]
theorem xq_perm {e : Exit} {η' : Hp} (hp : List.Perm η η') (h : XQ N ds w0 X Q e σ η') : XQ N ds w0 X Q e σ η := fun a w ha hw => h a w ha (hw.perm hp)
/-- append of a whole row onto a literal without elements -/
theorem xo_appE (T : TysR P) {t e : TypeId} {s x : Operand} {z : Value} {sz by_ k c b0 : Nat} {A : Option Addr} {news : List Value} {η0 : Hp} (hg : gS ops σ g = some true) (ht : look t T.el = some e) (hi : look e T.inf = some (z, sz, by_)) (hzs : z.cells.toList.length = sz) (hsz : Nat.blt 0 sz = true)
    (hs : ev σ s = some (.slice (some ⟨b0, 0, none⟩) 0 0)) (hx : ev σ x = some (.slice A k c)) (hη : η = (b0, true, orow e sz 0 0 []) :: η0) (hn : news.length = k * sz) (hA : A = none → k = 0) (hnews : ∀ p, A = some p → ∀ w, WOK w0 X η w → ∀ j u, news[j]? = some u → w.cell? (p.add j) = some u) (h1 : ∀ u ∈ news, u.oneCell' = true)
    (hb : k * by_ ≤ 140737488355328) (hb0 : Nat.blt 0 by_ = true) (hN : dstOK N d = true)
    (h : ∀ b cap, XO P ro n N ds w0 X Q ops (putS d (.slice (some ⟨b, 0, none⟩) k cap) σ) ((b, true, orow e sz k cap news) :: η0) rest) :
    XO P ro n N ds w0 X Q ops σ η (⟨d, .call { callee := .builtin .append, args := #[s, x], argTypes := #[t, t] }, ty, pos, aft, g⟩ :: rest) := by
  refine xo_appN T (r := some (b0, 0)) (m := 0) (xs := []) (η0 := η0) hg ht hi hzs hsz hs hx (by subst hη; rfl) (by simp) hn hA hnews h1 (fun _ => rfl) (by rw [Nat.zero_add]; exact hb) hb0 hN fun r' hr' => ?_
  rcases r' with _ | ⟨b, cap⟩
  · exact absurd (hr' rfl).1 (by simp)
  · rw [Nat.zero_add, List.nil_append]
    exact h b cap
end
end Go.Proofs.Ytcmepdamemnbkaa
