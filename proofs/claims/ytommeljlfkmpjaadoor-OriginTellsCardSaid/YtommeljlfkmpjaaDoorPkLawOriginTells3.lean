/- SX: rows of several cells an element, of the call's own: read, written, copied. No program in sight. / SX: shifts and single bits; rows of whatever cells, of a call's results. No program in sight. / SX: delete out of a map with whole-number keys. No program in sight. / SX: a range over an iterator of whole numbers that yields one of several lists (as a map's keys, in whatever order). No program in -/
import Derived.Test.YtommeljlfkmpjaaDoorPkLawOriginTells2
import Derived.Test.YtommeljlfkmpjaaDoorPkLawOriginTells1
import Derived.Laws.Small
import Derived.Laws.StructEq
set_option linter.unusedVariables false
set_option linter.unusedSimpArgs false
namespace Go.Proofs.YtommeljlfkmpjaaDoor
open Go.RowKit Go.Proofs.YtommeljlfkmpjaaDoorW.PrintWords
theorem flat_len {α : Type} (sz : Nat) : ∀ (cells : List (List α)), (∀ c ∈ cells, c.length = sz) → cells.flatten.length = cells.length * sz
 | [], _ => by simp
 | c :: r, h => by
  rw [List.flatten_cons, List.length_append, flat_len sz r (fun x hx => h x (List.mem_cons_of_mem _ hx)), h c (List.mem_cons_self ..), List.length_cons, Nat.add_mul]
  omega
theorem flat_at {α : Type} (sz : Nat) : ∀ (cells : List (List α)) (j i : Nat), (∀ c ∈ cells, c.length = sz) → i < sz → cells.flatten[j * sz + i]? = (cells[j]?).bind (·[i]?)
 | [], j, i, _, _ => by simp
 | c :: r, 0, i, h, hi => by
  have := h c (List.mem_cons_self ..)
  simp only [Nat.zero_mul, Nat.zero_add, List.flatten_cons, List.getElem?_cons_zero, Option.bind_some]
  rw [List.getElem?_append_left (by omega)]
 | c :: r, j + 1, i, h, hi => by
  have := h c (List.mem_cons_self ..)
  rw [List.flatten_cons, List.getElem?_append_right (by rw [this, Nat.add_mul]; omega), List.getElem?_cons_succ, ← flat_at sz r j i (fun x hx => h x (List.mem_cons_of_mem _ hx)) hi, this]
  congr 1
  rw [Nat.add_mul]
  omega
theorem flat_split {α : Type} {sz : Nat} (hsz : 0 < sz) (k : Nat) : k = (k / sz) * sz + k % sz ∧ k % sz < sz := ⟨by rw [Nat.mul_comm]; exact (Nat.div_add_mod k sz).symm, Nat.mod_lt _ hsz⟩
theorem flat_set {α : Type} (sz : Nat) : ∀ (cells : List (List α)) (j i : Nat) (c : List α) (v : α), (∀ c ∈ cells, c.length = sz) → cells[j]? = some c → i < sz → cells.flatten.set (j * sz + i) v = (cells.set j (c.set i v)).flatten
 | [], j, i, c, v, _, h, _ => by simp at h
 | x :: r, 0, i, c, v, h, hc, hi => by
  simp at hc
  subst hc
  have := h x (List.mem_cons_self ..)
  simp only [Nat.zero_mul, Nat.zero_add, List.flatten_cons, List.set_cons_zero]
  rw [List.set_append_left _ _ (by omega)]
 | x :: r, j + 1, i, c, v, h, hc, hi => by
  have := h x (List.mem_cons_self ..)
  rw [List.flatten_cons, List.set_append_right _ _ (by rw [this, Nat.add_mul]; omega), List.set_cons_succ, List.flatten_cons, ← flat_set sz r j i c v (fun x hx => h x (List.mem_cons_of_mem _ hx)) (by simpa using hc) hi, this]
  congr 2
  rw [Nat.add_mul]
  omega
theorem C_row {α : Type} {d : Kd α} {w : World} {b cap : Nat} {e : TypeId} {xs : List α} {cells : List (List Value)} {o : Obj} (ho : w.heap[b]? = some o) (hr : orow e d.sz cells.length cap cells.flatten o) (hl : cells.length = xs.length) (hc : ∀ c ∈ cells, c.length = d.sz)
  (hK : ∀ (j : Nat) (x : α) (c : List Value), xs[j]? = some x → cells[j]? = some c → d.K w x c) (hm : xs.length ≤ 9223372036854775807) : Kd.C d w (some ⟨b, 0, none⟩) xs.length xs := by
 obtain ⟨cur, rfl, h5, h6, h7, h8⟩ := hr
 refine ⟨rfl, hm, fun _ => ⟨_, rfl, fun j x hj => ?_⟩⟩
 have hjl : j < cells.length := by have := (List.getElem?_eq_some_iff.1 hj).1; omega
 have hcj := List.getElem?_eq_getElem hjl
 refine ⟨cells[j], hc _ (List.getElem_mem hjl), hK j x _ hj hcj, ?_⟩
 intro i u hu
 have hi : i < d.sz := by have := (List.getElem?_eq_some_iff.1 hu).1; have := hc _ (List.getElem_mem hjl); omega
 have h9 := flat_at d.sz cells j i hc hi
 rw [hcj, Option.bind_some, hu, ← h8] at h9
 rw [List.getElem?_take] at h9
 split at h9
 ·rw [Addr.add_lit, Nat.zero_add, cell_of_row w b _ _ e _ ho, ← Array.getElem?_toList]
  exact h9
 ·cases h9
section
variable {P : Program} {ro : Option Nat} {n N : Nat} {ds : List Deferred} {w0 : World} {X : Nat → Prop} {Q : Exit → Act → World → Prop} {σ : Slots} {η : Hp} {ops rest : List Oper} {d : Option Tmp} {ty : TypeId} {pos : String} {aft : Array Edge} {g : Option (Nat × Bool)}
theorem xo_loadZ (T : Tys P) {t : TypeId} {x : Operand} {p : Addr} {b m cap k sz : Nat} {wr : Bool} {xs : List Value} {te : TypeId} {v : Value} (hg : gS ops σ g = some true) (ht : look t T.tk = some 0) (hx : ev σ x = some (.pointer (some p))) (hp : p = ⟨b, k, none⟩) (hm : (b, wr, orow te sz m cap xs) ∈ η) (hv : xs[k]? = some v) (hN : dstOK N d = true)
  (h : XO P ro n N ds w0 X Q ops (putS d v σ) η rest) : XO P ro n N ds w0 X Q ops σ η (⟨d, .load t x, ty, pos, aft, g⟩ :: rest) :=
 xo_val v rfl hg hN (fun a w ha hw => by
  have h1 := (T.htk _ (look_mem ht)).1 w
  obtain ⟨o, h4, cur, rfl, h5, h6, h7, h8⟩ := hw.bl _ hm
  have h2 : w.cell? ⟨b, k, none⟩ = some v := by
   rw [cell_of_row w b k _ te _ h4, ← Array.getElem?_toList]
   rw [← h8] at hv
   rw [List.getElem?_take] at hv
   split at hv
   ·exact hv
   ·cases hv
  have h3 := ha.ev hx
  rw [hp] at h3
  simp [execOp, h3, Instr.loadAt, Instr.sureAddr, loadVar, h1, h2]) h
theorem xo_storeZ (T : Tys P) {t : TypeId} {p x : Operand} {pa : Addr} {b k m cap sz : Nat} {xs : List Value} {te : TypeId} {v : Value} {η' : Hp} (hg : gS ops σ g = some true) (ht : look t T.tk = some 0) (hp : ev σ p = some (.pointer (some pa))) (hpa : pa = ⟨b, k, none⟩) (hx : ev σ x = some v)
  (hm : (b, true, orow te sz m cap xs) ∈ η) (hv : v.cells = #[v]) (h1 : v.oneCell' = true) (hlt : k < m * sz) (hU : Upd b (orow te sz m cap (xs.set k v)) η η') (hN : dstOK N d = true)
  (h : XO P ro n N ds w0 X Q ops (putS d undef σ) η' rest) : XO P ro n N ds w0 X Q ops σ η (⟨d, .store t p x, ty, pos, aft, g⟩ :: rest) :=
 xo_base rfl hg fun a w ha hw => by
  have h2 : (sizeOf t).run P w = .ok 1 w := (T.htk _ (look_mem ht)).2 w
  obtain ⟨o, h4, cur, rfl, h5, h6, h7, h8⟩ := hw.bl _ hm
  have hkc : k < cur.size := by rw [h7]; exact Nat.lt_of_lt_of_le hlt (Nat.mul_le_mul_right _ h5)
  have hcell : w.cell? ⟨b, k, none⟩ = some (cur[k]'hkc) := by
   rw [cell_of_row w b k _ te _ h4]
   simp [Array.getElem?_eq_getElem hkc]
  have hfz : w.frozen? ⟨b, k, none⟩ = false := frozen_of_row w b k _ te h4
  have hst : (store ⟨b, k, none⟩ v .plain).run P w = .ok () (w.setCell ⟨b, k, none⟩ v) := by
   rw [run_store P w _ v _ h1, hcell]
   simp [hfz]
  have hb' : (w.setCell ⟨b, k, none⟩ v).heap[b]? = some (.cells (cur.setIfInBounds k v) te (0, 0)) := heap_setCell_same w b k _ te v h4
  have h3 := ha.ev hp
  rw [hpa] at h3
  refine ⟨.skip, _, undef, ?_, .inr ⟨rfl, rfl⟩, h _ _ (ha.put hN _) (hw.upd hU (OneB.setCell w b k v) hb' ⟨_, rfl, h5, h6, by simpa using h7, ?_⟩)⟩
  ·simp only [execOp, h3, ha.ev hx, Instr.storeAt, Instr.sureAddr, storeVar, Sem.run_bind, Sem.run_pure, Result.andThen_ok, h2, hv, List.size_toArray, List.length_cons, List.length_nil, ne_eq, not_true_eq_false, ↓reduceIte, storeCells, Addr.add_zero', hst]
  ·rw [Array.toList_setIfInBounds, ← h8, List.take_set]
theorem xq_perm {e : Exit} {η' : Hp} (hp : List.Perm η η') (h : XQ N ds w0 X Q e σ η') : XQ N ds w0 X Q e σ η := fun a w ha hw => h a w ha (hw.perm hp)
theorem xo_appE (T : TysR P) {t e : TypeId} {s x : Operand} {z : Value} {sz by_ k c b0 : Nat} {A : Option Addr} {news : List Value} {η0 : Hp} (hg : gS ops σ g = some true) (ht : look t T.el = some e) (hi : look e T.inf = some (z, sz, by_)) (hzs : z.cells.toList.length = sz) (hsz : Nat.blt 0 sz = true)
  (hs : ev σ s = some (.slice (some ⟨b0, 0, none⟩) 0 0)) (hx : ev σ x = some (.slice A k c)) (hη : η = (b0, true, orow e sz 0 0 []) :: η0) (hn : news.length = k * sz) (hA : A = none → k = 0) (hnews : ∀ p, A = some p → ∀ w, WOK w0 X η w → ∀ j u, news[j]? = some u → w.cell? (p.add j) = some u) (h1 : ∀ u ∈ news, u.oneCell' = true)
  (hb : k * by_ ≤ 140737488355328) (hb0 : Nat.blt 0 by_ = true) (hN : dstOK N d = true)
  (h : ∀ b cap, XO P ro n N ds w0 X Q ops (putS d (.slice (some ⟨b, 0, none⟩) k cap) σ) ((b, true, orow e sz k cap news) :: η0) rest) :
  XO P ro n N ds w0 X Q ops σ η (⟨d, .call { callee := .builtin .append, args := #[s, x], argTypes := #[t, t] }, ty, pos, aft, g⟩ :: rest) := by
 refine xo_appN T (r := some (b0, 0)) (m := 0) (xs := []) (η0 := η0) hg ht hi hzs hsz hs hx (by subst hη; rfl) (by simp) hn hA hnews h1 (fun _ => rfl) (by rw [Nat.zero_add]; exact hb) hb0 hN fun r' hr' => ?_
 rcases r' with _ | ⟨b, cap⟩
 ·exact absurd (hr' rfl).1 (by simp)
 ·rw [Nat.zero_add, List.nil_append]
  exact h b cap
end
theorem pow62 {m : Nat} (h : m ≤ 61) : (2 : Int) ^ m ≤ 2305843009213693952 := by
 have h1 : (2 : Nat) ^ m ≤ 2 ^ 61 := Nat.pow_le_pow_right (by omega) h
 have h2 : ((2 ^ m : Nat) : Int) ≤ ((2 ^ 61 : Nat) : Int) := by exact_mod_cast h1
 simpa using h2
section
variable {P : Program} {ro : Option Nat} {n N : Nat} {ds : List Deferred} {w0 : World} {X : Nat → Prop} {Q : Exit → Act → World → Prop} {σ : Slots} {η : Hp} {ops rest : List Oper} {d : Option Tmp} {ty t t' : TypeId} {pos : String} {aft : Array Edge} {g : Option (Nat × Bool)}
theorem xo_shl1 {x y : Operand} {m : Nat} (hg : gS ops σ g = some true) (hx : ev σ x = some (.int .i64 1)) (hy : ev σ y = some (.int .i64 (m : Int))) (hm : m ≤ 61) (hN : dstOK N d = true)
  (h : XO P ro n N ds w0 X Q ops (putS d (.int .i64 ((2 ^ m : Nat) : Int)) σ) η rest) : XO P ro n N ds w0 X Q ops σ η (⟨d, .binOp .shl t x y t', ty, pos, aft, g⟩ :: rest) :=
 xo_val _ rfl hg hN (fun a w ha hw => by
  have h1 : min (m : Int).toNat IntKind.i64.bits = m := by simp [IntKind.bits]; omega
  have h2 := pow62 hm
  have h3 : (0 : Int) < 2 ^ m := Int.pow_pos (by omega)
  have h4 : IntKind.i64.wrap (2 ^ m) = (2 : Int) ^ m := IntWalk.i64_in _ ⟨by omega, by omega⟩
  simp only [execOp, ha.ev hx, ha.ev hy, eqGuard_shl, binOp_shl, Op.shift, Sem.run_bind, Sem.run_pure, Result.andThen_ok]
  rw [if_neg (by omega), h1]
  simp [h4]) h
theorem xo_shr {x y : Operand} {k m : Nat} (hg : gS ops σ g = some true) (hx : ev σ x = some (.int .i64 (k : Int))) (hy : ev σ y = some (.int .i64 (m : Int))) (hm : m ≤ 61) (hN : dstOK N d = true)
  (h : XO P ro n N ds w0 X Q ops (putS d (.int .i64 ((k / 2 ^ m : Nat) : Int)) σ) η rest) : XO P ro n N ds w0 X Q ops σ η (⟨d, .binOp .shr t x y t', ty, pos, aft, g⟩ :: rest) :=
 xo_val _ rfl hg hN (fun a w ha hw => by
  have h1 : min (m : Int).toNat IntKind.i64.bits = m := by simp [IntKind.bits]; omega
  have h3 : Int.fdiv (k : Int) (2 ^ m) = ((k / 2 ^ m : Nat) : Int) := by
   rw [Int.fdiv_eq_ediv_of_nonneg _ (by exact Int.le_of_lt (Int.pow_pos (by omega)))]
   simp
  simp only [execOp, ha.ev hx, ha.ev hy, eqGuard_shr, binOp_shr, Op.shift, Sem.run_bind, Sem.run_pure, Result.andThen_ok]
  rw [if_neg (by omega), h1]
  simp [h3]) h
theorem xo_and1 {x y : Operand} {k : Nat} (hg : gS ops σ g = some true) (hx : ev σ x = some (.int .i64 (k : Int))) (hy : ev σ y = some (.int .i64 1)) (hk : k < 9223372036854775808) (hN : dstOK N d = true)
  (h : XO P ro n N ds w0 X Q ops (putS d (.int .i64 ((k % 2 : Nat) : Int)) σ) η rest) : XO P ro n N ds w0 X Q ops σ η (⟨d, .binOp .and t x y t', ty, pos, aft, g⟩ :: rest) :=
 xo_val _ rfl hg hN (fun a w ha hw => by
  simp only [execOp, ha.ev hx, ha.ev hy, eqGuard_and, binOp_and, Op.intBits, Sem.run_bind, Sem.run_pure, Result.andThen_ok]
  have h1 : (BitVec.ofInt IntKind.i64.bits (k : Int) &&& BitVec.ofInt IntKind.i64.bits 1).toNat = k % 2 := by
   rw [BitVec.toNat_and]
   simp only [BitVec.toNat_ofInt, IntKind.bits]
   rw [show ((k : Int) % ((2 ^ 64 : Nat) : Int)).toNat = k by omega, show ((1 : Int) % ((2 ^ 64 : Nat) : Int)).toNat = 1 by decide, Nat.and_one_is_mod]
  have h2 : IntKind.i64.wrap ((k % 2 : Nat) : Int) = ((k % 2 : Nat) : Int) := IntWalk.i64_in _ ⟨by omega, by omega⟩
  rw [h1, h2]) h
end
def RowV (e : TypeId) (base : Nat) (w : World) (r : RowR) (xs : List Value) : Prop := (r = none → xs = []) ∧ ∀ p, r = some p → base ≤ p.1 ∧ ∃ o, w.heap[p.1]? = some o ∧ orow e 1 xs.length p.2 xs o
theorem WOK.rowV {w0 : World} {X : Nat → Prop} {η : Hp} {w w' : World} (h : WOK w0 X η w) (hb : Below w.heap.size w w') {e : TypeId} {r : RowR} {xs : List Value} (hr : RowV e w.heap.size w' r xs) : WOK w0 X (hpR e 1 r xs.length xs ++ η) w' := by
 cases r with
 | none => exact h.below hb
 | some p =>
  obtain ⟨h1, o, h2, h3⟩ := hr.2 p rfl
  exact h.more hb h1 h2 h3
theorem RowV.of {w0 : World} {η : Hp} {w : World} {e : TypeId} {r : RowR} {xs : List Value} (h : WOK w0 XNone (hpR e 1 r xs.length xs ++ η) w) (h0 : r = none → xs = []) : RowV e w0.heap.size w r xs := by
 refine ⟨h0, fun p hp => ?_⟩
 subst hp
 exact ⟨h.own (List.Mem.head _), h.bl (p.1, true, orow e 1 xs.length p.2 xs) (List.Mem.head _)⟩
end Go.Proofs.YtommeljlfkmpjaaDoor
namespace Go.Proofs.YtommeljlfkmpjaaDoor
open Go.RowKit Go.MapKept
theorem erase_kv (x : Int) : ∀ (l : List (Int × Value)) (es : List MapEntry) (i : Nat) (j : Nat) (u : Value), es.map kvE = l.map kvI → Instr.findNow (.int .i64) (.int .i64 x) es i = some (some (i + j, u)) →
  (es.eraseIdx j).map kvE = (imDel x l).map kvI
 | [], [], i, j, u, _, h => by simp [Instr.findNow] at h
 | [], _ :: _, _, _, _, h, _ => by simp at h
 | _ :: _, [], _, _, _, h, _ => by simp at h
 | p :: r, e :: es, i, j, u, h, hf => by
  simp only [List.map_cons, List.cons.injEq] at h
  obtain ⟨h1, h2⟩ := h
  have hk : e.key = .int .i64 p.1 := congrArg Prod.fst h1
  by_cases hx : p.1 = x
  ·have : j = 0 := by
    simp [Instr.findNow, Instr.sameNow, hk, hx] at hf
    omega
   subst this
   simp [imDel, hx, h2]
  ·have hx' : (x == p.1) = false := by simpa using fun h => hx h.symm
   simp only [Instr.findNow, Instr.sameNow, hk, ↓reduceIte, hx'] at hf
   cases j with
   | zero =>
    exfalso
    rcases findNow_l x r es (i + 1) h2 with ⟨_, h3⟩ | ⟨j', v', e', _, h3, _, _⟩
    ·rw [h3] at hf; simp at hf
    ·rw [h3] at hf; simp at hf; omega
   | succ j =>
    have ih := erase_kv x r es (i + 1) j u h2 (by rw [hf]; congr 2; simp; omega)
    simp [imDel, hx, h1, ih]
theorem imDel_none (x : Int) : ∀ l : List (Int × Value), imGet x l = none → imDel x l = l
 | [], _ => rfl
 | p :: r, h => by
  by_cases hx : p.1 = x
  ·simp [imGet, hx] at h
  ·simp only [imGet, hx, if_false] at h
   simp only [imDel, hx, if_false]
   rw [imDel_none x r h]
theorem imDel_sub (x : Int) : ∀ l : List (Int × Value), (imDel x l).Sublist l
 | [] => List.Sublist.refl _
 | p :: r => by
  by_cases hx : p.1 = x
  ·simp only [imDel, hx, if_true]; exact List.sublist_cons_self _ _
  ·simp only [imDel, hx, if_false]; exact (imDel_sub x r).cons_cons p
section
variable {P : Program} {w : World} {t k e : TypeId} {b : Nat} {l : List (Int × Value)}
theorem IMap.del (h : IMap w b l) (ht : P.underlying t = some (.map k e)) (hk : P.underlying k = some (.int .i64)) (ty tk : TypeId) (x : Int) :
  ∃ o : Obj, (Builtin.delete_ #[t, tk] ty #[.map (some b), .int .i64 x]).run P w = .ok (.tuple #[]) (w.putObj b o) ∧ IMap (w.putObj b o) b (imDel x l) := by
 have hlt := h.lt
 obtain ⟨es, c, hb, hE⟩ := h
 have hkey : IsKey (.int .i64) (.int .i64 x) := rfl
 rcases findNow_l x l es.toList 0 hE.is with ⟨h1, h2⟩ | ⟨j, u, e', h1, h2, h3, h4⟩
 ·refine ⟨.map es c, ?_, _, _, World.putObj_heap_same hlt, by rw [imDel_none x l h1]; exact hE⟩
  simp [Builtin.delete_, run_underlying ht, MapKept.run_getObj_map hb, run_checkKey hk hkey, run_findKey hk h2, MapKept.run_setObj_map _ hb, Result.andThen, World.putObj]
 ·refine ⟨.map (es.eraseIdxIfInBounds j) c, ?_, _, _, World.putObj_heap_same hlt, ?_⟩
  ·simp [Builtin.delete_, run_underlying ht, MapKept.run_getObj_map hb, run_checkKey hk hkey, run_findKey hk h2, MapKept.run_setObj_map _ hb, Result.andThen, World.putObj]
  ·have htl : (es.eraseIdxIfInBounds j).toList = es.toList.eraseIdx j := by simp
   have hsub : ((es.eraseIdxIfInBounds j).toList).Sublist es.toList := by rw [htl]; exact List.eraseIdx_sublist ..
   exact ⟨by rw [htl]; exact erase_kv x l es.toList 0 j u hE.is (by simpa using h2), hE.keys.sublist ((imDel_sub x l).map _), fun e he => hE.born e (hsub.subset he), hE.once.sublist (hsub.map _)⟩
end
def delN (x : Int) (s : List Int) : List Int := s.erase x
theorem imDel_setV (x : Int) : ∀ s : List Int, imDel x (setV s) = setV (delN x s)
 | [] => rfl
 | y :: s => by
  have ih := imDel_setV x s
  unfold setV delN at *
  by_cases e : y = x
  ·subst e; simp [imDel]
  ·rw [List.erase_cons_tail (by simpa using e)]
   simp only [List.map_cons, imDel, e, if_false, ih]
section
variable {P : Program} {ro : Option Nat} {n N : Nat} {ds : List Deferred} {w0 : World} {X : Nat → Prop} {Q : Exit → Act → World → Prop} {σ : Slots} {η : Hp} {ops rest : List Oper} {d : Option Tmp} {ty : TypeId} {pos : String} {aft : Array Edge} {g : Option (Nat × Bool)}
theorem xo_sdel (T : Tys P) {t tk te tk' : TypeId} {m x : Operand} {b : Nat} {s : List Int} {k : Int} {η' : Hp} (hg : gS ops σ g = some true) (ht : look t T.mp = some (tk, te)) (hk : look tk T.ik = some .i64) (hm : ev σ m = some (.map (some b))) (hx : ev σ x = some (.int .i64 k)) (hb : (b, true, hmap (setV s)) ∈ η)
  (hU : Upd b (hmap (setV (delN k s))) η η') (hN : dstOK N d = true) (h : XO P ro n N ds w0 X Q ops (putS d (.tuple #[]) σ) η' rest) :
  XO P ro n N ds w0 X Q ops σ η (⟨d, .call { callee := .builtin .delete, args := #[m, x], argTypes := #[t, tk'] }, ty, pos, aft, g⟩ :: rest) :=
 xo_base rfl hg fun a w ha hw => by
  obtain ⟨o, h1, h2⟩ := (hw.imap hb).del (T.hmp _ (look_mem ht)) (T.hik _ (look_mem hk)) ty tk' k
  rw [imDel_setV] at h2
  obtain ⟨o', h3, h4⟩ := hmap_of h2
  refine ⟨.value (.tuple #[]), _, _, ?_, .inl rfl, h _ _ (ha.put hN _) (hw.upd hU (OneB.putObj w b o) h3 h4)⟩
  simp only [execOp, resolve, invoke, builtin, Sem.run_bind, Sem.run_pure, Result.andThen_ok, List.map_toArray, List.map_cons, List.map_nil, ha.ev hm, ha.ev hx, h1]
end
end Go.Proofs.YtommeljlfkmpjaaDoor
namespace Go.Proofs.YtommeljlfkmpjaaDoor
open Go.RowKit
def IterS (P : Program) (g : Nat) (cs : List Value) (wB : World) (need : Nat → Prop) (S : List Int → Prop) (M : Nat) : Prop :=
 ∀ (w : World), wB.heap.size ≤ w.heap.size → (∀ k, need k → w.heap[k]? = wB.heap[k]?) → ∀ (K : Nat → Prop), (∀ k, need k → K k) → ∀ m : Nat,
  SeqStopsK Fence.wide m P g cs.toArray (fun x : Int => #[.int .i64 x]) (KpK K w.heap.size) S (fun _ => True) M w
section
variable {P : Program} {n N : Nat} {ds : List Deferred} {w0 : World} {Q : Exit → Act → World → Prop} {σ : Slots} {η : Hp}
theorem xc_rangeS {go : Operand} {p : Tmp} {assign body : Code} {gf : Nat} {cs : List Value} {S : List Int → Prop} {M : Nat} (hn : 3 ≤ n) (hg : ev σ go = some (.func (.func gf) #[] cs.toArray)) (eg : ∀ args w, (callFunc gf args).run P w = .ok (.enter gf args) w) (hp : Nat.blt p N = true)
  (K : Nat → Prop) (hKlt : ∀ w, WOK w0 XNone η w → ∀ k, K k → k < w.heap.size) (hseq : ∀ w, WOK w0 XNone η w → SeqStopsK Fence.wide (n - 1) P gf cs.toArray (fun x : Int => #[.int .i64 x]) (KpK K w.heap.size) S (fun _ => True) M w)
  {γ : Type} (C : List Int → γ → Prop) (H : List Int → γ → Hp) (g0 : γ) (hC0 : C [] g0) (hH0 : List.Sublist (H [] g0) η)
  (hcell : ∀ ys g, C ys g → ∀ e ∈ H ys g, (∀ o, e.2.2 o → o.isCells = true) ∨ ∃ e' ∈ η, e'.1 = e.1) (hwr : ∀ ys g, C ys g → ∀ e ∈ H ys g, e.2.1 = true → ¬ K e.1) (S1 : Int → Slots)
  (hassign : ∀ l x W, XC P (some l) (n - 1 - 1) N [] W XNone (Exit.then (fun a w => SOK N [] (S1 x) a ∧ Kx XNone W w) (fun _ _ _ => False)) ((p, .int .i64 x) :: σ) [] assign)
  (hbody : ∀ l ys x g W, C ys g → ys.length < M → WOK w0 XNone (H ys g) W → XC P (some l) (n - 1 - 1) N [] W (XW (H ys g)) (RoundPost N W (H ys g) fun w => ∃ g', C (ys ++ [x]) g' ∧ WOK W (XW (H ys g)) (H (ys ++ [x]) g') w) (S1 x) (H ys g) body)
  (hdone : ∀ D xs g, S xs → C xs g → XQ N (mark_ D :: ds) w0 XNone Q .normal σ ((D, true, hdef) :: H xs g)) : XC P none n N ds w0 XNone Q σ η (.rangeFunc go #[p] assign body) := by
 intro a w ha hw
 have hlt : ∀ e ∈ η, e.1 < w.heap.size := fun e he => hw.lt he
 have hsz := hw.kx.size
 -- the relation abides what the loop's own records do
 have hI : OwnFrom w.heap.size (fun (ys : List Int) W => w.heap.size ≤ W.heap.size ∧ ∃ g, C ys g ∧ WOK w0 XNone (H ys g) W) := by
  rintro ys A B row ⟨hszA, g, hg', hA⟩ hgr hrow
  have hne : ∀ e ∈ H ys g, some e.1 ≠ row := fun e he q => by
   obtain ⟨h1, o, h2, h3⟩ := hrow e.1 q.symm
   obtain ⟨o', h4, h5⟩ := hA.bl e he
   rw [h4] at h2
   cases h2
   rcases hcell ys g hg' e he with h6 | ⟨e', h6, h7⟩
   ·rw [h6 _ h5] at h3; cases h3
   ·have := hlt e' h6; omega
  refine ⟨Nat.le_trans hszA hgr.size, g, hg', ⟨hgr.os.trans hA.kx.os, hgr.tape.trans hA.kx.tape, hgr.output.trans hA.kx.output, Nat.le_trans hA.kx.size hgr.size, fun k hk hx => (hgr.block k (Nat.lt_of_lt_of_le hk hA.kx.size) (fun q => ?_)).trans (hA.kx.block k hk hx)⟩, ?_, hA.nd, hA.ow⟩
  ·obtain ⟨h1, _⟩ := hrow k q.symm
   omega
  ·intro e he
   obtain ⟨o, h1, h2⟩ := hA.bl e he
   exact ⟨o, (hgr.block _ (hA.lt he) (hne e he)).trans h1, h2⟩
 refine wpIn_rangeFunc_ownH (F := wideR none) (w := w) (w0 := w) rfl (by omega) (gf := gf) (lb := cs.toArray) (ha.ev hg) trivial eg (hseq w hw) (fun h k => h.trans k) ?_ (Below.refl _ _) (fun _ => rfl)
  (fun ys W => w.heap.size ≤ W.heap.size ∧ ∃ g, C ys g ∧ WOK w0 XNone (H ys g) W) (fun _ _ _ => False) hI (fun _ _ _ _ _ h _ _ => h) ⟨Nat.le_refl _, g0, hC0, hw.sub hH0⟩
  (fun x a' W => SOK N [] (S1 x) a') (fun x a' _ _ _ _ h _ _ => h) ?_ ?_ ?_ ?_
 ·intro W l o o' hl ho hnc hnw
  refine ⟨fun k hk => World.putObj_heap_other (fun e => ?_), by simp, fun k o1 hk h1 h2 => (World.putObj_heap_other (fun e => ?_)).trans h1⟩
  ·have := hKlt w hw k hk; omega
  ·subst e
   rw [ho] at h1
   cases h1
   rw [hnw] at h2
   cases h2
 ·rintro l pre x W K' ⟨hszW, g, hg', hA⟩ hk
  have hs : SOK N [] ((p, .int .i64 x) :: σ) { tmps := ((#[p] : Array Tmp).zip #[Value.int .i64 x]).foldl (fun t (q : Tmp × Value) => t.setIfInBounds q.1 q.2) a.tmps, defers := [] } := by
   have h1 := ha.put (d := some p) (by simpa [dstOK] using hp) (.int .i64 x)
   exact ⟨by simpa [Act.put] using h1.sz, fun i v hv => by simpa [Act.put] using h1.sl i v hv, rfl⟩
  refine wpIn_mono (hassign l x W _ W hs (WOK.start XNone W)) ?_
  intro e a' w' hq
  cases e with
  | normal =>
   obtain ⟨h1, h2⟩ := hq
   have hb := h2.below
   exact hk a' w' ⟨hb.size, fun k o _ ho _ => (hb.block k (Array.getElem?_eq_some_iff.1 ho).1).trans ho⟩ ⟨fun k hK => hb.block k (Nat.lt_of_lt_of_le (hKlt w hw k hK) hszW), hb.size, fun k o _ ho _ => (hb.block k (Array.getElem?_eq_some_iff.1 ho).1).trans ho⟩ ⟨Nat.le_trans hszW hb.size, g, hg', hA.below hb⟩ h1
  | exit id => exact hq
  | goto l => exact hq
  | ret => exact hq
  | panic c => exact hq
  | outgrown => exact hq
 ·rintro l pre x a' W hl _ ⟨hszW, g, hg', hA⟩ hax hlen
  have hxw : ∀ k o, w.heap.size ≤ k → W.heap[k]? = some o → o.isCells = false → ¬ XW (H pre g) k := by
   rintro k o hk ho hnc ⟨e, he, hwr', rfl⟩
   obtain ⟨o', h4, h5⟩ := hA.bl e he
   rw [ho] at h4
   cases h4
   rcases hcell pre g hg' e he with h6 | ⟨e', h6, h7⟩
   ·rw [h6 _ h5] at hnc; cases hnc
   ·have := hlt e' h6; omega
  refine wpIn_mono (hbody l pre x g W hg' hlen hA a' W hax hA.wok) ?_
  intro e a1 w' hq
  cases e with
  | normal =>
   obtain ⟨g', hg2, h2⟩ := hq
   refine ⟨⟨h2.kx.size, fun k o hk ho hnc => (h2.kx.block k (Array.getElem?_eq_some_iff.1 ho).1 (hxw k o hk ho hnc)).trans ho⟩, ⟨fun k hK => h2.kx.block k (Nat.lt_of_lt_of_le (hKlt w hw k hK) hszW) ?_, h2.kx.size, fun k o hk ho hwk => (h2.kx.block k (Array.getElem?_eq_some_iff.1 ho).1 (hxw k o hk ho ?_)).trans ho⟩, Nat.le_trans hszW h2.kx.size, g', hg2, hA.back h2⟩
   ·rintro ⟨e, he, hw1, rfl⟩
    exact hwr pre g hg' e he hw1 hK
   ·cases o <;> first | rfl | cases hwk
  | exit id => exact hq.elim
  | goto l => exact hq.elim
  | ret => exact hq.elim
  | panic c => exact hq.elim
  | outgrown => exact hq.elim
 ·rintro D ys W hD hS ⟨hszW, g, hg', hA⟩ hdf
  refine hdone D ys g hS hg' _ W ⟨ha.sz, ha.sl, by rw [ha.df]; rfl⟩ ⟨hA.kx, ?_, ?_, ?_⟩
  ·intro e he
   rcases List.mem_cons.1 he with rfl | he
   ·exact ⟨_, hdf, rfl⟩
   ·exact hA.bl e he
  ·simp only [List.map_cons, List.nodup_cons]
   refine ⟨fun hm => ?_, hA.nd⟩
   obtain ⟨e, he, q⟩ := List.mem_map.1 hm
   obtain ⟨o', h4, h5⟩ := hA.bl e he
   rw [q, hdf] at h4
   cases h4
   rcases hcell ys g hg' e he with h6 | ⟨e', h6, h7⟩
   ·have := h6 _ h5; cases this
   ·have := hlt e' h6; omega
  ·intro e he hw1
   rcases List.mem_cons.1 he with rfl | he
   ·exact .inl (Nat.le_trans hsz hD)
   ·exact hA.ow e he hw1
 ·intro D c pre W hD _ h _; exact h.elim
end
end Go.Proofs.YtommeljlfkmpjaaDoor
namespace Go.Proofs.YtommeljlfkmpjaaDoor
open Go.RowKit Go.MapKept
def hmapE (es : Array MapEntry) (c : Nat) : HP := fun o => o = .map es c
def hiter (b c : Nat) (seen : Array Nat) : HP := fun o => o = .mapIter (some b) c seen c
inductive Rep (b : Nat) (φ' : HP) : Hp → Hp → Prop
 | head {wr : Bool} {φ : HP} {r : Hp} : Rep b φ' ((b, wr, φ) :: r) ((b, wr, φ') :: r)
 | tail {e : Nat × Bool × HP} {r r' : Hp} (h : Rep b φ' r r') : Rep b φ' (e :: r) (e :: r')
theorem Rep.app {b : Nat} {φ' : HP} {r r' : Hp} (h : Rep b φ' r r') : ∀ l : Hp, Rep b φ' (l ++ r) (l ++ r')
 | [] => h
 | e :: l => .tail (h.app l)
theorem Rep.keys {b : Nat} {φ' : HP} {η η' : Hp} (h : Rep b φ' η η') : η'.map (·.1) = η.map (·.1) := by
 induction h with
 | head => rfl
 | tail _ ih => simp [ih]
theorem Rep.mem {b : Nat} {φ' : HP} {η η' : Hp} (h : Rep b φ' η η') : ∀ e ∈ η', (∃ wr φ, e = (b, wr, φ') ∧ (b, wr, φ) ∈ η) ∨ e ∈ η := by
 induction h with
 | @head wr φ r =>
  intro e he
  rcases List.mem_cons.1 he with rfl | he
  ·exact .inl ⟨wr, φ, rfl, List.mem_cons_self ..⟩
  ·exact .inr (List.mem_cons_of_mem _ he)
 | tail _ ih =>
  intro e he
  rcases List.mem_cons.1 he with rfl | he
  ·exact .inr (List.mem_cons_self ..)
  ·rcases ih e he with ⟨wr, φ, h1, h2⟩ | h1
   ·exact .inl ⟨wr, φ, h1, List.mem_cons_of_mem _ h2⟩
   ·exact .inr (List.mem_cons_of_mem _ h1)
theorem WOK.rep {w0 : World} {X : Nat → Prop} {η η' : Hp} {w : World} (h : WOK w0 X η w) {b : Nat} {φ' : HP} (hR : Rep b φ' η η') {o : Obj} (ho : w.heap[b]? = some o) (hφ : φ' o) : WOK w0 X η' w := by
 refine ⟨h.kx, fun e he => ?_, by rw [hR.keys]; exact h.nd, fun e he hw => ?_⟩
 ·rcases hR.mem e he with ⟨wr, φ, rfl, _⟩ | he
  ·exact ⟨o, ho, hφ⟩
  ·exact h.bl e he
 ·rcases hR.mem e he with ⟨wr, φ, rfl, hm⟩ | he
  ·exact h.ow (b, wr, φ) hm hw
  ·exact h.ow e he hw
section
variable {P : Program} {ro : Option Nat} {n N : Nat} {ds : List Deferred} {w0 : World} {X : Nat → Prop} {Q : Exit → Act → World → Prop} {σ : Slots} {η : Hp} {ops rest : List Oper} {d : Option Tmp} {ty : TypeId} {pos : String} {aft : Array Edge} {g : Option (Nat × Bool)}
theorem xo_rangeM (T : Tys P) {t tk te : TypeId} {m : Operand} {b : Nat} {wr : Bool} {l : List (Int × Value)} {η' : Array MapEntry → Nat → Hp} (hg : gS ops σ g = some true) (ht : look t T.mp = some (tk, te)) (hm : ev σ m = some (.map (some b))) (hb : (b, wr, hmap l) ∈ η) (hR : ∀ es c, Rep b (hmapE es c) η (η' es c)) (hN : dstOK N d = true)
  (h : ∀ r es c, Ents es c l → XO P ro n N ds w0 X Q ops (putS d (.pointer (some ⟨r, 0, none⟩)) σ) ((r, true, hiter b c #[]) :: η' es c) rest) : XO P ro n N ds w0 X Q ops σ η (⟨d, .range t m, ty, pos, aft, g⟩ :: rest) :=
 xo_base rfl hg fun a w ha hw => by
  obtain ⟨o, h1, es, c, rfl, hE⟩ := hw.bl _ hb
  have hw' := hw.rep (hR es c) h1 (φ' := hmapE es c) rfl
  refine ⟨_, w.alloc (.mapIter (some b) c #[] c), .pointer (some ⟨w.heap.size, 0, none⟩), ?_, .inl rfl, h w.heap.size es c hE _ _ (ha.put hN _) (hw'.alloc _ _ rfl)⟩
  have := run_range_map (P := P) w t tk te b es c (T.hmp _ (look_mem ht)) h1
  simp only [execOp, ha.ev hm, Sem.run_bind, this, Result.andThen_ok, Sem.run_pure]
theorem xo_next {x : Operand} {r b c : Nat} {wr : Bool} {es : Array MapEntry} {seen : Array Nat} {l : List (Int × Value)} {η' : Array Nat → Hp} (hg : gS ops σ g = some true) (hx : ev σ x = some (.pointer (some ⟨r, 0, none⟩))) (hr : (r, true, hiter b c seen) ∈ η) (hb : (b, wr, hmapE es c) ∈ η) (hE : Ents es c l) (hU : ∀ seen', Upd r (hiter b c seen') η (η' seen')) (hN : dstOK N d = true)
  (h0 : (∀ e ∈ es.toList, seen.contains e.born = true) → XO P ro n N ds w0 X Q ops (putS d (.tuple #[.bool false]) σ) η rest)
  (h1 : ∀ e ∈ es.toList, seen.contains e.born = false → XO P ro n N ds w0 X Q ops (putS d (.tuple #[.bool true, e.key, e.val]) σ) (η' (seen.push e.born)) rest) : XO P ro n N ds w0 X Q ops σ η (⟨d, .next x false, ty, pos, aft, g⟩ :: rest) :=
 xo_base rfl hg fun a w ha hw => by
  obtain ⟨o, h2, h3⟩ := hw.bl _ hr
  obtain ⟨o', h4, h5⟩ := hw.bl _ hb
  subst h3
  subst h5
  rcases run_next_at (P := P) w ty r b c c seen es c h2 h4 hE.born (Nat.le_refl _) with ⟨h6, hrun⟩ | ⟨e, he, w1, hw1, hrun⟩
  ·refine ⟨_, w, .tuple #[.bool false], ?_, .inl rfl, h0 (fun e he => ?_) _ _ (ha.put hN _) hw⟩
   ·simp only [execOp, ha.ev hx, Sem.run_bind, hrun, Result.andThen_ok, Sem.run_pure]
   ·have : leftOf es seen = #[] := Array.eq_empty_of_size_eq_zero h6
    cases hc : seen.contains e.born with
    | true => rfl
    | false =>
     have hm : e ∈ (leftOf es seen).toList := by unfold leftOf; rw [Array.toList_filter, List.mem_filter]; exact ⟨he, by rw [hc]; rfl⟩
     rw [this] at hm
     simp at hm
  ·unfold leftOf at he
   rw [Array.toList_filter, List.mem_filter] at he
   have hlt := hw.lt hr
   have hw1' : WOK w0 X η w1 := by
    rcases hw1 with rfl | rfl
    ·exact hw
    ·exact hw.drew
   have hsz : r < w1.heap.size := by rcases hw1 with rfl | rfl <;> exact hlt
   refine ⟨_, w1.putObj r (.mapIter (some b) c (seen.push e.born) c), .tuple #[.bool true, e.key, e.val], ?_, .inl rfl, h1 e he.1 (by simpa using he.2) _ _ (ha.put hN _) (hw1'.upd (hU _) (OneB.putObj w1 r _) (World.putObj_heap_same hsz) rfl)⟩
   simp only [execOp, ha.ev hx, Sem.run_bind, hrun, Result.andThen_ok, Sem.run_pure]
   rfl
theorem xo_entry {x : Operand} {r b c : Nat} {wr wr' : Bool} {es : Array MapEntry} {seen : Array Nat} {l : List (Int × Value)} {e : MapEntry} (hg : gS ops σ g = some true) (hx : ev σ x = some (.pointer (some ⟨r, 0, none⟩))) (hr : (r, wr', hiter b c (seen.push e.born)) ∈ η) (hb : (b, wr, hmapE es c) ∈ η) (hE : Ents es c l) (he : e ∈ es.toList) (hN : dstOK N d = true)
  (h : XO P ro n N ds w0 X Q ops (putS d (.tuple #[e.key, e.val]) σ) η rest) : XO P ro n N ds w0 X Q ops σ η (⟨d, .entry x, ty, pos, aft, g⟩ :: rest) :=
 xo_val _ rfl hg hN (fun a w ha hw => by
  obtain ⟨o, h2, h3⟩ := hw.bl _ hr
  obtain ⟨o', h4, h5⟩ := hw.bl _ hb
  subst h3
  subst h5
  have := run_entry_at (P := P) w r b c seen es c e h2 h4 he hE.once
  simp only [execOp, ha.ev hx, Sem.run_bind, this, Result.andThen_ok, Sem.run_pure]) h
end
theorem Ents.setV {es : Array MapEntry} {c : Nat} {s : List Int} (h : Ents es c (setV s)) {e : MapEntry} (he : e ∈ es.toList) : ∃ k, k ∈ s ∧ e.key = .int .i64 k ∧ e.val = .bool true := by
 have h1 : kvE e ∈ es.toList.map kvE := List.mem_map_of_mem he
 rw [h.is, Go.Proofs.YtommeljlfkmpjaaDoor.setV, List.map_map] at h1
 obtain ⟨k, hk, h2⟩ := List.mem_map.1 h1
 exact ⟨k, hk, (congrArg Prod.fst h2).symm, (congrArg Prod.snd h2).symm⟩
end Go.Proofs.YtommeljlfkmpjaaDoor
namespace Go.Proofs.YtommeljlfkmpjaaDoor
open Go.RowKit Go.MapKept
section
variable {P : Program} {ro : Option Nat} {n N : Nat} {ds : List Deferred} {w0 : World} {X : Nat → Prop} {Q : Exit → Act → World → Prop} {σ : Slots} {η : Hp} {ops rest : List Oper} {d : Option Tmp} {ty : TypeId} {pos : String} {aft : Array Edge} {g : Option (Nat × Bool)}
theorem xo_nilck {x : Operand} {p : Addr} (hg : gS ops σ g = some true) (hx : ev σ x = some (.pointer (some p))) (hN : dstOK N d = true) (h : XO P ro n N ds w0 X Q ops (putS d (.pointer (some p)) σ) η rest) :
  XO P ro n N ds w0 X Q ops σ η (⟨d, .nilCheck x, ty, pos, aft, g⟩ :: rest) :=
 xo_val _ rfl hg hN (fun a w ha hw => by simp [execOp, ha.ev hx]) h
theorem xo_iaA (T : Tys P) {t e : TypeId} {m k0 : Nat} {x ix : Operand} {p : Addr} {k : IntKind} {i : Int} (hg : gS ops σ g = some true) (hu : P.underlying t = some (.array m e)) (hk : look e T.tk = some k0) (hx : ev σ x = some (.pointer (some p))) (hi : ev σ ix = some (.int k i))
  (hb : 0 ≤ i ∧ i < (m : Int)) (hN : dstOK N d = true) (h : XO P ro n N ds w0 X Q ops (putS d (.pointer (some (p.add (i.toNat * szN k0)))) σ) η rest) : XO P ro n N ds w0 X Q ops σ η (⟨d, .indexAddr t x ix, ty, pos, aft, g⟩ :: rest) := by
 refine xo_val _ rfl hg hN (fun a w ha hw => ?_) h
 have h2 := (T.htk _ (look_mem hk)).2 w
 have hel : P.elem t = e := by simp [Program.elem, hu]
 have hal : P.arrayLen t = m := by simp [Program.arrayLen, hu]
 have := run_indexAt_array (P := P) (w := w) t p k i (by rw [hel, hal]; exact hu)
 rw [hal, if_pos hb, hel, h2] at this
 simp only [Result.andThen_ok] at this
 simp [execOp, ha.ev hx, ha.ev hi, this, szN]
theorem xc_sub {c : Code} {η' : Hp} (hs : List.Sublist η' η) (h : XC P ro n N ds w0 X Q σ η' c) : XC P ro n N ds w0 X Q σ η c := fun a w ha hw => h a w ha (hw.sub hs)
theorem xq_sub {e : Exit} {η' : Hp} (hs : List.Sublist η' η) (h : XQ N ds w0 X Q e σ η') : XQ N ds w0 X Q e σ η := fun a w ha hw => h a w ha (hw.sub hs)
theorem WOK.join {η ζ : Hp} {w w' : World} (h : WOK w0 X η w) (k : WOK w XNone ζ w') (hz : ∀ e ∈ ζ, e.2.1 = true) : WOK w0 X (ζ ++ η) w' := by
 have hb := h.below k.kx.below
 have hfr : ∀ e ∈ ζ, w.heap.size ≤ e.1 := fun e he => (k.ow e he (hz e he)).resolve_right (fun q => q)
 refine ⟨hb.kx, fun e he => ?_, ?_, fun e he hw => ?_⟩
 ·rcases List.mem_append.1 he with he | he
  ·exact k.bl e he
  ·exact hb.bl e he
 ·rw [List.map_append, List.nodup_append]
  refine ⟨k.nd, hb.nd, fun a ha b hb' e => ?_⟩
  obtain ⟨x, hx, rfl⟩ := List.mem_map.1 ha
  obtain ⟨y, hy, rfl⟩ := List.mem_map.1 hb'
  have h1 := hfr x hx
  have h2 := h.lt hy
  omega
 ·rcases List.mem_append.1 he with he | he
  ·exact .inl (Nat.le_trans h.kx.size (hfr e he))
  ·exact hb.ow e he hw
end
end Go.Proofs.YtommeljlfkmpjaaDoor
namespace Go.Proofs.YtommeljlfkmpjaaDoor.Q
open Go.RowKit
end Go.Proofs.YtommeljlfkmpjaaDoor.Q
namespace Go.Proofs.YtommeljlfkmpjaaDoor.Q
end Go.Proofs.YtommeljlfkmpjaaDoor.Q
namespace Go.Proofs.YtommeljlfkmpjaaDoor
open Go.RowKit Go.Proofs.YtommeljlfkmpjaaDoorW.PrintWords
structure S55 where
 f0 : Int
 f1 : Int
def z55 : S55 := ⟨(0 : Int), (0 : Int)⟩
def k55 : Kd S55 := Kd.iso (Kd.pair (Kd.int .i64) (Kd.int .i64)) (fun x : S55 => (x.f0, x.f1))
theorem k55_open {w : World} {x : S55} {cs : List Value} (h : k55.K w x cs) : cs = [.int .i64 x.f0, .int .i64 x.f1] := by
 obtain ⟨_, _, rfl, rfl, rfl⟩ := h
 exact rfl
theorem k55_mk (w : World) (x : S55)  : k55.K w x [.int .i64 x.f0, .int .i64 x.f1] := ⟨[.int .i64 x.f0], [.int .i64 x.f1], rfl, rfl, rfl⟩
structure S57 where
 f0 : Int
 f1 : Int
 f2 : S55
def z57 : S57 := ⟨(0 : Int), (0 : Int), z55⟩
def k57 : Kd S57 := Kd.iso (Kd.pair (Kd.int .i64) (Kd.pair (Kd.int .i64) k55)) (fun x : S57 => (x.f0, x.f1, x.f2))
theorem k57_open {w : World} {x : S57} {cs : List Value} (h : k57.K w x cs) : cs = [.int .i64 x.f0, .int .i64 x.f1, .int .i64 x.f2.f0, .int .i64 x.f2.f1] := by
 obtain ⟨_, _, rfl, rfl, ⟨_, _, rfl, rfl, s2⟩⟩ := h
 obtain rfl := k55_open s2
 exact rfl
theorem k57_mk (w : World) (x : S57)  : k57.K w x [.int .i64 x.f0, .int .i64 x.f1, .int .i64 x.f2.f0, .int .i64 x.f2.f1] := ⟨[.int .i64 x.f0], [.int .i64 x.f1, .int .i64 x.f2.f0, .int .i64 x.f2.f1], rfl, rfl, ⟨[.int .i64 x.f1], [.int .i64 x.f2.f0, .int .i64 x.f2.f1], rfl, rfl, (k55_mk w x.f2 )⟩⟩
structure S60 where
 f0 : Int
 f1 : Int
 f2 : Int
 f3 : Int
 f4 : S55
 f5 : Int
def z60 : S60 := ⟨(0 : Int), (0 : Int), (0 : Int), (0 : Int), z55, (0 : Int)⟩
def k60 : Kd S60 := Kd.iso (Kd.pair (Kd.int .i64) (Kd.pair (Kd.int .u8) (Kd.pair (Kd.int .i64) (Kd.pair (Kd.int .i64) (Kd.pair k55 (Kd.int .i64)))))) (fun x : S60 => (x.f0, x.f1, x.f2, x.f3, x.f4, x.f5))
theorem k60_open {w : World} {x : S60} {cs : List Value} (h : k60.K w x cs) : cs = [.int .i64 x.f0, .int .u8 x.f1, .int .i64 x.f2, .int .i64 x.f3, .int .i64 x.f4.f0, .int .i64 x.f4.f1, .int .i64 x.f5] := by
 obtain ⟨_, _, rfl, rfl, ⟨_, _, rfl, rfl, ⟨_, _, rfl, rfl, ⟨_, _, rfl, rfl, ⟨_, _, rfl, s4, rfl⟩⟩⟩⟩⟩ := h
 obtain rfl := k55_open s4
 exact rfl
theorem k60_mk (w : World) (x : S60)  : k60.K w x [.int .i64 x.f0, .int .u8 x.f1, .int .i64 x.f2, .int .i64 x.f3, .int .i64 x.f4.f0, .int .i64 x.f4.f1, .int .i64 x.f5] := ⟨[.int .i64 x.f0], [.int .u8 x.f1, .int .i64 x.f2, .int .i64 x.f3, .int .i64 x.f4.f0, .int .i64 x.f4.f1, .int .i64 x.f5], rfl, rfl, ⟨[.int .u8 x.f1], [.int .i64 x.f2, .int .i64 x.f3, .int .i64 x.f4.f0, .int .i64 x.f4.f1, .int .i64 x.f5], rfl, rfl, ⟨[.int .i64 x.f2], [.int .i64 x.f3, .int .i64 x.f4.f0, .int .i64 x.f4.f1, .int .i64 x.f5], rfl, rfl, ⟨[.int .i64 x.f3], [.int .i64 x.f4.f0, .int .i64 x.f4.f1, .int .i64 x.f5], rfl, rfl, ⟨[.int .i64 x.f4.f0, .int .i64 x.f4.f1], [.int .i64 x.f5], rfl, (k55_mk w x.f4 ), rfl⟩⟩⟩⟩⟩
theorem ro1 {w : World} {p : Addr} {v : Value} (h : w.cell? p = some v) : RO w XNone p [v] := fun j u hj => by
 cases j with
 | zero => simp at hj; subst hj; rw [Addr.add_zero']; exact ⟨h, fun x => x⟩
 | succ j => simp at hj
theorem int_at {w : World} {A : Option Addr} {n : Nat} {zs : List Int} (h : Kd.C (Kd.int .i64) w A n zs) (k : Nat) (hk : k < n) : ∃ ad, A = some ad ∧ RO w XNone (ad.add ((k : Int).toNat * szN 0)) [.int .i64 (zs.getD k 0)] := by
 obtain ⟨ad, e, hc⟩ := Kd.at_int h (k : Int) (by omega) (by omega)
 refine ⟨ad, e, ro1 ?_⟩
 have : (k : Int).toNat * szN 0 = (k : Int).toNat := by simp [szN]
 rw [this, hc]
 simp [rd]
theorem in1_calls (x lo hi : Int) (B C : Nat) (w : World) (hB : w.cell? ⟨B, 0, none⟩ = some (.int .i64 lo)) (hC : w.cell? ⟨C, 0, none⟩ = some (.int .i64 hi)) :
  Calls Tryd.prog 60 #[.int .i64 x, .pointer (some ⟨B, 0, none⟩), .pointer (some ⟨C, 0, none⟩)] w fun e w' => e = .returned (.bool (decide (x < lo) || decide (hi < x))) ∧ Below w.heap.size w w' := by
 have r1 := ro1 hB
 have r2 := ro1 hC
 refine x_calls (X := XNone) Tryd.func60 rfl rfl rfl ?_
 with_reducible ((repeat apply xc_seq); apply xcR)
 refine xoA ?_
 with_reducible (apply xo_nil; (repeat first | apply xqT | apply xqB | apply xqS))
 cases h : decide (x < lo)
 all_goals
  with_reducible ((repeat apply xc_seq); apply xcR)
  refine xoM ?_
  refine xo_loadR0 T_ rfl rfl rfl (by first | assumption | exact RO.fld (by assumption) rfl) rfl ?_
  refine xo_lss rfl rfl rfl rfl ?_
  refine xoM ?_
  refine xo_as (i := 8) rfl (congrArg Value.bool h) ?_
  (first | refine xoN ?_ | refine xoM ?_)
  (first | refine xoN ?_ | refine xo_loadR0 T_ rfl rfl rfl (by first | assumption | exact RO.fld (by assumption) rfl) rfl ?_)
  (first | refine xoN ?_ | refine xo_gtr rfl rfl rfl rfl ?_)
  first | refine xo_pickT rfl rfl rfl rfl ?_ | refine xo_pickF rfl rfl rfl rfl ?_
  refine xoA ?_
  with_reducible (apply xo_nil; (repeat first | apply xqT | apply xqB | apply xqS); (repeat apply xc_seq); apply xc_ret; (repeat (first | apply xq_thenR | apply xq_blockR | apply xq_scopeR)))
  exact (xq_ret1 rfl rfl fun w' hw => ⟨rfl, hw.kx.below⟩)
def idxF {α : Type} (p : α → Bool) : List α → Nat → Int
 | [], _ => -1
 | x :: r, i => if p x then (i : Int) else idxF p r (i + 1)
theorem idxF_hit {α : Type} (p : α → Bool) (z : α) : ∀ (zs : List α) (k i : Nat), k < zs.length → p (zs.getD k z) = true → (∀ j, j < k → p (zs.getD j z) = false) → idxF p zs i = ((i + k : Nat) : Int)
 | [], k, i, h, _, _ => absurd h (by simp)
 | x :: r, 0, i, _, h, _ => by simp [idxF] at h ⊢; simp [h]
 | x :: r, k + 1, i, hk, h, hn => by
  have h0 := hn 0 (by omega)
  simp at h0
  have := idxF_hit p z r k (i + 1) (by simpa using hk) (by simpa using h) (fun j hj => by simpa using hn (j + 1) (by omega))
  simp [idxF, h0, this]
  omega
theorem idxF_miss {α : Type} (p : α → Bool) (z : α) : ∀ (zs : List α) (i : Nat), (∀ j, j < zs.length → p (zs.getD j z) = false) → idxF p zs i = -1
 | [], _, _ => rfl
 | x :: r, i, h => by
  have h0 := h 0 (by simp)
  simp at h0
  simp [idxF, h0, idxF_miss p z r (i + 1) (fun j hj => by simpa using h (j + 1) (by simpa using hj))]
theorem idxF_any {α : Type} (p : α → Bool) : ∀ (zs : List α) (i : Nat), decide (0 ≤ idxF p zs i) = zs.any p
 | [], _ => rfl
 | x :: r, i => by
  by_cases h : p x = true
  ·simp [idxF, h]
  ·have h' : p x = false := by simpa using h
   simp [idxF, h', ← idxF_any p r (i + 1)]
def Asks (P : Program) (w : World) (g : Nat) (cs : List Value) (enc : Int → Value) (p : Int → Bool) : Prop :=
 ∀ (x : Int) (W : World), Below w.heap.size w W → Calls P g ([enc x] ++ cs).toArray W fun e W' => e = .returned (.bool (p x)) ∧ Below W.heap.size W W'
theorem indexFunc_calls (p : Int → Bool) (g : Nat) (cs : List Value) (eg : ∀ args w, (callFunc g args).run Tryd.prog w = .ok (.enter g args) w) (A : Option Addr) (c : Nat) (zs : List Int) (w : World)
  (hr : Kd.C (Kd.int .i64) w A zs.length zs) (hp : Asks Tryd.prog w g cs (.int .i64) p) :
  Calls Tryd.prog 87 #[.slice A zs.length c, .func (.func g) #[] cs.toArray] w fun e w' => e = .returned (.int .i64 (idxF p zs 0)) ∧ Below w.heap.size w w' := by
 have hn := hr.2.1
 refine x_calls (X := XNone) Tryd.func87 rfl rfl rfl ?_
 with_reducible ((repeat apply xc_seq); apply xcR)
 refine xoA ?_
 with_reducible (apply xo_nil; (repeat first | apply xqT | apply xqB | apply xqS); (repeat apply xc_seq); apply xcR)
 refine xoM ?_
 refine xo_len T_ rfl rfl rfl rfl ?_
 refine xoM ?_
 with_reducible (apply xo_nil; (repeat first | apply xqT | apply xqB | apply xqS); (repeat apply xc_seq); apply xc_block)
 refine xc_loop (γ := Nat) (fun k => k ≤ zs.length ∧ ∀ j, j < k → p (zs.getD j 0) = false) (fun k => [(0, .slice A zs.length c), (1, .func (.func g) #[] cs.toArray), (6, .slice A zs.length c), (7, .int .i64 (zs.length : Int)), (8, .int .i64 (k : Int))]) (fun _ => []) (fun k => zs.length - k) 0
  ⟨Nat.zero_le _, fun j hj => absurd hj (Nat.not_lt_zero _)⟩ ⟨rfl, rfl, rfl, rfl, rfl, trivial⟩ (List.Sublist.refl _) ?_
 rintro k ⟨hk, hno⟩
 with_reducible ((repeat apply xc_seq); apply xcR)
 refine xo_lss rfl rfl rfl rfl ?_
 with_reducible (apply xo_nil; (repeat first | apply xqT | apply xqB | apply xqS); (repeat apply xc_seq))
 refine xc_cond rfl (fun h => ?_) (fun h => ?_)
 ·have hlt : k < zs.length := by have := of_decide_eq_true h; omega
  obtain ⟨ad, rfl, r1⟩ := int_at hr k hlt
  with_reducible (apply xc_skip; (repeat first | apply xqT | apply xqB | apply xqS); (repeat apply xc_seq); apply xc_block; (repeat apply xc_seq); apply xcR)
  refine xoM ?_
  refine xoA ?_
  with_reducible (apply xo_nil; (repeat first | apply xqT | apply xqB | apply xqS); (repeat apply xc_seq); apply xcR)
  refine xoM ?_
  refine xoM ?_
  refine xoM ?_
  refine xo_ia T_ rfl rfl rfl rfl rfl ⟨by omega, by omega⟩ rfl ?_
  refine xo_loadR0 T_ rfl rfl rfl (by first | assumption | exact RO.fld (by assumption) rfl) rfl ?_
  refine xo_callB (fs := []) rfl rfl rfl eg rfl (fun w1 hw1 => hp _ _ hw1.kx.below) ?_
  with_reducible (apply xo_nil; (repeat first | apply xqT | apply xqB | apply xqS); (repeat apply xc_seq))
  refine xc_cond rfl (fun h2 => ?_) (fun h2 => ?_)
  ·with_reducible repeat apply xc_seq
   with_reducible apply xcR
   refine xoM ?_
   refine xoA ?_
   with_reducible (apply xo_nil; (repeat first | apply xqT | apply xqB | apply xqS); (repeat apply xc_seq); apply xc_ret; (repeat (first | apply xq_thenR | apply xq_blockR | apply xq_scopeR)))
   exact (xq_ret1 rfl rfl fun w' hw => ⟨by rw [idxF_hit p 0 zs k 0 hlt h2 hno]; simp, hw.kx.below⟩)
  ·with_reducible apply xc_skip
   with_reducible ((repeat first | apply xqT | apply xqB | apply xqS); (repeat apply xc_seq); apply xcR)
   refine xo_add rfl rfl rfl (by omega) rfl ?_
   refine xoM ?_
   with_reducible (apply xo_nil; (repeat first | apply xqT | apply xqB | apply xqS))
   refine xq_again _ _ _ _ _ (k + 1) ⟨by omega, fun j hj => ?_⟩ (by omega) ⟨rfl, rfl, rfl, rfl, rfl, trivial⟩ (List.Sublist.refl _)
   by_cases e : j = k
   ·subst e; exact h2
   ·exact hno j (by omega)
 ·have hge : ¬ k < zs.length := by have := of_decide_eq_false h; omega
  with_reducible (apply xc_exit; (repeat (first | apply xq_blockX | apply xq_thenE | refine xq_blockE rfl ?_ | apply xq_scopeE)); (repeat first | apply xqT | apply xqB | apply xqS); (repeat apply xc_seq); apply xcR)
  refine xoA ?_
  with_reducible (apply xo_nil; (repeat first | apply xqT | apply xqB | apply xqS); (repeat apply xc_seq); apply xc_ret; (repeat (first | apply xq_thenR | apply xq_blockR | apply xq_scopeR)))
  refine xq_ret1 rfl rfl fun w' hw => ⟨?_, hw.kx.below⟩
  rw [idxF_miss p 0 zs 0 (fun j hj => hno j (by omega))]
theorem containsFunc_calls (p : Int → Bool) (g : Nat) (cs : List Value) (eg : ∀ args w, (callFunc g args).run Tryd.prog w = .ok (.enter g args) w) (A : Option Addr) (c : Nat) (zs : List Int) (w : World)
  (hr : Kd.C (Kd.int .i64) w A zs.length zs) (hp : Asks Tryd.prog w g cs (.int .i64) p) :
  Calls Tryd.prog 59 #[.slice A zs.length c, .func (.func g) #[] cs.toArray] w fun e w' => e = .returned (.bool (zs.any p)) ∧ Below w.heap.size w w' := by
 rw [← idxF_any p zs 0]
 have eg2 := enters_of Tryd.func87 (by kernel_rfl) rfl
 refine x_calls (X := XNone) Tryd.func59 rfl rfl rfl ?_
 with_reducible ((repeat apply xc_seq); apply xcR)
 refine xoA ?_
 with_reducible (apply xo_nil; (repeat first | apply xqT | apply xqB | apply xqS); (repeat apply xc_seq); apply xcR)
 refine xoM ?_
 refine xoM ?_
 refine xo_callB (fs := []) (cs := []) rfl rfl rfl eg2 rfl (fun w1 hw1 => indexFunc_calls p g cs eg A c zs w1 (Kd.C_below hr hw1.kx.below) (fun x W hW => hp x W (below_step hw1.kx.below hW))) ?_
 refine xo_geq rfl rfl rfl rfl ?_
 refine xoA ?_
 with_reducible (apply xo_nil; (repeat first | apply xqT | apply xqB | apply xqS); (repeat apply xc_seq); apply xc_ret; (repeat (first | apply xq_thenR | apply xq_blockR | apply xq_scopeR)))
 exact (xq_ret1 rfl rfl fun w' hw => ⟨rfl, hw.kx.below⟩)
def origin_in.f (a0 : Int) (a1 : Int) (l2 : List Int) : Option Bool := some (!l2.any fun x => decide (x < a0) || decide (a1 < x))
theorem origin_in.calls (a0 : Int) (a1 : Int) (A2 : Option Addr) (c2 : Nat) (l2 : List Int) (r : Bool) (w : World) (hr2 : Kd.C (Kd.int .i64) w A2 l2.length l2) (hc2 : l2.length ≤ c2) (h : origin_in.f a0 a1 l2 = some r) :
  Calls Tryd.prog 38 #[.int .i64 a0, .int .i64 a1, .slice A2 l2.length c2] w fun e w' => e = .returned (.bool r) ∧ Below w.heap.size w w' := by
 obtain rfl := Option.some.inj h
 have eg : ∀ args w, (callFunc 60 args).run Tryd.prog w = .ok (.enter 60 args) w := enters_of Tryd.func60 (by kernel_rfl) rfl
 have eg2 := enters_of Tryd.func59 (by kernel_rfl) rfl
 refine x_calls (X := XNone) Tryd.func38 rfl rfl rfl ?_
 with_reducible ((repeat apply xc_seq); apply xcR)
 refine xo_box rfl rfl rfl rfl (fun b3 => ?_)
 refine xo_box rfl rfl rfl rfl (fun b4 => ?_)
 refine xoA ?_
 with_reducible (apply xo_nil; (repeat first | apply xqT | apply xqB | apply xqS); (repeat apply xc_seq); apply xcR)
 refine xoM ?_
 refine xo_mkf rfl rfl rfl rfl ?_
 refine xo_callB (fs := []) (cs := []) rfl rfl rfl eg2 rfl (fun w1 hw1 => containsFunc_calls (fun x => decide (x < a0) || decide (a1 < x)) _ [.pointer (some ⟨b3, 0, none⟩), .pointer (some ⟨b4, 0, none⟩)] eg A2 c2 l2 w1 (Kd.C_below hr2 hw1.kx.below)
  (fun x W hW => in1_calls x a0 a1 b3 b4 W ((hw1.below hW).cell (t := 3) (List.Mem.tail _ (List.Mem.head _)) 0 rfl) ((hw1.below hW).cell (List.Mem.head _) 0 rfl))) ?_
 refine xo_notOp rfl rfl rfl ?_
 refine xoA ?_
 with_reducible (apply xo_nil; (repeat first | apply xqT | apply xqB | apply xqS); (repeat apply xc_seq); apply xc_ret; (repeat (first | apply xq_thenR | apply xq_blockR | apply xq_scopeR)))
 exact (xq_ret1 rfl rfl fun w' hw => ⟨rfl, hw.kx.below⟩)
end Go.Proofs.YtommeljlfkmpjaaDoor
namespace Go.Proofs.YtommeljlfkmpjaaDoor
abbrev Edge3 := Nat × Nat × Int
def Adj (es : List Edge3) (a c : Nat) (l : Int) : Prop := (a, c, l) ∈ es ∨ (c, a, l) ∈ es
inductive Wk (es : List Edge3) (b : Nat) : Nat → List Nat → Int → Prop
 | nil : Wk es b b [b] 0
 | cons {a c : Nat} {p : List Nat} {n l : Int} (h : Adj es a c l) (t : Wk es b c p n) : Wk es b a (a :: p) (l + n)
theorem Wk.mem {es : List Edge3} {b a : Nat} {p : List Nat} {n : Int} (h : Wk es b a p n) : a ∈ p := by
 cases h <;> exact List.mem_cons_self
theorem Wk.append {es : List Edge3} {b c : Nat} {q : List Nat} {m : Int} (t : Wk es b c q m) : ∀ {a : Nat} {p : List Nat} {n : Int}, Wk es c a p n → ∃ p', Wk es b a p' (n + m) := by
 intro a p n h
 induction h with
 | nil => exact ⟨q, by rw [Int.zero_add]; exact t⟩
 | cons h _ ih =>
  obtain ⟨p', h'⟩ := ih
  have h2 := Wk.cons h h'
  rw [← Int.add_assoc] at h2
  exact ⟨_, h2⟩
theorem Wk.one {es : List Edge3} {a b : Nat} {l : Int} (h : Adj es a b l) : Wk es b a [a, b] l := by
 have := Wk.cons h (Wk.nil (es := es) (b := b))
 rwa [Int.add_zero] at this
theorem Adj.symm {es : List Edge3} {a b : Nat} {l : Int} (h : Adj es a b l) : Adj es b a l := h.elim .inr .inl
theorem Wk.back {es : List Edge3} {b a : Nat} {p : List Nat} {n : Int} (h : Wk es b a p n) : ∃ q, Wk es a b q n := by
 induction h with
 | nil => exact ⟨_, Wk.nil⟩
 | cons h _ ih =>
  obtain ⟨q, h2⟩ := ih
  obtain ⟨p', h3⟩ := (Wk.one h.symm).append h2
  rw [Int.add_comm] at h3
  exact ⟨p', h3⟩
def Fine (es : List Edge3) (R : Nat) : Prop := ∀ e ∈ es, e.1 < R ∧ e.2.1 < R ∧ 0 ≤ e.2.2
theorem Fine.adj {es : List Edge3} {R : Nat} (hF : Fine es R) {a c : Nat} {l : Int} (h : Adj es a c l) : a < R ∧ c < R ∧ 0 ≤ l := by
 rcases h with h | h
 ·exact hF _ h
 ·have := hF _ h; exact ⟨this.2.1, this.1, this.2.2⟩
theorem Wk.pos {es : List Edge3} {R : Nat} (hF : Fine es R) {b a : Nat} {p : List Nat} {n : Int} (h : Wk es b a p n) : 0 ≤ n := by
 induction h with
 | nil => exact Int.le_refl _
 | cons h _ ih => have := (hF.adj h).2.2; omega
theorem Wk.room {es : List Edge3} {R : Nat} (hF : Fine es R) {b a : Nat} (hb : b < R) {p : List Nat} {n : Int} (h : Wk es b a p n) : ∀ v ∈ p, v < R := by
 induction h with
 | nil => intro v hv; rw [List.mem_singleton.1 hv]; exact hb
 | cons h _ ih =>
  intro v hv
  rcases List.mem_cons.1 hv with rfl | hv
  ·exact (hF.adj h).1
  ·exact ih v hv
theorem Wk.tail {es : List Edge3} {R : Nat} (hF : Fine es R) {b a : Nat} {p : List Nat} {n : Int} (h : Wk es b a p n) (hn : p.Nodup) : ∀ v ∈ p, ∃ q m, Wk es b v q m ∧ q.Nodup ∧ m ≤ n := by
 induction h with
 | nil => intro v hv; rw [List.mem_singleton.1 hv]; exact ⟨_, _, Wk.nil, by simp, Int.le_refl _⟩
 | cons h t ih =>
  intro v hv
  rcases List.mem_cons.1 hv with rfl | hv
  ·exact ⟨_, _, Wk.cons h t, hn, Int.le_refl _⟩
  ·obtain ⟨q, m, h1, h2, h3⟩ := ih (List.nodup_cons.1 hn).2 v hv
   have := (hF.adj h).2.2
   exact ⟨q, m, h1, h2, by omega⟩
theorem Wk.simple {es : List Edge3} {R : Nat} (hF : Fine es R) {b a : Nat} {p : List Nat} {n : Int} (h : Wk es b a p n) : ∃ q m, Wk es b a q m ∧ q.Nodup ∧ m ≤ n := by
 induction h with
 | nil => exact ⟨_, _, Wk.nil, by simp, Int.le_refl _⟩
 | @cons a c p n l h t ih =>
  obtain ⟨q, m, h1, h2, h3⟩ := ih
  have hl := (hF.adj h).2.2
  by_cases hm : a ∈ q
  ·obtain ⟨q', m', k1, k2, k3⟩ := h1.tail hF h2 a hm
   exact ⟨q', m', k1, k2, by omega⟩
  ·exact ⟨a :: q, l + m, Wk.cons h h1, List.nodup_cons.2 ⟨hm, h2⟩, by omega⟩
theorem nodup_le : ∀ (R : Nat) (p : List Nat), p.Nodup → (∀ v ∈ p, v < R) → p.length ≤ R
 | 0, p, _, h => by
  cases p with
  | nil => exact Nat.le_refl _
  | cons v p => exact absurd (h v List.mem_cons_self) (by omega)
 | R + 1, p, hn, h => by
  have h1 := nodup_le R (p.filter fun v => decide (v ≠ R)) (hn.sublist List.filter_sublist) fun v hv => by
   rw [List.mem_filter] at hv
   have := h v hv.1
   have h2 := of_decide_eq_true hv.2
   omega
  have h2 : p.length ≤ (p.filter fun v => decide (v ≠ R)).length + 1 := by
   clear h h1
   induction p with
   | nil => simp
   | cons v p ih =>
    have hn2 := List.nodup_cons.1 hn
    by_cases e : v = R
    ·subst e
     have : (p.filter fun u => decide (u ≠ v)) = p := List.filter_eq_self.2 fun u hu => decide_eq_true fun q => hn2.1 (q ▸ hu)
     rw [List.filter_cons, if_neg (by simp), this]
     simp
    ·rw [List.filter_cons, if_pos (by simp [e])]
     have := ih hn2.2
     simp only [List.length_cons]
     omega
  omega
structure Dist (es : List Edge3) (R : Nat) (N : Int) (r : Nat) (d : Nat → Int) : Prop where
 top : ∀ v, v < R → d v ≤ N
 is : ∀ v, v < R → d v = N ∨ ∃ p, Wk es r v p (d v)
 least : ∀ v, v < R → ∀ p n, Wk es r v p n → d v ≤ n
theorem Dist.pos {es : List Edge3} {R : Nat} (hF : Fine es R) {N : Int} (hN : 0 ≤ N) {r : Nat} {d : Nat → Int} (h : Dist es R N r d) {v : Nat} (hv : v < R) : 0 ≤ d v := by
 rcases h.is v hv with e | ⟨p, h⟩
 ·omega
 ·exact h.pos hF
theorem Dist.same {es : List Edge3} {R : Nat} {N M : Int} {r : Nat} {d e : Nat → Int} (h : Dist es R N r d) (k : Dist es R M r e) {v : Nat} (hv : v < R) (hN : d v < N ∨ ∀ p n, ¬ Wk es r v p n) (hM : e v < M ∨ ∀ p n, ¬ Wk es r v p n) : d v = e v ∨ (d v = N ∧ e v = M) := by
 by_cases hw : ∃ p n, Wk es r v p n
 ·obtain ⟨p, n, hw⟩ := hw
  have h1 := hN.resolve_right fun q => q p n hw
  have h2 := hM.resolve_right fun q => q p n hw
  left
  obtain ⟨p1, w1⟩ := (h.is v hv).resolve_left (by omega)
  obtain ⟨p2, w2⟩ := (k.is v hv).resolve_left (by omega)
  have := h.least v hv p2 _ w2
  have := k.least v hv p1 _ w1
  omega
 ·right
  refine ⟨(h.is v hv).resolve_right fun ⟨p, q⟩ => hw ⟨p, _, q⟩, (k.is v hv).resolve_right fun ⟨p, q⟩ => hw ⟨p, _, q⟩⟩
def relax (d : Nat → Int) (e : Edge3) : Nat → Int := fun v => if v = e.1 then (if d e.2.1 + e.2.2 < d e.1 then d e.2.1 + e.2.2 else d e.1) else if v = e.2.1 then (if d e.1 + e.2.2 < d e.2.1 then d e.1 + e.2.2 else d e.2.1) else d v
def roundB (es : List Edge3) (d : Nat → Int) : Nat → Int := es.foldl relax d
theorem relax_le (d : Nat → Int) (e : Edge3) (v : Nat) : relax d e v ≤ d v := by
 unfold relax
 split
 ·rename_i h; subst h; split <;> omega
 ·split
  ·rename_i h; subst h; split <;> omega
  ·exact Int.le_refl _
theorem roundB_le : ∀ (es : List Edge3) (d : Nat → Int) (v : Nat), roundB es d v ≤ d v
 | [], _, _ => Int.le_refl _
 | e :: es, d, v => Int.le_trans (roundB_le es (relax d e) v) (relax_le d e v)
theorem roundB_adj : ∀ (es : List Edge3) (d : Nat → Int) {a c : Nat} {l : Int}, a ≠ c → Adj es a c l → roundB es d a ≤ d c + l
 | [], _, _, _, _, _, h => by rcases h with h | h <;> cases h
 | e :: es, d, a, c, l, hne, h => by
  have hc := relax_le d e c
  by_cases he : e = (a, c, l) ∨ e = (c, a, l)
  ·have h1 : relax d e a ≤ d c + l := by
    rcases he with rfl | rfl
    ·simp only [relax, if_true]
     split <;> omega
    ·simp only [relax, if_neg hne, if_true]
     split <;> omega
   exact Int.le_trans (roundB_le es _ a) h1
  ·have : Adj es a c l := by
    rcases h with h | h
    ·rcases List.mem_cons.1 h with h | h
     ·exact absurd (.inl h.symm) he
     ·exact .inl h
    ·rcases List.mem_cons.1 h with h | h
     ·exact absurd (.inr h.symm) he
     ·exact .inr h
   have := roundB_adj es (relax d e) hne this
   show roundB es (relax d e) a ≤ _
   omega
def roundsB (es : List Edge3) (d : Nat → Int) : Nat → Nat → Int
 | 0 => d
 | k + 1 => roundB es (roundsB es d k)
def startB (N : Int) (r : Nat) : Nat → Int := fun v => if v = r then 0 else N
structure Sound (es : List Edge3) (N : Int) (r : Nat) (d : Nat → Int) : Prop where
 top : ∀ v, d v ≤ N
 is : ∀ v, d v = N ∨ ∃ p, Wk es r v p (d v)
theorem Sound.relax {es : List Edge3} {N : Int} {r : Nat} {d : Nat → Int} (h : Sound es N r d) {e : Edge3} (he : e ∈ es) (hl : 0 ≤ e.2.2) : Sound es N r (relax d e) := by
 refine ⟨fun v => Int.le_trans (relax_le d e v) (h.top v), fun v => ?_⟩
 unfold Go.Proofs.YtommeljlfkmpjaaDoor.relax
 have t1 := h.top e.1
 have t2 := h.top e.2.1
 split
 ·split
  ·right
   obtain ⟨p, w⟩ := (h.is e.2.1).resolve_left (by omega)
   rename_i hv _
   subst hv
   have h2 := Wk.cons (.inl he) w
   rw [Int.add_comm] at h2
   exact ⟨_, h2⟩
  ·rename_i hv _; subst hv; exact h.is _
 ·split
  ·split
   ·right
    obtain ⟨p, w⟩ := (h.is e.1).resolve_left (by omega)
    rename_i _ hv _
    subst hv
    have h2 := Wk.cons (.inr he) w
    rw [Int.add_comm] at h2
    exact ⟨_, h2⟩
   ·rename_i _ hv _; subst hv; exact h.is _
  ·exact h.is v
theorem Sound.round {es : List Edge3} {N : Int} {r : Nat} (hp : ∀ e ∈ es, 0 ≤ e.2.2) : ∀ (fs : List Edge3) (d : Nat → Int), (∀ e ∈ fs, e ∈ es) → Sound es N r d → Sound es N r (roundB fs d)
 | [], _, _, h => h
 | e :: fs, d, hs, h => Sound.round hp fs (Go.Proofs.YtommeljlfkmpjaaDoor.relax d e) (fun f hf => hs f (List.mem_cons_of_mem _ hf)) (h.relax (hs e List.mem_cons_self) (hp e (hs e List.mem_cons_self)))
theorem rounds_dist {es : List Edge3} {R : Nat} (hF : Fine es R) (hne : ∀ e ∈ es, e.1 ≠ e.2.1) {N : Int} (hN : 0 ≤ N) {r : Nat} (hr : r < R) : Dist es R N r (roundsB es (startB N r) R) := by
 have hp : ∀ e ∈ es, 0 ≤ e.2.2 := fun e he => (hF e he).2.2
 have hs : ∀ k, Sound es N r (roundsB es (startB N r) k) := by
  intro k
  induction k with
  | zero =>
   refine ⟨fun v => by unfold roundsB startB; split <;> omega, fun v => ?_⟩
   unfold roundsB startB
   split
   ·rename_i h; subst h; exact .inr ⟨_, Wk.nil⟩
   ·exact .inl rfl
  | succ k ih => exact Sound.round hp es _ (fun _ h => h) ih
 have hl : ∀ k v p n, Wk es r v p n → p.length ≤ k + 1 → roundsB es (startB N r) k v ≤ n := by
  intro k
  induction k with
  | zero =>
   intro v p n h hk
   cases h with
   | nil => simp [roundsB, startB]
   | cons h t =>
    cases t <;> simp at hk
  | succ k ih =>
   intro v p n h hk
   cases h with
   | nil => exact Int.le_trans (roundB_le _ _ _) (ih _ _ _ Wk.nil (by simp))
   | @cons _ c p n l h t =>
    have h1 := ih c p n t (by simpa using hk)
    have h2 : v ≠ c := by
     rcases h with h | h
     ·exact hne _ h
     ·exact fun e => hne _ h e.symm
    have := roundB_adj es (roundsB es (startB N r) k) h2 h
    show roundB es _ v ≤ _
    omega
 refine ⟨fun v _ => (hs R).top v, fun v _ => (hs R).is v, fun v _ p n h => ?_⟩
 obtain ⟨q, m, h1, h2, h3⟩ := h.simple hF
 have := nodup_le R q h2 (h1.room hF hr)
 have := hl R v q m h1 (by omega)
 omega
def updM (F : Nat → Nat → Int) (a b : Nat) (v : Int) : Nat → Nat → Int := fun x y => if x = a ∧ y = b then v else F x y
def startM (N : Int) : Nat → Nat → Int := fun a b => if a = b then 0 else N
def gateM (F : Nat → Nat → Int) (e : Edge3) : Nat → Nat → Int := updM (updM F e.1 e.2.1 (if e.2.2 < F e.1 e.2.1 then e.2.2 else F e.1 e.2.1)) e.2.1 e.1 (if e.2.2 < F e.1 e.2.1 then e.2.2 else F e.1 e.2.1)
def gatesM (es : List Edge3) (F : Nat → Nat → Int) : Nat → Nat → Int := es.foldl gateM F
def cellM (k : Nat) (F : Nat → Nat → Int) (a b : Nat) : Nat → Nat → Int := updM F a b (if F a k + F k b < F a b then F a k + F k b else F a b)
def rowM (k a : Nat) (F : Nat → Nat → Int) : Nat → Nat → Nat → Int
 | 0 => F
 | b + 1 => cellM k (rowM k a F b) a b
def allM (R k : Nat) (F : Nat → Nat → Int) : Nat → Nat → Nat → Int
 | 0 => F
 | a + 1 => rowM k a (allM R k F a) R
def fwM (R : Nat) (F : Nat → Nat → Int) : Nat → Nat → Nat → Int
 | 0 => F
 | k + 1 => allM R k (fwM R F k) R
structure SoundM (es : List Edge3) (N : Int) (F : Nat → Nat → Int) : Prop where
 top : ∀ a b, F a b ≤ N
 pos : ∀ a b, 0 ≤ F a b
 zero : ∀ a, F a a = 0
 is : ∀ a b, F a b = N ∨ ∃ p, Wk es b a p (F a b)
theorem SoundM.cell {es : List Edge3} {N : Int} {F : Nat → Nat → Int} (h : SoundM es N F) (k a b : Nat) : SoundM es N (cellM k F a b) := by
 have t := h.top a b
 have p1 := h.pos a k
 have p2 := h.pos k b
 have p3 := h.pos a b
 refine ⟨fun x y => ?_, fun x y => ?_, fun x => ?_, fun x y => ?_⟩
 ·unfold cellM updM
  split
  ·split <;> omega
  ·exact h.top x y
 ·unfold cellM updM
  split
  ·split <;> omega
  ·exact h.pos x y
 ·unfold cellM updM
  split
  ·rename_i hx
   obtain ⟨rfl, rfl⟩ := hx
   have := h.zero x
   split <;> omega
  ·exact h.zero x
 ·unfold cellM updM
  split
  ·rename_i hx
   obtain ⟨rfl, rfl⟩ := hx
   split
   ·right
    obtain ⟨q1, w1⟩ := (h.is x k).resolve_left (by omega)
    obtain ⟨q2, w2⟩ := (h.is k y).resolve_left (by omega)
    exact w2.append w1
   ·exact h.is x y
  ·exact h.is x y
theorem SoundM.row {es : List Edge3} {N : Int} {F : Nat → Nat → Int} (h : SoundM es N F) (k a : Nat) : ∀ b, SoundM es N (rowM k a F b)
 | 0 => h
 | b + 1 => (SoundM.row h k a b).cell k a b
theorem SoundM.all {es : List Edge3} {N : Int} {F : Nat → Nat → Int} (h : SoundM es N F) (R k : Nat) : ∀ a, SoundM es N (allM R k F a)
 | 0 => h
 | a + 1 => (SoundM.all h R k a).row k a R
theorem SoundM.fw {es : List Edge3} {N : Int} {F : Nat → Nat → Int} (h : SoundM es N F) (R : Nat) : ∀ k, SoundM es N (fwM R F k)
 | 0 => h
 | k + 1 => (SoundM.fw h R k).all R k R
theorem rowM_eq {es : List Edge3} {N : Int} {F : Nat → Nat → Int} (h : SoundM es N F) (k a : Nat) : ∀ b x y, rowM k a F b x y = if x = a ∧ y < b then (if F a k + F k y < F a y then F a k + F k y else F a y) else F x y
 | 0, x, y => by rw [if_neg (by omega)]; rfl
 | b + 1, x, y => by
  have hk := h.zero k
  have e1 : rowM k a F b a k = F a k := by
   rw [rowM_eq h k a b]
   split
   ·rw [hk]; split <;> omega
   ·rfl
  have e2 : rowM k a F b k b = F k b := by
   rw [rowM_eq h k a b, if_neg (by omega)]
  have e3 : rowM k a F b a b = F a b := by
   rw [rowM_eq h k a b, if_neg (by omega)]
  show cellM k (rowM k a F b) a b x y = _
  unfold cellM updM
  rw [e1, e2, e3]
  by_cases hx : x = a ∧ y = b
  ·obtain ⟨rfl, rfl⟩ := hx
   rw [if_pos (⟨rfl, rfl⟩ : x = x ∧ y = y), if_pos (⟨rfl, by omega⟩ : x = x ∧ y < y + 1)]
  ·rw [if_neg hx, rowM_eq h k a b]
   by_cases h2 : x = a ∧ y < b
   ·rw [if_pos h2, if_pos (show x = a ∧ y < b + 1 from ⟨h2.1, by omega⟩)]
   ·rw [if_neg h2, if_neg]
    rintro ⟨q1, q2⟩
    exact h2 ⟨q1, by have : y ≠ b := fun e => hx ⟨q1, e⟩; omega⟩
theorem allM_eq {es : List Edge3} {N : Int} {F : Nat → Nat → Int} (h : SoundM es N F) (R k : Nat) : ∀ a x y, allM R k F a x y = if x < a ∧ y < R then (if F x k + F k y < F x y then F x k + F k y else F x y) else F x y
 | 0, x, y => by rw [if_neg (by omega)]; rfl
 | a + 1, x, y => by
  have hk := h.zero k
  have e1 : ∀ z, allM R k F a k z = F k z := fun z => by
   rw [allM_eq h R k a]
   split
   ·rw [hk]; split <;> omega
   ·rfl
  have e2 : ∀ z, allM R k F a a z = F a z := fun z => by rw [allM_eq h R k a, if_neg (by omega)]
  show rowM k a (allM R k F a) R x y = _
  rw [rowM_eq (h.all R k a), e1, e2, e2]
  by_cases hx : x = a
  ·subst hx
   by_cases hy : y < R
   ·rw [if_pos (show x = x ∧ y < R from ⟨rfl, hy⟩), if_pos (show x < x + 1 ∧ y < R from ⟨by omega, hy⟩)]
   ·rw [if_neg (by omega), if_neg (by omega), e2]
  ·rw [if_neg (fun q => hx q.1), allM_eq h R k a]
   by_cases h2 : x < a ∧ y < R
   ·rw [if_pos h2, if_pos (show x < a + 1 ∧ y < R from ⟨by omega, h2.2⟩)]
   ·rw [if_neg h2, if_neg (by omega)]
theorem fwM_tri {es : List Edge3} {N : Int} {F : Nat → Nat → Int} (h : SoundM es N F) (R : Nat) : ∀ k j, j < k → k ≤ R → ∀ a b, a < R → b < R → fwM R F k a b ≤ fwM R F k a j + fwM R F k j b
 | 0, j, hj, _, _, _, _, _ => by omega
 | k + 1, j, hj, hk, a, b, ha, hb => by
  have hs := h.fw R k
  have ih := fun i (hi : i < k) x y (hx : x < R) (hy : y < R) => fwM_tri h R k i hi (by omega) x y hx hy
  have hz := hs.zero k
  show allM R k (fwM R F k) R a b ≤ allM R k (fwM R F k) R a j + allM R k (fwM R F k) R j b
  rw [allM_eq hs, allM_eq hs, allM_eq hs, if_pos (show a < R ∧ b < R from ⟨ha, hb⟩), if_pos (show a < R ∧ j < R from ⟨ha, by omega⟩), if_pos (show j < R ∧ b < R from ⟨by omega, hb⟩)]
  have q1 := hs.pos k j
  have q2 := hs.pos j k
  by_cases e : j = k
  ·subst e
   rw [hz]
   split <;> split <;> split <;> omega
  ·have i1 := ih j (by omega) a b ha hb
   have i2 := ih j (by omega) k b (by omega) hb
   have i3 := ih j (by omega) a k ha (by omega)
   split <;> split <;> split <;> omega
theorem fwM_le {es : List Edge3} {N : Int} {F : Nat → Nat → Int} (h : SoundM es N F) (R : Nat) : ∀ k a b, fwM R F k a b ≤ F a b
 | 0, _, _ => Int.le_refl _
 | k + 1, a, b => by
  refine Int.le_trans ?_ (fwM_le h R k a b)
  show allM R k (fwM R F k) R a b ≤ _
  rw [allM_eq (h.fw R k)]
  split
  ·split <;> omega
  ·exact Int.le_refl _
theorem SoundM.start {es : List Edge3} {N : Int} (hN : 0 ≤ N) : SoundM es N (startM N) := by
 refine ⟨fun a b => ?_, fun a b => ?_, fun a => by simp [startM], fun a b => ?_⟩ <;> unfold startM
 ·split <;> omega
 ·split <;> omega
 ·split
  ·rename_i h; subst h; exact .inr ⟨_, Wk.nil⟩
  ·exact .inl rfl
theorem SoundM.gate {es : List Edge3} {N : Int} {F : Nat → Nat → Int} (h : SoundM es N F) {e : Edge3} (he : e ∈ es) (hl : 0 ≤ e.2.2) (hne : e.1 ≠ e.2.1) (hsy : ∀ a b, F a b = F b a) : SoundM es N (gateM F e) := by
 have t := h.top e.1 e.2.1
 have p3 := h.pos e.1 e.2.1
 have hsy' := hsy e.2.1 e.1
 refine ⟨fun x y => ?_, fun x y => ?_, fun x => ?_, fun x y => ?_⟩ <;> unfold gateM updM
 ·split
  ·split <;> omega
  ·split
   ·split <;> omega
   ·exact h.top x y
 ·split
  ·split <;> omega
  ·split
   ·split <;> omega
   ·exact h.pos x y
 ·rw [if_neg (fun q => hne (q.2.symm.trans q.1)), if_neg (fun q => hne (q.1.symm.trans q.2))]
  exact h.zero x
 ·split
  ·rename_i hx
   obtain ⟨rfl, rfl⟩ := hx
   split
   ·exact .inr ⟨_, Wk.one (.inr he)⟩
   ·rw [← hsy']; exact h.is _ _
  ·split
   ·rename_i hx
    obtain ⟨rfl, rfl⟩ := hx
    split
    ·exact .inr ⟨_, Wk.one (.inl he)⟩
    ·exact h.is _ _
   ·exact h.is x y
theorem gateM_sym {F : Nat → Nat → Int} (hsy : ∀ a b, F a b = F b a) (e : Edge3) : ∀ a b, gateM F e a b = gateM F e b a := by
 intro a b
 unfold gateM updM
 generalize (if e.2.2 < F e.1 e.2.1 then e.2.2 else F e.1 e.2.1) = v
 by_cases h1 : a = e.2.1 ∧ b = e.1
 ·rw [if_pos h1]
  by_cases h2 : b = e.2.1 ∧ a = e.1
  ·rw [if_pos h2]
  ·rw [if_neg h2, if_pos (show b = e.1 ∧ a = e.2.1 from ⟨h1.2, h1.1⟩)]
 ·rw [if_neg h1]
  by_cases h2 : a = e.1 ∧ b = e.2.1
  ·rw [if_pos h2, if_pos (show b = e.2.1 ∧ a = e.1 from ⟨h2.2, h2.1⟩)]
  ·rw [if_neg h2, if_neg (fun q => h2 ⟨q.2, q.1⟩), if_neg (fun q => h1 ⟨q.2, q.1⟩)]
   exact hsy a b
theorem gateM_at1 (F : Nat → Nat → Int) (e : Edge3) (hne : e.1 ≠ e.2.1) : gateM F e e.1 e.2.1 ≤ e.2.2 := by
 unfold gateM updM
 rw [if_neg (fun z => hne z.1), if_pos (show e.1 = e.1 ∧ e.2.1 = e.2.1 from ⟨rfl, rfl⟩)]
 split <;> omega
theorem gateM_at2 (F : Nat → Nat → Int) (e : Edge3) : gateM F e e.2.1 e.1 ≤ e.2.2 := by
 unfold gateM updM
 rw [if_pos (show e.2.1 = e.2.1 ∧ e.1 = e.1 from ⟨rfl, rfl⟩)]
 split <;> omega
theorem gateM_le (F : Nat → Nat → Int) (hsy : ∀ a b, F a b = F b a) (e : Edge3) (a b : Nat) : gateM F e a b ≤ F a b := by
 have := hsy e.2.1 e.1
 unfold gateM updM
 split
 ·rename_i hx; obtain ⟨rfl, rfl⟩ := hx; split <;> omega
 ·split
  ·rename_i hx; obtain ⟨rfl, rfl⟩ := hx; split <;> omega
  ·exact Int.le_refl _
theorem gatesM_ok {es : List Edge3} {N : Int} (hp : ∀ e ∈ es, 0 ≤ e.2.2) (hne : ∀ e ∈ es, e.1 ≠ e.2.1) : ∀ (fs : List Edge3) (F : Nat → Nat → Int), (∀ e ∈ fs, e ∈ es) → SoundM es N F → (∀ a b, F a b = F b a) → SoundM es N (gatesM fs F) ∧ (∀ a b, gatesM fs F a b ≤ F a b) ∧ ∀ a c l, Adj fs a c l → gatesM fs F a c ≤ l
 | [], F, _, h, _ => ⟨h, fun _ _ => Int.le_refl _, fun a c l q => by rcases q with q | q <;> cases q⟩
 | e :: fs, F, hs, h, hsy => by
  have hm := hs e List.mem_cons_self
  obtain ⟨i1, i2, i3⟩ := gatesM_ok hp hne fs (gateM F e) (fun f hf => hs f (List.mem_cons_of_mem _ hf)) (h.gate hm (hp e hm) (hne e hm) hsy) (gateM_sym hsy e)
  refine ⟨i1, fun a b => Int.le_trans (i2 a b) (gateM_le F hsy e a b), fun a c l q => ?_⟩
  by_cases he : e = (a, c, l) ∨ e = (c, a, l)
  ·refine Int.le_trans (i2 a c) ?_
   have := hne e hm
   rcases he with rfl | rfl
   ·exact gateM_at1 F (a, c, l) this
   ·exact gateM_at2 F (c, a, l)
  ·refine i3 a c l ?_
   rcases q with q | q
   ·rcases List.mem_cons.1 q with q | q
    ·exact absurd (.inl q.symm) he
    ·exact .inl q
   ·rcases List.mem_cons.1 q with q | q
    ·exact absurd (.inr q.symm) he
    ·exact .inr q
theorem fw_dist {es : List Edge3} {R : Nat} (hF : Fine es R) (hne : ∀ e ∈ es, e.1 ≠ e.2.1) {N : Int} (hN : 0 ≤ N) {r : Nat} (hr : r < R) : Dist es R N r (fun v => fwM R (gatesM es (startM N)) R r v) := by
 have hp : ∀ e ∈ es, 0 ≤ e.2.2 := fun e he => (hF e he).2.2
 obtain ⟨g1, _, g3⟩ := gatesM_ok hp hne es (startM N) (fun _ h => h) (SoundM.start hN) (fun a b => by
  unfold startM
  by_cases e : a = b
  ·rw [if_pos e, if_pos e.symm]
  ·rw [if_neg e, if_neg (fun q => e q.symm)])
 have hS := g1.fw R R
 have tri := fwM_tri g1 R R
 have le := fwM_le g1 R R
 refine ⟨fun v _ => hS.top r v, fun v _ => ?_, fun v hv p n h => ?_⟩
 ·rcases hS.is r v with e | ⟨p, w⟩
  ·exact .inl e
  ·exact .inr w.back
 ·have key : ∀ {v p n}, Wk es r v p n → v < R → fwM R (gatesM es (startM N)) R r v ≤ n := by
   intro v p n h
   induction h with
   | nil => intro _; exact Int.le_of_eq (hS.zero r)
   | @cons a c p n l h t ih =>
    intro ha
    have hc := (hF.adj h).2.1
    have i1 := ih hc
    have i2 := tri c hc (Nat.le_refl _) r a hr ha
    have i3 := Int.le_trans (le c a) (g3 c a l h.symm)
    omega
  exact key h hv
end Go.Proofs.YtommeljlfkmpjaaDoor
namespace Go.Proofs.YtommeljlfkmpjaaDoor
open Go.RowKit Go.Proofs.YtommeljlfkmpjaaDoorW.PrintWords
abbrev SpaT := S55
abbrev GatT := S57
abbrev MarT := S60
abbrev gatK : Kd GatT := k57
abbrev marK : Kd MarT := k60
abbrev zSpa : SpaT := z55
abbrev zGat : GatT := z57
abbrev zMar : MarT := z60
def spaV (x : SpaT) : List Value := [.int .i64 x.f0, .int .i64 x.f1]
def gatV (x : GatT) : List Value := [.int .i64 x.f0, .int .i64 x.f1, .int .i64 x.f2.f0, .int .i64 x.f2.f1]
def marV (x : MarT) : List Value := [.int .i64 x.f0, .int .u8 x.f1, .int .i64 x.f2, .int .i64 x.f3, .int .i64 x.f4.f0, .int .i64 x.f4.f1, .int .i64 x.f5]
def scnV (R : Int) (A : Option Addr) (n c : Nat) (E : Int) (B : Option Addr) (m c2 : Nat) : List Value := [.int .i64 R, .slice A n c, .int .i64 E, .slice B m c2]
theorem ro_of {w : World} {p : Addr} {cs : List Value} (h : ∀ j v, cs[j]? = some v → w.cell? (p.add j) = some v) : RO w XNone p cs := fun j v hj => ⟨h j v hj, fun x => x⟩
theorem at_of {α : Type} {d : Kd α} {w : World} {A : Option Addr} {n : Nat} {xs : List α} (h : Kd.C d w A n xs) (z : α) (k : Nat) (hk : k < n) :
  ∃ ad cs, A = some ad ∧ xs[k]? = some (xs.getD k z) ∧ d.K w (xs.getD k z) cs ∧ RO w XNone (ad.add (k * d.sz)) cs := by
 obtain ⟨ad, e, hc⟩ := h.2.2 (by omega)
 have hl : k < xs.length := by have := h.1; omega
 have hg : xs.getD k z = xs[k] := by simp [List.getD_eq_getElem?_getD, List.getElem?_eq_getElem hl]
 obtain ⟨cs, h1, h2, h3⟩ := hc k _ (List.getElem?_eq_getElem hl)
 rw [hg]
 exact ⟨ad, cs, e, List.getElem?_eq_getElem hl, h2, ro_of fun j v hj => by rw [add_add]; exact h3 j v hj⟩
theorem drop_at {α : Type} (xs : List α) (z : α) (k : Nat) (hk : k < xs.length) : xs.drop k = xs.getD k z :: xs.drop (k + 1) := by
 rw [List.drop_eq_getElem_cons hk]
 simp [List.getD_eq_getElem?_getD, List.getElem?_eq_getElem hk]
theorem getD_mem {α : Type} (xs : List α) (z : α) (k : Nat) (hk : k < xs.length) : xs.getD k z ∈ xs := by
 simp [List.getD_eq_getElem?_getD, List.getElem?_eq_getElem hk]
theorem C_cel {w0 : World} {X : Nat → Prop} {η : Hp} {w : World} (hw : WOK w0 X η w) {b : Nat} {wr : Bool} {xs : List Int} {t : TypeId} (hm : (b, wr, cel (xs.map (.int .i64)) t) ∈ η) (hl : xs.length ≤ 9223372036854775807) : Kd.C (Kd.int .i64) w (some ⟨b, 0, none⟩) xs.length xs := by
 refine ⟨rfl, hl, fun _ => ⟨_, rfl, fun j p hj => ⟨[.int .i64 p], rfl, rfl, fun i u hu => ?_⟩⟩⟩
 have hi : i = 0 := by
  have := (List.getElem?_eq_some_iff.1 hu).1
  simpa using this
 subst hi
 simp at hu
 subst hu
 rw [Addr.add_lit]
 refine hw.cell hm _ ?_
 simp [Kd.int, Kd.scalar, hj]
theorem gat_at {w : World} {A : Option Addr} {n : Nat} {r : List GatT} (h : Kd.C gatK w A n r) (k : Nat) (hk : k < n) :
  ∃ ad, A = some ad ∧ RO w XNone (ad.add ((k : Int).toNat * szN 4)) (gatV (r.getD k zGat)) := by
 obtain ⟨ad, cs, e, _, hK, hR⟩ := at_of h zGat k hk
 obtain rfl := k57_open hK
 exact ⟨ad, e, hR⟩
theorem mar_at {w : World} {A : Option Addr} {n : Nat} {r : List MarT} (h : Kd.C marK w A n r) (k : Nat) (hk : k < n) :
  ∃ ad, A = some ad ∧ RO w XNone (ad.add ((k : Int).toNat * szN 7)) (marV (r.getD k zMar)) := by
 obtain ⟨ad, cs, e, _, hK, hR⟩ := at_of h zMar k hk
 obtain rfl := k60_open hK
 exact ⟨ad, e, hR⟩
def inF (lo hi x : Int) : Bool := decide (lo ≤ x) && decide (x ≤ hi)
theorem in_one (a0 a1 x : Int) : (!([x].any fun x => decide (x < a0) || decide (a1 < x))) = inF a0 a1 x := by
 unfold inF
 rw [Bool.eq_iff_iff]
 simp
theorem in_calls {w0 : World} {X : Nat → Prop} {η : Hp} {w : World} (hw : WOK w0 X η w) (lo hi x : Int) {b : Nat} {wr : Bool} {t : TypeId} (hm : (b, wr, cel [.int .i64 x] t) ∈ η) :
  Calls Tryd.prog 38 #[.int .i64 lo, .int .i64 hi, .slice (some ⟨b, 0, none⟩) 1 1] w fun e w' => e = .returned (.bool (inF lo hi x)) ∧ Below w.heap.size w w' := by
 rw [← in_one]
 exact origin_in.calls lo hi (some ⟨b, 0, none⟩) 1 [x] _ w (C_cel hw (xs := [x]) hm (by simp)) (by simp) rfl
theorem in_enters : ∀ args w, (callFunc 38 args).run Tryd.prog w = .ok (.enter 38 args) w := enters_of Tryd.func38 (by kernel_rfl) rfl
def gateF (R : Int) (g : GatT) : Bool := inF 0 (R - 1) g.f0 && inF 0 (R - 1) g.f1 && !decide (g.f0 = g.f1) && (inF 0 60 g.f2.f0 && inF 0 60 g.f2.f1 && decide (g.f2.f0 ≤ g.f2.f1)) && decide (g.f2.f1 ≤ g.f2.f0 + 2)
def noneF (m : MarT) : Bool := decide (m.f4.f0 = 0) && decide (m.f4.f1 = 0)
def timedF (m : MarT) : Bool := (inF 0 600 m.f4.f0 && inF 0 600 m.f4.f1 && decide (m.f4.f0 ≤ m.f4.f1)) && decide (m.f3 = 0) && decide (m.f5 = 0)
def lastingF (m : MarT) : Bool := inF 0 600 m.f5 && decide (m.f3 = 0) && noneF m
def beforeF (R : Int) (m : MarT) : Bool := inF 0 (R - 1) m.f3 && !decide (m.f3 = m.f2) && decide (m.f5 = 0) && noneF m
def kindF (R : Int) (m : MarT) : Bool := if m.f1 ≤ 3 then timedF m else if m.f1 ≤ 5 then lastingF m else beforeF R m
def marksF (R : Int) : Int → List MarT → Bool
 | _, [] => true
 | last, m :: ms => (inF (last + 1) 9999 m.f0 && inF 0 (R - 1) m.f2 && inF 1 6 m.f1 && kindF R m) && marksF R m.f0 ms
def sceneF (R E : Int) (gs : List GatT) (ms : List MarT) : Bool := (inF 1 6 R && inF 0 600 E && decide (gs.length ≤ 6) && decide (ms.length ≤ 8)) && gs.all (gateF R) && marksF R (-1) ms
def upL (lo : Int) : Nat → List Int
 | 0 => []
 | n + 1 => lo :: upL (lo + 1) n
def allD : List GatT → List (List Int)
 | [] => [[]]
 | g :: gs => (upL g.f2.f0 (g.f2.f1 - g.f2.f0 + 1).toNat).flatMap fun x => (allD gs).map (x :: ·)
def leastD (gs : List GatT) : List Int := gs.map fun g => g.f2.f0
def nextD : List GatT → List Int → Option (List Int)
 | g :: gs, x :: l => match nextD gs l with
  | some l' => some (x :: l')
  | none => if x < g.f2.f1 then some ((x + 1) :: leastD gs) else none
 | _, _ => none
def tailD : List GatT → List Int → List (List Int)
 | g :: gs, x :: l => (tailD gs l).map (x :: ·) ++ ((upL (x + 1) (g.f2.f1 - x).toNat).flatMap fun y => (allD gs).map (y :: ·))
 | _, _ => [[]]
def okD : List GatT → List Int → Prop
 | [], [] => True
 | g :: gs, x :: l => (g.f2.f0 ≤ x ∧ x ≤ g.f2.f1) ∧ okD gs l
 | _, _ => False
theorem okD_len : ∀ {gs : List GatT} {l : List Int}, okD gs l → l.length = gs.length
 | [], [], _ => rfl
 | _ :: _, _ :: _, h => congrArg (· + 1) (okD_len h.2)
 | [], _ :: _, h => h.elim
 | _ :: _, [], h => h.elim
theorem okD_at : ∀ {gs : List GatT} {l : List Int}, okD gs l → ∀ i, i < gs.length → (gs.getD i zGat).f2.f0 ≤ l.getD i 0 ∧ l.getD i 0 ≤ (gs.getD i zGat).f2.f1
 | [], _, _, i, hi => absurd hi (by simp)
 | g :: gs, x :: l, h, 0, _ => by simpa using h.1
 | g :: gs, x :: l, h, i + 1, hi => by simpa using okD_at h.2 i (by simpa using hi)
 | _ :: _, [], h, _, _ => h.elim
theorem least_ok : ∀ {gs : List GatT}, (∀ g ∈ gs, g.f2.f0 ≤ g.f2.f1) → okD gs (leastD gs)
 | [], _ => trivial
 | g :: gs, h => ⟨⟨Int.le_refl _, h g List.mem_cons_self⟩, least_ok fun q hq => h q (List.mem_cons_of_mem _ hq)⟩
theorem tailD_least : ∀ {gs : List GatT}, (∀ g ∈ gs, g.f2.f0 ≤ g.f2.f1) → tailD gs (leastD gs) = allD gs
 | [], _ => rfl
 | g :: gs, h => by
  have hg := h g List.mem_cons_self
  have ih := tailD_least (gs := gs) fun q hq => h q (List.mem_cons_of_mem _ hq)
  show (tailD gs (leastD gs)).map (g.f2.f0 :: ·) ++ _ = allD (g :: gs)
  rw [ih, allD, show (g.f2.f1 - g.f2.f0 + 1).toNat = (g.f2.f1 - g.f2.f0).toNat + 1 by omega, upL, List.flatMap_cons]
theorem tailD_step : ∀ {gs : List GatT} {l : List Int}, (∀ g ∈ gs, g.f2.f0 ≤ g.f2.f1) → okD gs l → tailD gs l = l :: (match nextD gs l with | some l' => tailD gs l' | none => [])
 | [], [], _, _ => rfl
 | [], _ :: _, _, h => h.elim
 | _ :: _, [], _, h => h.elim
 | g :: gs, x :: l, hg, h => by
  have hg' : ∀ q ∈ gs, q.f2.f0 ≤ q.f2.f1 := fun q hq => hg q (List.mem_cons_of_mem _ hq)
  have ih := tailD_step hg' h.2
  rw [tailD, nextD]
  cases hn : nextD gs l with
  | some l' =>
   rw [hn] at ih
   simp only at ih ⊢
   rw [ih, List.map_cons, List.cons_append]
   rfl
  | none =>
   rw [hn] at ih
   simp only at ih ⊢
   rw [ih]
   by_cases hx : x < g.f2.f1
   ·rw [if_pos hx, show (g.f2.f1 - x).toNat = (g.f2.f1 - (x + 1)).toNat + 1 by omega, upL, List.flatMap_cons]
    show _ = (x :: l) :: tailD (g :: gs) ((x + 1) :: leastD gs)
    rw [tailD, tailD_least hg']
    rfl
   ·rw [if_neg hx, show (g.f2.f1 - x).toNat = 0 by omega]
    rfl
theorem next_ok : ∀ {gs : List GatT} {l l' : List Int}, (∀ g ∈ gs, g.f2.f0 ≤ g.f2.f1) → okD gs l → nextD gs l = some l' → okD gs l'
 | [], [], _, _, _, h => by cases h
 | [], _ :: _, _, _, h, _ => h.elim
 | _ :: _, [], _, _, h, _ => h.elim
 | g :: gs, x :: l, l', hg, h, hn => by
  have hg' : ∀ q ∈ gs, q.f2.f0 ≤ q.f2.f1 := fun q hq => hg q (List.mem_cons_of_mem _ hq)
  rw [nextD] at hn
  cases hq : nextD gs l with
  | some r =>
   rw [hq] at hn
   simp only at hn
   cases hn
   exact ⟨h.1, next_ok hg' h.2 hq⟩
  | none =>
   rw [hq] at hn
   simp only at hn
   split at hn
   ·cases hn
    have := h.1
    exact ⟨⟨by omega, by omega⟩, least_ok hg'⟩
   ·cases hn
theorem nextD_app : ∀ {g1 g2 : List GatT} {l1 l2 r : List Int}, g1.length = l1.length → nextD g2 l2 = some r → nextD (g1 ++ g2) (l1 ++ l2) = some (l1 ++ r)
 | [], _, [], _, _, _, h => h
 | [], _, _ :: _, _, _, h, _ => by simp at h
 | _ :: _, _, [], _, _, h, _ => by simp at h
 | g :: g1, g2, x :: l1, l2, r, hl, h => by
  have := nextD_app (g1 := g1) (l1 := l1) (by simpa using hl) h
  rw [List.cons_append, List.cons_append, nextD, this]
  rfl
theorem nextD_none_cons {g : GatT} {gs : List GatT} {x : Int} {l : List Int} (h : nextD gs l = none) (hx : ¬ x < g.f2.f1) : nextD (g :: gs) (x :: l) = none := by
 rw [nextD, h]
 exact if_neg hx
theorem nextD_some_cons {g : GatT} {gs : List GatT} {x : Int} {l : List Int} (h : nextD gs l = none) (hx : x < g.f2.f1) : nextD (g :: gs) (x :: l) = some ((x + 1) :: leastD gs) := by
 rw [nextD, h]
 exact if_pos hx
end Go.Proofs.YtommeljlfkmpjaaDoor
namespace Go.Proofs.YtommeljlfkmpjaaDoor
open Go.RowKit
def SeqAt {α : Type} (F : Fence) (n : Nat) (P : Program) (g : Nat) (lb : Array Value) (enc : α → Array Value) (At : List α → α → World → Prop) (Kp : World → World → Prop) (S Sp : List α → Prop) (N : Nat) (w : World) : Prop :=
 ∀ (l : Nat) (J Jx : List α → World → Prop) (W : World), Below w.heap.size w W → AbidesFrom W.heap.size J → AbidesFrom W.heap.size Jx → J [] W →
  (∀ pre x V, J pre V → At pre x V → pre.length < N → YieldAt F (n - 1) P l (enc x) V fun e V' => (e = .returned (.bool true) ∧ J (pre ++ [x]) V' ∧ Kp V V') ∨ (e = .returned (.bool false) ∧ Jx (pre ++ [x]) V')) →
  CallsIn F n P g (#[.func (.yield l) #[] #[]] ++ lb) W fun e V => (∃ v, e = .returned v) ∧ ((∃ xs, S xs ∧ J xs V) ∨ (∃ pre, Sp pre ∧ Jx pre V))
theorem SeqAt.of {α : Type} {F : Fence} {n : Nat} {P : Program} {g : Nat} {lb : Array Value} {enc : α → Array Value} {Kp : World → World → Prop} {S Sp : List α → Prop} {N : Nat} {w : World} (h : SeqStopsK F n P g lb enc Kp S Sp N w) : SeqAt F n P g lb enc (fun _ _ _ => True) Kp S Sp N w :=
 fun l J Jx W hb hJ hJx h0 hy => h l J Jx W hb hJ hJx (fun pre x V h1 h2 => hy pre x V h1 trivial h2) h0
def Book (D : Nat) (o : Loop) (W : World) : Prop := W.heap[D + 1]? = some (.loop o) ∧ W.heap[D]? = some (.deferred (some []))
theorem Book.keep {D : Nat} {o : Loop} {V W : World} {row : Option Nat} (h : Book D o V) (hg : V.grownBy W row) (hr : ∀ r, row = some r → ∃ q : Obj, V.heap[r]? = some q ∧ q.isWalk = true) : Book D o W :=
 ⟨(grownBy_keeps hg hr h.1 rfl).trans h.1, (grownBy_keeps hg hr h.2 rfl).trans h.2⟩
theorem Book.from {D : Nat} {o : Loop} {V W : World} (h : Book D o V) (k : KeepsFrom D V W) : Book D o W := ⟨k.same _ _ (by omega) h.1 rfl, k.same _ _ (Nat.le_refl _) h.2 rfl⟩
theorem Book.put {D : Nat} {o : Loop} {V : World} (h : Book D o V) (o' : Loop) : Book D o' (V.putObj (D + 1) (.loop o')) :=
 ⟨World.putObj_heap_same (Array.getElem?_eq_some_iff.1 h.1).1, (World.putObj_heap_other (by omega)).trans h.2⟩
def Keep (K : Nat → Prop) (V V' : World) : Prop := V.heap.size ≤ V'.heap.size ∧ ∀ k, K k → V'.heap[k]? = V.heap[k]?
def Abide {α : Type} (J : (Nat → Prop) → List α → World → Prop) : Prop :=
 ∀ (O O' : Nat → Prop) (s : List α) (A B : World), J O s A → Kx O A B → (∀ k, O' k → O k ∨ (A.heap.size ≤ k ∧ k < B.heap.size)) → J O' s B
def SeqO {α : Type} (n : Nat) (P : Program) (g : Nat) (cs : List Value) (enc : α → List Value) (HA : α → Hp) (T : List α → α → Prop) (S : List α → Prop) (K : Nat → Prop) (w : World) : Prop :=
 ∀ (l : Nat) (J Jx : (Nat → Prop) → List α → World → Prop) (W : World), Below w.heap.size w W → Abide J → Abide Jx → J XNone [] W →
  (∀ O pre x V, J O pre V → T pre x → BOK (HA x) V → (∀ e ∈ HA x, e.2.1 = true ∧ O e.1) → YieldAt Fence.wide (n - 1) P l (enc x).toArray V fun e V' =>
   Keep (fun k => (O k ∧ ∀ e ∈ HA x, e.1 ≠ k) ∨ K k) V V' ∧ ((e = .returned (.bool true) ∧ J (fun k => O k ∧ ∀ e ∈ HA x, e.1 ≠ k) (pre ++ [x]) V') ∨ (e = .returned (.bool false) ∧ Jx (fun k => O k ∧ ∀ e ∈ HA x, e.1 ≠ k) (pre ++ [x]) V'))) →
  CallsIn Fence.wide n P g (#[.func (.yield l) #[] #[]] ++ cs.toArray) W fun e V => (∃ v, e = .returned v) ∧ ((∃ O xs, S xs ∧ J O xs V) ∨ ∃ O pre, Jx O pre V)
def zipS : List Nat → List Value → Slots → Slots
 | p :: ps, v :: vs, σ => zipS ps vs ((p, v) :: σ)
 | _, _, σ => σ
theorem SOK.zip {N : Nat} : ∀ (ps : List Nat) (vs : List Value) (σ : Slots) (t : Array Value), ps.all (Nat.blt · N) = true → SOK N [] σ { tmps := t, defers := [] } → SOK N [] (zipS ps vs σ) { tmps := (ps.zip vs).foldl (fun t (q : Tmp × Value) => t.setIfInBounds q.1 q.2) t, defers := [] }
 | [], _, _, _, _, h => h
 | _ :: _, [], _, _, _, h => h
 | p :: ps, v :: vs, σ, t, hp, h => by
  simp only [List.all_cons, Bool.and_eq_true] at hp
  have h1 := h.put (d := some p) (by simpa [dstOK] using hp.1) v
  exact SOK.zip ps vs ((p, v) :: σ) (t.setIfInBounds p v) hp.2 h1
def RoundPostX (I : World → Prop) (Ix : Code → World → Prop) : Exit → Act → World → Prop
 | .normal, _, w => I w
 | .ret, _, w => Ix .ret w
 | .exit id, _, w => Ix (.exit id) w
 | _, _, _ => False
theorem Kx.mono {X Y : Nat → Prop} {w w' : World} (h : Kx X w w') (hs : ∀ k, X k → Y k) : Kx Y w w' := ⟨h.os, h.tape, h.output, h.size, fun k hk hy => h.block k hk fun q => hy (hs k q)⟩
theorem Kx.putObj {w : World} {b : Nat} {o : Obj} (X : Nat → Prop) (h : X b) : Kx X w (w.putObj b o) := ⟨rfl, rfl, rfl, by simp, fun k hk hx => World.putObj_heap_other fun e => hx (by subst e; exact h)⟩
theorem WOK.apart {w0 : World} {X : Nat → Prop} {η : Hp} {A B : World} {O : Nat → Prop} (h : WOK w0 X η A) (k : Kx O A B) (h0 : ∀ i, O i → w0.heap.size ≤ i) (he : ∀ e ∈ η, ¬ O e.1) : WOK w0 X η B := by
 refine ⟨⟨k.os.trans h.kx.os, k.tape.trans h.kx.tape, k.output.trans h.kx.output, Nat.le_trans h.kx.size k.size, fun i hi hx => ?_⟩, fun e he' => ?_, h.nd, h.ow⟩
 ·exact (k.block i (Nat.lt_of_lt_of_le hi h.kx.size) (fun q => absurd hi (Nat.not_lt.2 (h0 i q)))).trans (h.kx.block i hi hx)
 ·obtain ⟨o, h1, h2⟩ := h.bl e he'
  exact ⟨o, (k.block _ (h.lt he') (he e he')).trans h1, h2⟩
section
variable {P : Program} {n N : Nat} {ds : List Deferred} {w0 : World} {X : Nat → Prop} {Q : Exit → Act → World → Prop} {σ : Slots} {η : Hp}
def Own_ (η : Hp) (e : Nat × Bool × HP) : Prop := (e.2.1 = true ∧ ∀ o, e.2.2 o → o.isCells = true) ∨ ∃ e' ∈ η, e'.1 = e.1
theorem xc_rangeO {go : Operand} {ps : List Tmp} {assign body : Code} {gf : Nat} {cs : List Value} {α β γ : Type} {enc : α → List Value} {HA : α → Hp} {T : List α → α → Prop} {S : List α → Prop}
  (hg : ev σ go = some (.func (.func gf) #[] cs.toArray)) (eg : ∀ args w, (callFunc gf args).run P w = .ok (.enter gf args) w) (hp : ps.all (Nat.blt · N) = true) (hlen : ∀ x, (enc x).length = ps.length)
  (K : Nat → Prop) (hKlt : ∀ w, WOK w0 X η w → ∀ k, K k → k < w.heap.size) (hseq : ∀ w, WOK w0 X η w → SeqO (n - 1) P gf cs enc HA T S K w)
  (C : List α → γ → Prop) (H : List α → γ → Hp) (g0 : γ) (hC0 : C [] g0) (hH0 : List.Sublist (H [] g0) η) (hcell : ∀ ys g, C ys g → ∀ e ∈ H ys g, Own_ η e) (hwr : ∀ ys g, C ys g → ∀ e ∈ H ys g, e.2.1 = true → ¬ K e.1)
  (Cx : Code → List α → γ → Prop) (Hx : Code → List α → γ → Hp) (hcellx : ∀ c ys g, Cx c ys g → ∀ e ∈ Hx c ys g, Own_ η e)
  (S1 : α → β → Slots) (HB : α → β → Hp) (hHB : ∀ x y, ∀ e ∈ HB x y, e.2.1 = true ∧ ∀ o, e.2.2 o → o.isCells = true)
  (hassign : ∀ l x W, XC P (some l) (n - 1 - 1) N [] W XNone (Exit.then (fun a w => ∃ y, SOK N [] (S1 x y) a ∧ WOK W XNone (HB x y) w) (fun _ _ _ => False)) (zipS ps (enc x) σ) [] assign)
  (hbody : ∀ l pre x y g W, C pre g → T pre x → WOK w0 X (HB x y ++ (HA x ++ H pre g)) W → XC P (some l) (n - 1 - 1) N [] W (XW (HB x y ++ (HA x ++ H pre g)))
   (RoundPostX (fun w => ∃ g', C (pre ++ [x]) g' ∧ WOK W (XW (HB x y ++ (HA x ++ H pre g))) (H (pre ++ [x]) g') w) (fun c w => ∃ g', Cx c (pre ++ [x]) g' ∧ WOK W (XW (HB x y ++ (HA x ++ H pre g))) (Hx c (pre ++ [x]) g') w)) (S1 x y) (HB x y ++ (HA x ++ H pre g)) body)
  (hdone : ∀ D xs g, S xs → C xs g → XQ N (mark_ D :: ds) w0 X Q .normal σ ((D, true, hdef) :: H xs g))
  (hstop : ∀ D c pre g, Cx c pre g → XC P none n N (mark_ D :: ds) w0 X Q σ ((D, true, hdef) :: Hx c pre g) c) : XC P none n N ds w0 X Q σ η (.rangeFunc go ps.toArray assign body) := by
 intro a w ha hw
 have hlt : ∀ e ∈ η, e.1 < w.heap.size := fun e he => hw.lt he
 have hsz := hw.kx.size
 refine wpIn_rangeFunc fun fn hfn => ?_
 rw [show (wideR none).round = none from rfl]
 let rec_ : LoopState → Option Code → Loop := fun st pe => { state := st, pending := pe, fn := fn, tmps := a.tmps, params := ps.toArray, assign := assign, body := body, defers := w.heap.size }
 let U : World := (w.alloc (.deferred (some []))).alloc (.loop (rec_ .ready none))
 have hU : Book w.heap.size (rec_ .ready none) U := by
  refine ⟨?_, (Below.heap_alloc _ _ _ (by simp)).trans (World.alloc_heap_new w _)⟩
  have := World.alloc_heap_new (w.alloc (.deferred (some []))) (.loop (rec_ .ready none))
  rwa [World.size_alloc] at this
 have hsU : U.heap.size = w.heap.size + 2 := by simp [U]
 have hbU : Below w.heap.size w U := ((Below.refl _ w).alloc (Nat.le_refl _) _).alloc (by simp) _
 -- the book's blocks are none of ours
 have hnb : ∀ {e : Nat × Bool × HP} {V : World} {o : Loop}, Own_ η e → (∃ q, V.heap[e.1]? = some q ∧ e.2.2 q) → Book w.heap.size o V → e.1 ≠ w.heap.size ∧ e.1 ≠ w.heap.size + 1 := by
  rintro e V o (⟨_, h1⟩ | ⟨e', h1, h2⟩) ⟨q, h3, h4⟩ hB
  ·refine ⟨fun k => ?_, fun k => ?_⟩
   ·rw [k, hB.2] at h3; cases h3; exact absurd (h1 _ h4) (by simp [Obj.isCells])
   ·rw [k, hB.1] at h3; cases h3; exact absurd (h1 _ h4) (by simp [Obj.isCells])
  ·have := hlt e' h1; omega
 have hBk : ∀ {V W : World} {o : Loop} {O : Nat → Prop}, Book w.heap.size o V → Kx O V W → (∀ k, O k → w.heap.size + 2 ≤ k) → Book w.heap.size o W := fun hB k hO =>
  ⟨(k.block _ (Array.getElem?_eq_some_iff.1 hB.1).1 fun q => absurd (hO _ q) (by omega)).trans hB.1, (k.block _ (Array.getElem?_eq_some_iff.1 hB.2).1 fun q => absurd (hO _ q) (by omega)).trans hB.2⟩
 let J : (Nat → Prop) → List α → World → Prop := fun O pre V => (∃ g, C pre g ∧ WOK w0 X (H pre g) V ∧ ∀ e ∈ H pre g, ¬ O e.1) ∧ (∀ k, O k → w.heap.size + 2 ≤ k ∧ k < V.heap.size) ∧ w.heap.size + 2 ≤ V.heap.size ∧ Book w.heap.size (rec_ .ready none) V
 let Jx : (Nat → Prop) → List α → World → Prop := fun O pre V => ∃ c, (∃ g, Cx c pre g ∧ WOK w0 X (Hx c pre g) V ∧ ∀ e ∈ Hx c pre g, ¬ O e.1) ∧ (∀ k, O k → w.heap.size + 2 ≤ k ∧ k < V.heap.size) ∧ w.heap.size + 2 ≤ V.heap.size ∧ Book w.heap.size (rec_ .done (some c)) V
 have hO2 : ∀ {O O' : Nat → Prop} {A B : World}, Kx O A B → (∀ k, O k → w.heap.size + 2 ≤ k ∧ k < A.heap.size) → w.heap.size + 2 ≤ A.heap.size → (∀ k, O' k → O k ∨ (A.heap.size ≤ k ∧ k < B.heap.size)) → ∀ k, O' k → w.heap.size + 2 ≤ k ∧ k < B.heap.size := fun k h1 h2 h3 i hi => by
  rcases h3 i hi with h | h
  ·have := h1 i h; have := k.size; omega
  ·omega
 have hN2 : ∀ {O O' : Nat → Prop} {A B : World} {ζ : Hp}, (∀ e ∈ ζ, ¬ O e.1) → (∀ e ∈ ζ, e.1 < A.heap.size) → (∀ k, O' k → O k ∨ (A.heap.size ≤ k ∧ k < B.heap.size)) → ∀ e ∈ ζ, ¬ O' e.1 := fun h1 h2 h3 e he q => by
  rcases h3 _ q with h | h
  ·exact h1 e he h
  ·have := h2 e he; omega
 have aJ : Abide J := by
  rintro O O' s A B ⟨⟨g, h1, h2, h3⟩, h4, h5, h6⟩ k hO
  exact ⟨⟨g, h1, h2.apart k (fun i hi => by have := h4 i hi; omega) h3, hN2 h3 (fun e he => h2.lt he) hO⟩, hO2 k h4 h5 hO, Nat.le_trans h5 k.size, hBk h6 k fun i hi => (h4 i hi).1⟩
 have aJx : Abide Jx := by
  rintro O O' s A B ⟨c, ⟨g, h1, h2, h3⟩, h4, h5, h6⟩ k hO
  exact ⟨c, ⟨g, h1, h2.apart k (fun i hi => by have := h4 i hi; omega) h3, hN2 h3 (fun e he => h2.lt he) hO⟩, hO2 k h4 h5 hO, Nat.le_trans h5 k.size, hBk h6 k fun i hi => (h4 i hi).1⟩
 refine ⟨w.heap.size + 1, [{ target := .collected w.heap.size, args := #[] }], U, { target := .fn (.func gf) cs.toArray, args := #[.func (.yield (w.heap.size + 1)) #[] #[]] }, U, gf, #[.func (.yield (w.heap.size + 1)) #[] #[]] ++ cs.toArray, U, run_enterLoop_outer _ _ _ _ _, ?_, ?_, ?_, (fun h => by cases h), ?_⟩
 ·simp only [resolve, ha.ev hg]
  simp [go_sem]
 ·intro f' hf'
  trivial
 ·simp [invoke, go_sem, eg]
 refine (hseq w hw (w.heap.size + 1) J Jx U hbU aJ aJx ⟨⟨g0, hC0, (hw.sub hH0).below hbU, fun e he => fun q => q⟩, fun k q => q.elim, by omega, hU⟩ ?_).mono ?_
 ·rintro O pre x V ⟨⟨g, hg1, hg2, hg3⟩, hO, hV, hB⟩ hT hA hAO
  have hs : SOK N [] (zipS ps (enc x) σ) { tmps := ((ps.toArray.zip (enc x).toArray).foldl (fun t (q : Tmp × Value) => t.setIfInBounds q.1 q.2) a.tmps), defers := [] } := by
   have := SOK.zip ps (enc x) σ a.tmps hp ⟨ha.sz, ha.sl, rfl⟩
   simpa using this
  refine ⟨fn, _, assign, body, run_yield (P := P) (args := (enc x).toArray) hB.1 (by simpa [rec_] using hlen x), roundIn_of_wpIn hfn (wpIn_mono (hassign (w.heap.size + 1) x V _ V hs (WOK.start XNone V)) ?_)⟩
  intro e a1 V1 hq
  cases e with
  | exit id => exact hq
  | goto l => exact hq
  | ret => exact hq
  | panic c => exact hq
  | outgrown => exact hq
  | normal =>
  obtain ⟨y, hs1, hw1⟩ := hq
  have hb1 := hw1.kx.below
  have hB1 : Book w.heap.size (rec_ .ready none) V1 := hBk hB hw1.kx (fun k q => q.elim)
  refine ⟨_, run_beginRound hB1.1 rfl, ?_⟩
  let V2 : World := V1.putObj (w.heap.size + 1) (.loop { rec_ .ready none with state := .busy })
  have k12 : Kx (fun k => k = w.heap.size + 1) V1 V2 := Kx.putObj _ rfl
  have hB2 : Book w.heap.size (rec_ .busy none) V2 := hB1.put { rec_ .ready none with state := .busy }
  -- all the blocks of the round
  have hg2' : WOK w0 X (H pre g) V1 := hg2.below hb1
  have hHB1 : ∀ e ∈ HB x y, V.heap.size ≤ e.1 := fun e he => (hw1.ow e he (hHB x y e he).1).resolve_right (fun q => q)
  have hne : ∀ e ∈ HB x y ++ (HA x ++ H pre g), e.1 ≠ w.heap.size + 1 := by
   intro e he q
   rcases List.mem_append.1 he with he | he
   ·have := hHB1 e he; omega
   rcases List.mem_append.1 he with he | he
   ·have := (hO _ (hAO e he).2).1; omega
   ·exact (hnb (hcell pre g hg1 e he) (hg2'.bl e he) hB1).2 q
  have hz1 : WOK w0 X (HB x y ++ (HA x ++ H pre g)) V1 := by
   refine ⟨hg2'.kx, fun e he => ?_, ?_, fun e he hwr => ?_⟩
   ·rcases List.mem_append.1 he with he | he
    ·exact hw1.bl e he
    rcases List.mem_append.1 he with he | he
    ·obtain ⟨o, h1, h2⟩ := hA.bl e he
     exact ⟨o, (hb1.block _ (hO _ (hAO e he).2).2).trans h1, h2⟩
    ·exact hg2'.bl e he
   ·rw [List.map_append, List.map_append, List.nodup_append, List.nodup_append]
    refine ⟨hw1.nd, ⟨hA.nd, hg2.nd, ?_⟩, ?_⟩
    ·intro i hi j hj q
     obtain ⟨e, he, rfl⟩ := List.mem_map.1 hi
     obtain ⟨e', he', rfl⟩ := List.mem_map.1 hj
     exact hg3 e' he' (q ▸ (hAO e he).2)
    ·intro i hi j hj q
     obtain ⟨e, he, rfl⟩ := List.mem_map.1 hi
     have h1 := hHB1 e he
     rcases List.mem_append.1 hj with hj | hj
     ·obtain ⟨e', he', rfl⟩ := List.mem_map.1 hj
      have := (hO _ (hAO e' he').2).2
      omega
     ·obtain ⟨e', he', rfl⟩ := List.mem_map.1 hj
      have := hg2.lt he'
      omega
   ·rcases List.mem_append.1 he with he | he
    ·have h1 := hHB1 e he; have := hg2.kx.size; exact .inl (by omega)
    rcases List.mem_append.1 he with he | he
    ·have := (hO _ (hAO e he).2).1; exact .inl (by omega)
    ·exact hg2.ow e he hwr
  have hz2 : WOK w0 X (HB x y ++ (HA x ++ H pre g)) V2 := hz1.apart k12 (fun i hi => by omega) hne
  refine wpIn_mono (hbody (w.heap.size + 1) pre x y g V2 hg1 hT hz2 a1 V2 hs1 hz2.wok) ?_
  -- what the iterator keeps
  have hXWO : ∀ k, XW (HB x y ++ (HA x ++ H pre g)) k → O k → ∃ e ∈ HA x, e.1 = k := by
   rintro k ⟨e, he, _, rfl⟩ hk
   rcases List.mem_append.1 he with he | he
   ·have := hHB1 e he; have := (hO _ hk).2; omega
   rcases List.mem_append.1 he with he | he
   ·exact ⟨e, he, rfl⟩
   ·exact absurd hk (hg3 e he)
  have hXWK : ∀ k, K k → ¬ XW (HB x y ++ (HA x ++ H pre g)) k := by
   rintro k hk ⟨e, he, hwr', rfl⟩
   have hkl := hKlt w hw _ hk
   rcases List.mem_append.1 he with he | he
   ·have := hHB1 e he; omega
   rcases List.mem_append.1 he with he | he
   ·have := (hO _ (hAO e he).2).1; omega
   ·exact hwr pre g hg1 e he hwr' hk
  have hs12 : V1.heap.size = V2.heap.size := by simp [V2]
  have hs01 := hw1.kx.size
  have kp : ∀ (V3 V4 : World), Kx (XW (HB x y ++ (HA x ++ H pre g))) V2 V3 → Kx (fun k => k = w.heap.size + 1) V3 V4 → Keep (fun k => (O k ∧ ∀ e ∈ HA x, e.1 ≠ k) ∨ K k) V V4 := by
   intro V3 V4 k23 k34
   have h23 := k23.size
   have h34 := k34.size
   refine ⟨by omega, fun k hk => ?_⟩
   have hkV : k < V.heap.size := by
    rcases hk with hk | hk
    ·exact (hO k hk.1).2
    ·have := hKlt w hw k hk; omega
   have hkD : k ≠ w.heap.size + 1 := by
    rcases hk with hk | hk
    ·have := (hO k hk.1).1; omega
    ·have := hKlt w hw k hk; omega
   have hkX : ¬ XW (HB x y ++ (HA x ++ H pre g)) k := by
    rcases hk with hk | hk
    ·intro q; obtain ⟨e, he, h⟩ := hXWO k q hk.1; exact hk.2 e he h
    ·exact hXWK k hk
   exact (k34.block k (by omega) hkD).trans ((k23.block k (by omega) hkX).trans ((k12.block k (by omega) hkD).trans (hb1.block k hkV)))
  have own2 : ∀ (V3 : World) (ζ : Hp), WOK V2 (XW (HB x y ++ (HA x ++ H pre g))) ζ V3 → (∀ e ∈ ζ, Own_ η e) → ∀ e ∈ ζ, ¬ (O e.1 ∧ ∀ q ∈ HA x, q.1 ≠ e.1) := by
   rintro V3 ζ h3 hc e he ⟨hk, hk2⟩
   rcases hc e he with ⟨h1, _⟩ | ⟨e', h1, h2⟩
   ·rcases h3.ow e he h1 with h4 | h4
    ·have := (hO _ hk).2; omega
    ·obtain ⟨q, hq, h5⟩ := hXWO _ h4 hk; exact hk2 q hq h5
   ·have := hlt e' h1; have := (hO _ hk).1; omega
  have bk3 : ∀ (V3 : World), Kx (XW (HB x y ++ (HA x ++ H pre g))) V2 V3 → Book w.heap.size (rec_ .busy none) V3 := by
   intro V3 k
   have h0 : ∀ i, (i = w.heap.size ∨ i = w.heap.size + 1) → ¬ XW (HB x y ++ (HA x ++ H pre g)) i := by
    rintro i hi ⟨e, he, _, rfl⟩
    rcases List.mem_append.1 he with he | he
    ·have := hHB1 e he; omega
    rcases List.mem_append.1 he with he | he
    ·have := (hO _ (hAO e he).2).1; omega
    ·have := hnb (hcell pre g hg1 e he) (hg2'.bl e he) hB1; omega
   exact ⟨(k.block _ (Array.getElem?_eq_some_iff.1 hB2.1).1 (h0 _ (.inr rfl))).trans hB2.1, (k.block _ (Array.getElem?_eq_some_iff.1 hB2.2).1 (h0 _ (.inl rfl))).trans hB2.2⟩
  have fin : ∀ (V3 : World) (ζ : Hp) (o : Loop), WOK V2 (XW (HB x y ++ (HA x ++ H pre g))) ζ V3 → (∀ e ∈ ζ, Own_ η e) → WOK w0 X ζ (V3.putObj (w.heap.size + 1) (.loop o)) := by
   intro V3 ζ o h3 hc
   refine (hz2.back h3).apart (Kx.putObj (fun k => k = w.heap.size + 1) rfl) (fun i hi => by omega) fun e he q => ?_
   exact (hnb (hc e he) (h3.bl e he) (bk3 V3 h3.kx)).2 q
  intro e a3 V3 hq
  cases e with
  | normal =>
   obtain ⟨g', hg', h3⟩ := hq
   have hB3 := bk3 V3 h3.kx
   refine ⟨_, _, run_endRound (P := P) none hB3.1, kp V3 _ h3.kx (Kx.putObj _ rfl), .inl ⟨rfl, ⟨⟨g', hg', fin V3 _ _ h3 (hcell _ g' hg'), own2 V3 _ h3 (hcell _ g' hg')⟩, fun k hk => ?_, ?_, hB3.put (rec_ .ready none)⟩⟩⟩
   ·have := hO k hk.1; have := h3.kx.size; simp; omega
   ·have := h3.kx.size; simp; omega
  | ret =>
   obtain ⟨g', hg', h3⟩ := hq
   have hB3 := bk3 V3 h3.kx
   refine ⟨_, _, run_endRound (P := P) (some .ret) hB3.1, kp V3 _ h3.kx (Kx.putObj _ rfl), .inr ⟨rfl, .ret, ⟨g', hg', fin V3 _ _ h3 (hcellx _ _ g' hg'), own2 V3 _ h3 (hcellx _ _ g' hg')⟩, fun k hk => ?_, ?_, hB3.put (rec_ .done (some .ret))⟩⟩
   ·have := hO k hk.1; have := h3.kx.size; simp; omega
   ·have := h3.kx.size; simp; omega
  | exit id =>
   obtain ⟨g', hg', h3⟩ := hq
   have hB3 := bk3 V3 h3.kx
   refine ⟨_, _, run_endRound (P := P) (some (.exit id)) hB3.1, kp V3 _ h3.kx (Kx.putObj _ rfl), .inr ⟨rfl, .exit id, ⟨g', hg', fin V3 _ _ h3 (hcellx _ _ g' hg'), own2 V3 _ h3 (hcellx _ _ g' hg')⟩, fun k hk => ?_, ?_, hB3.put (rec_ .done (some (.exit id)))⟩⟩
   ·have := hO k hk.1; have := h3.kx.size; simp; omega
   ·have := h3.kx.size; simp; omega
  | goto l => exact hq.elim
  | panic c => exact hq.elim
  | outgrown => exact hq.elim
 ·have last : ∀ (V : World) (ζ : Hp) (o o' : Loop), WOK w0 X ζ V → (∀ e ∈ ζ, Own_ η e) → Book w.heap.size o V → WOK w0 X ((w.heap.size, true, hdef) :: ζ) (V.putObj (w.heap.size + 1) (.loop o')) := by
   intro V ζ o o' h hc hB
   have h1 := h.apart (Kx.putObj (o := .loop o') (fun k => k = w.heap.size + 1) rfl) (fun i hi => by omega) (fun e he q => (hnb (hc e he) (h.bl e he) hB).2 q)
   refine ⟨h1.kx, fun e he => ?_, ?_, fun e he hwr' => ?_⟩
   ·rcases List.mem_cons.1 he with rfl | he
    ·exact ⟨_, (World.putObj_heap_other (by omega)).trans hB.2, rfl⟩
    ·exact h1.bl e he
   ·rw [List.map_cons, List.nodup_cons]
    refine ⟨fun q => ?_, h1.nd⟩
    obtain ⟨e, he, q⟩ := List.mem_map.1 q
    exact (hnb (hc e he) (h.bl e he) hB).1 q
   ·rcases List.mem_cons.1 he with rfl | he
    ·exact .inl hsz
    ·exact h1.ow e he hwr'
  have hsk : ∀ D, SOK N (mark_ D :: ds) σ { a with defers := mark_ D :: a.defers } := fun D => ⟨ha.sz, ha.sl, by rw [ha.df]⟩
  rintro e V ⟨⟨v, rfl⟩, ⟨O, xs, hS, ⟨g, h1, h2, _⟩, _, _, hB⟩ | ⟨O, pre, c, ⟨g, h1, h2, _⟩, _, _, hB⟩⟩
  ·exact ⟨none, _, run_endLoop (P := P) hB.1 (by simp [rec_]), hdone _ xs g hS h1 _ _ (hsk _) (last V _ _ _ h2 (hcell xs g h1) hB)⟩
  ·exact ⟨some c, _, run_endLoop (P := P) hB.1 (by simp [rec_]), hstop _ c pre g h1 _ _ (hsk _) (last V _ _ _ h2 (hcellx c pre g h1) hB)⟩
theorem xc_loopM {ro : Option Nat} {γ : Type} {c : Code} (C : γ → Prop) (S : γ → Slots) (H : γ → Hp) (D : γ → List Deferred) (J : γ → World → Prop) (μ : γ → Nat) (g0 : γ) (hC : C g0) (hD : D g0 = ds) (hs : subS (S g0) σ) (h0 : ∀ w, WOK w0 X η w → BOK (H g0) w ∧ J g0 w)
  (round : ∀ g, C g → ∀ w, BOK (H g) w → J g w → XC P ro n N (D g) w (XW (H g)) (Exit.then (fun a w => ∃ k, k < μ g ∧ ∃ g', C g' ∧ μ g' = k ∧ SOK N (D g') (S g') a ∧ BOK (H g') w ∧ J g' w) Q) (S g) (H g) c) : XC P ro n N ds w0 X Q σ η (.loop c) := by
 intro a w ha hw
 obtain ⟨hb, hj⟩ := h0 w hw
 refine wpIn_loop_ghost (fun k a w => ∃ g', C g' ∧ μ g' = k ∧ SOK N (D g') (S g') a ∧ BOK (H g') w ∧ J g' w) (μ g0) ⟨g0, hC, rfl, by rw [hD]; exact ha.sub hs, hb, hj⟩ ?_
 rintro k a w ⟨g, hg, rfl, h1, h2, h3⟩
 exact round g hg w h2 h3 a w h1 h2.wok
theorem xq_againM {γ : Type} (C : γ → Prop) (S : γ → Slots) (H : γ → Hp) (D : γ → List Deferred) (J : γ → World → Prop) (μ : γ → Nat) (m : Nat) (g' : γ) (hC : C g') (hm : μ g' < m) (hD : D g' = ds) (hs : subS (S g') σ) (h : ∀ w, WOK w0 X η w → BOK (H g') w ∧ J g' w) :
  XQ N ds w0 X (Exit.then (fun a w => ∃ k, k < m ∧ ∃ g', C g' ∧ μ g' = k ∧ SOK N (D g') (S g') a ∧ BOK (H g') w ∧ J g' w) Q) .normal σ η :=
 fun a w ha hw => ⟨_, hm, g', hC, rfl, by rw [hD]; exact ha.sub hs, (h w hw).1, (h w hw).2⟩
theorem leaves_marks {fn : Func} {R : Ending → World → Prop} {tmps : Array Value} : ∀ (Ds : List Nat) (η : Hp) (w : World), WOK w0 X (Ds.map (fun D => (D, true, hdef)) ++ η) w → (∀ w', WOK w0 X η w' → LeavesIn Fence.wide n P fn tmps R [] .returning w') → LeavesInM Fence.wide n P fn tmps R (Ds.map mark_) .returning w
 | [], η, w, h, k => k w h
 | D :: Ds, η, w, h, k => by
  obtain ⟨o, hD, ho⟩ := h.bl (D, true, hdef) List.mem_cons_self
  rw [show o = _ from ho] at hD
  refine ⟨by simp, .inl ⟨D, _, rfl, run_takeDeferred hD, leaves_marks Ds η _ ?_ k⟩⟩
  have hX := h.ow (D, true, hdef) List.mem_cons_self rfl
  have hnd := h.nd
  simp only [List.map_cons, List.cons_append, List.nodup_cons] at hnd
  have h2 := h.sub (List.sublist_cons_self _ _)
  refine ⟨⟨h2.kx.os, h2.kx.tape, h2.kx.output, by simp; exact h2.kx.size, fun i hi hx => (World.putObj_heap_other fun e => ?_).trans (h2.kx.block i hi hx)⟩, fun e he => ?_, h2.nd, h2.ow⟩
  ·subst e
   rcases hX with q | q
   ·exact absurd hi (Nat.not_lt.2 q)
   ·exact hx q
  ·obtain ⟨o', h4, h5⟩ := h2.bl e he
   exact ⟨o', (World.putObj_heap_other fun q => hnd.1 (List.mem_map.2 ⟨e, he, q⟩)).trans h4, h5⟩
theorem xq_ofM {fn : Func} {R : Ending → World → Prop} (Ds : List Nat) (h : XQ N [] w0 X (bodyPost P fn R) .ret σ η) : XQ N (Ds.map mark_) w0 X (bodyPostM Fence.wide n P fn R) .ret σ (Ds.map (fun D => (D, true, hdef)) ++ η) := by
 intro a w ha hw
 show LeavesInM _ _ _ _ _ _ a.defers _ w
 rw [ha.df]
 refine leaves_marks Ds η w hw fun w' hw' => ?_
 exact (h { a with defers := [] } w' ⟨ha.sz, ha.sl, rfl⟩ hw').2
theorem xq_ofMn {fn : Func} {R : Ending → World → Prop} (Ds : List Nat) (h : XQ N [] w0 X (bodyPost P fn R) .normal σ η) : XQ N (Ds.map mark_) w0 X (bodyPostM Fence.wide n P fn R) .normal σ (Ds.map (fun D => (D, true, hdef)) ++ η) := by
 intro a w ha hw
 show LeavesInM _ _ _ _ _ _ a.defers _ w
 rw [ha.df]
 refine leaves_marks Ds η w hw fun w' hw' => ?_
 exact (h { a with defers := [] } w' ⟨ha.sz, ha.sl, rfl⟩ hw').2
end
end Go.Proofs.YtommeljlfkmpjaaDoor
namespace Go.Proofs.YtommeljlfkmpjaaDoor
open Go.RowKit
def IterRel {α : Type} (J : (Nat → Prop) → List α → World → Prop) (K : Nat → Prop) (W : World) (O : Nat → Prop) (pre : List α) (V : World) : Prop := J O pre V ∧ (∀ k, K k → V.heap[k]? = W.heap[k]?) ∧ W.heap.size ≤ V.heap.size
theorem IterRel.start {α : Type} {J : (Nat → Prop) → List α → World → Prop} {K : Nat → Prop} {W : World} (h : J XNone [] W) : IterRel J K W XNone [] W := ⟨h, fun _ _ => rfl, Nat.le_refl _⟩
theorem IterRel.step {α : Type} {J : (Nat → Prop) → List α → World → Prop} {K X : Nat → Prop} {W V w : World} {O : Nat → Prop} {pre : List α} {η : Hp} (h : IterRel J K W O pre V) (aJ : Abide J) (hKlt : ∀ k, K k → k < W.heap.size) (hO : ∀ i, X i → O i ∧ W.heap.size ≤ i) (hw : WOK V X η w) (hwr : ∀ e ∈ η, e.2.1 = true) :
  ∃ O', IterRel J K W O' pre w ∧ (∀ e ∈ η, O' e.1 ∧ W.heap.size ≤ e.1) ∧ ∀ i, O i → O' i := by
 refine ⟨fun i => O i ∨ (V.heap.size ≤ i ∧ i < w.heap.size), ⟨aJ O _ pre V w h.1 (hw.kx.mono fun i hi => (hO i hi).1) (fun i hi => hi), fun k hk => ?_, Nat.le_trans h.2.2 hw.kx.size⟩, fun e he => ?_, fun i hi => .inl hi⟩
 ·have := hKlt k hk
  exact (hw.kx.block k (Nat.lt_of_lt_of_le this h.2.2) (fun q => absurd this (Nat.not_lt.2 (hO k q).2))).trans (h.2.1 k hk)
 ·rcases hw.ow e he (hwr e he) with q | q
  ·exact ⟨.inr ⟨q, hw.lt he⟩, Nat.le_trans h.2.2 q⟩
  ·exact ⟨.inl (hO _ q).1, (hO _ q).2⟩
section
variable {P : Program} {n N : Nat} {ds : List Deferred} {w0 : World} {X : Nat → Prop} {Q : Exit → Act → World → Prop} {ops : List Oper} {σ : Slots} {η : Hp} {rest : List Oper}
variable {d : Option Tmp} {ty : TypeId} {pos : String} {aft : Array Edge} {g : Option (Nat × Bool)}
theorem xo_yieldO {l : Nat} {fo : Operand} {xs : List Operand} {ats : Array TypeId} {α : Type} {enc : α → List Value} {HA : α → Hp} {T : List α → α → Prop} {J Jx : (Nat → Prop) → List α → World → Prop} {K : Nat → Prop} {W : World} {pre : List α} {O : Nat → Prop} (x : α) (η0 : Hp)
  (hg : gS ops σ g = some true) (hf : ev σ fo = some (.func (.yield l) #[] #[])) (ha_ : evs σ xs = some (enc x)) (hN : dstOK N d = true) (aJ : Abide J) (hKlt : ∀ k, K k → k < W.heap.size)
  (hy : ∀ O pre x V, J O pre V → T pre x → BOK (HA x) V → (∀ e ∈ HA x, e.2.1 = true ∧ O e.1) → YieldAt Fence.wide (n - 1) P l (enc x).toArray V fun e V' =>
   Keep (fun k => (O k ∧ ∀ e ∈ HA x, e.1 ≠ k) ∨ K k) V V' ∧ ((e = .returned (.bool true) ∧ J (fun k => O k ∧ ∀ e ∈ HA x, e.1 ≠ k) (pre ++ [x]) V') ∨ (e = .returned (.bool false) ∧ Jx (fun k => O k ∧ ∀ e ∈ HA x, e.1 ≠ k) (pre ++ [x]) V')))
  (hrel : IterRel J K W O pre w0) (hXO : ∀ i, X i → O i ∧ W.heap.size ≤ i) (hT : T pre x) (hs : List.Sublist (HA x ++ η0) η) (hwr : ∀ e ∈ HA x ++ η0, e.2.1 = true)
  (ht : ∀ O' V', IterRel J K W O' (pre ++ [x]) V' → BOK η0 V' → (∀ i, XW η0 i → O' i ∧ W.heap.size ≤ i) → XO P none n N ds V' (XW η0) Q ops (putS d (.bool true) σ) η0 rest)
  (hx : ∀ O' V', Jx O' (pre ++ [x]) V' → BOK η0 V' → (∀ i, XW η0 i → O' i) → XO P none n N ds V' (XW η0) Q ops (putS d (.bool false) σ) η0 rest) :
  XO P none n N ds w0 X Q ops σ η (⟨d, .call { callee := .value fo, args := xs.toArray, argTypes := ats }, ty, pos, aft, g⟩ :: rest) := by
 refine xo_yield (vs := enc x) hg hf ha_ hN fun w hw => ?_
 have hw' := hw.sub hs
 obtain ⟨O', hr', ho', _⟩ := hrel.step aJ hKlt hXO hw' hwr
 have hbk : BOK (HA x) w := hw'.bok (List.sublist_append_left _ _)
 have hb0 : BOK η0 w := hw'.bok (List.sublist_append_right _ _)
 obtain ⟨fn, tmps, assign, body, h1, h2⟩ := hy O' pre x w hr'.1 hT hbk (fun e he => ⟨hwr e (List.mem_append_left _ he), (ho' e (List.mem_append_left _ he)).1⟩)
 refine ⟨fn, tmps, assign, body, h1, h2.mono ?_⟩
 have hnd := hw'.nd
 rw [List.map_append, List.nodup_append] at hnd
 have hO'' : ∀ e ∈ η0, O' e.1 ∧ ∀ q ∈ HA x, q.1 ≠ e.1 := fun e he => ⟨(ho' e (List.mem_append_right _ he)).1, fun q hq h => hnd.2.2 _ (List.mem_map.2 ⟨q, hq, rfl⟩) _ (List.mem_map.2 ⟨e, he, rfl⟩) h⟩
 have hbk' : ∀ V', Keep (fun k => (O' k ∧ ∀ e ∈ HA x, e.1 ≠ k) ∨ K k) w V' → BOK η0 V' := fun V' hk => ⟨fun e he => by
  obtain ⟨o, h3, h4⟩ := hb0.bl e he
  exact ⟨o, (hk.2 _ (.inl (hO'' e he))).trans h3, h4⟩, hb0.nd⟩
 have hXW : ∀ i, XW η0 i → (O' i ∧ ∀ e ∈ HA x, e.1 ≠ i) ∧ W.heap.size ≤ i := by
  rintro i ⟨e, he, _, rfl⟩
  exact ⟨hO'' e he, (ho' e (List.mem_append_right _ he)).2⟩
 rintro e V' ⟨hk, ⟨rfl, hJ⟩ | ⟨rfl, hJ⟩⟩
 ·exact ⟨.bool true, η0, V', XW η0, rfl, (hbk' V' hk).wok, ht _ V' ⟨hJ, fun k hk' => (hk.2 k (.inr hk')).trans (hr'.2.1 k hk'), Nat.le_trans hr'.2.2 hk.1⟩ (hbk' V' hk) hXW⟩
 ·exact ⟨.bool false, η0, V', XW η0, rfl, (hbk' V' hk).wok, hx _ V' hJ (hbk' V' hk) fun i hi => (hXW i hi).1⟩
end
theorem fill_congr {f g : Nat → Option (Nat × Nat)} : ∀ (ps : List (Nat × Value)) (cs : Array Value), (∀ p ∈ ps, f p.1 = g p.1) → Instr.fill f cs ps = Instr.fill g cs ps
 | [], _, _ => rfl
 | p :: ps, cs, h => by
  obtain ⟨i, v⟩ := p
  unfold Instr.fill
  rw [h (i, v) (List.mem_cons_self ..)]
  cases g i with
  | none => rfl
  | some q =>
   obtain ⟨off, size⟩ := q
   simp only
   split
   ·rfl
   ·exact fill_congr ps _ fun q hq => h q (List.mem_cons_of_mem _ hq)
section
variable {P : Program} {ro : Option Nat} {n N : Nat} {ds : List Deferred} {w0 : World} {X : Nat → Prop} {Q : Exit → Act → World → Prop} {σ : Slots} {η : Hp} {ops rest : List Oper} {d : Option Tmp} {ty : TypeId} {pos : String} {aft : Array Edge} {g : Option (Nat × Bool)}
theorem xo_bsG (T : Tys P) (sz : Nat) {t e : TypeId} {len k0 : Nat} {parts : List (Nat × Operand)} {ps : List (Nat × Value)} {z : Value} {cs : List Value} (hg : gS ops σ g = some true) (ht : look t T.el = some e) (hk : look e T.tk = some k0) (hsz : szN k0 = sz) (hz : look e T.zs = some z)
  (hlen : (Nat.ble (len * sz) 16777216 && !Nat.beq (len * sz) 0) = true) (hp : evp σ parts = some ps) (hpl : ps.all (fun p => Nat.blt p.1 len) = true) (hc : fillL ((List.range len).map fun i => (i * sz, sz)) ((List.range (len * sz)).map fun i => z.cells[i % z.cells.size]!) ps = some cs) (hN : dstOK N d = true)
  (h : ∀ b, XO P ro n N ds w0 X Q ops (putS d (.slice (some ⟨b, 0, none⟩) len len) σ) ((b, true, cel cs e) :: η) rest) : XO P ro n N ds w0 X Q ops σ η (⟨d, .buildSlice t len parts.toArray, ty, pos, aft, g⟩ :: rest) :=
 xo_base rfl hg fun a w ha hw => by
  have h1 := T.hel _ (look_mem ht)
  have h2 := (T.htk _ (look_mem hk)).2 w
  have h3 := T.hzs _ (look_mem hz) w
  have h4 := ha.evp hp
  rw [Bool.and_eq_true, Nat.ble_eq, Bool.not_eq_true', ← Bool.not_eq_true, Nat.beq_eq] at hlen
  have h2' : (sizeOf e).run P w = .ok sz w := by rw [← hsz]; exact h2
  have h5 : Instr.fill (fun i => some (i * sz, sz)) ((Array.range (len * sz)).map fun i => z.cells[i % z.cells.size]!) ps = some cs.toArray := by
   have h6 := fillL_eq _ _ _ _ hc
   rw [fill_congr (g := fun i => ((List.range len).map fun i => (i * sz, sz))[i]?) ps _ (fun p hp' => by
    have := List.all_eq_true.1 hpl p hp'
    rw [Nat.blt_eq] at this
    simp [List.getElem?_map, List.getElem?_range this])]
   rw [show ((Array.range (len * sz)).map fun i => z.cells[i % z.cells.size]!) = ((List.range (len * sz)).map fun i => z.cells[i % z.cells.size]!).toArray by apply Array.ext'; rw [Array.toList_map, Array.toList_range]]
   exact h6
  refine ⟨_, w.alloc (.cells cs.toArray e), .slice (some ⟨w.heap.size, 0, none⟩) len len, ?_, .inl rfl, h _ _ _ (ha.put hN _) (hw.alloc _ _ rfl)⟩
  simp only at h1 h3
  have h7 : ¬ len * sz > 2 ^ 24 := by have := hlen.1; omega
  simp only [execOp, List.map_toArray, Instr.buildSlice, Sem.run_bind, run_underlying h1, Result.andThen_ok, h2', if_neg h7, if_neg hlen.2, h3, Sem.run_pure]
  rw [show (parts.map fun (i, x) => (i, a.eval x)) = ps from h4, h5]
  rfl
end
theorem cel_row {cs : List Value} {t : TypeId} {sz n : Nat} (hn : cs.length = n * sz) (hm : n ≤ maxLen) {o : Obj} (h : cel cs t o) : orow t sz n n cs o :=
 ⟨cs.toArray, h, Nat.le_refl _, hm, by simpa using hn, by rw [List.take_of_length_le (by simp; omega)]⟩
def volB (ops : List Oper) (i k : Nat) : Bool := ops.any fun o => (o.dst == some k) && (depOf o).contains i
def volS (ops : List Oper) (i : Nat) (ρ : Slots) : Slots := ρ.filter fun p => volB ops i p.1
section
variable {P : Program} {ro : Option Nat} {n N : Nat} {ds : List Deferred} {w0 : World} {X : Nat → Prop} {Q : Exit → Act → World → Prop} {σ : Slots} {η : Hp}
def DrawV (P : Program) (ro : Option Nat) (n N : Nat) (ds : List Deferred) (w0 : World) (X : Nat → Prop) (ops : List Oper) (vs : List Value) (ρ σ : Slots) (η : Hp) : Nat → List Oper → List Value → Prop
 | i, o :: r, v :: vr => (∀ τ, XO P ro n N ds w0 X (OnePost N ds w0 X η (putS o.dst v (flatS ops vs (depOf o) σ ++ (volS ops i ρ ++ τ)))) ops (flatS ops vs (depOf o) σ ++ (volS ops i ρ ++ τ)) η [o]) ∧ DrawV P ro n N ds w0 X ops vs ρ σ η (i + 1) r vr
 | _, _, _ => True
theorem DrawV.nil {ops : List Oper} {vs : List Value} {ρ : Slots} {i : Nat} : DrawV P ro n N ds w0 X ops vs ρ σ η i [] [] := trivial
theorem DrawV.cons {ops : List Oper} {vs : List Value} {ρ : Slots} {i : Nat} {o : Oper} {r : List Oper} {v : Value} {vr : List Value} (h : ∀ τ, XO P ro n N ds w0 X (OnePost N ds w0 X η (putS o.dst v (flatS ops vs (depOf o) σ ++ (volS ops i ρ ++ τ)))) ops (flatS ops vs (depOf o) σ ++ (volS ops i ρ ++ τ)) η [o])
  (t : DrawV P ro n N ds w0 X ops vs ρ σ η (i + 1) r vr) : DrawV P ro n N ds w0 X ops vs ρ σ η i (o :: r) (v :: vr) := ⟨h, t⟩
end
section
variable {P : Program} {ro : Option Nat} {n N : Nat} {ds : List Deferred} {w0 : World} {X : Nat → Prop} {Q : Exit → Act → World → Prop} {σ : Slots} {η : Hp} {ops rest : List Oper} {d : Option Tmp} {ty : TypeId} {pos : String} {aft : Array Edge} {g : Option (Nat × Bool)} {x y : Operand} {t t' : TypeId}
theorem xc_slots {c : Code} (σ' : Slots) (hs : subS σ' σ) (h : XC P ro n N ds w0 X Q σ' η c) : XC P ro n N ds w0 X Q σ η c := fun a w ha hw => h a w (ha.sub hs) hw
end
end Go.Proofs.YtommeljlfkmpjaaDoor
namespace Go.Proofs.YtommeljlfkmpjaaDoor
open Go.RowKit Go.Proofs.YtommeljlfkmpjaaDoorW.PrintWords
section
variable {P : Program} {ro : Option Nat} {n N : Nat} {ds : List Deferred} {w0 : World} {X : Nat → Prop} {Q : Exit → Act → World → Prop} {σ : Slots} {η : Hp} {ops rest : List Oper} {d : Option Tmp} {ty : TypeId} {pos : String} {aft : Array Edge} {g : Option (Nat × Bool)}
theorem xo_eqlV {t t' : TypeId} {x y : Operand} {u v : Value} {r : Bool} (hg : gS ops σ g = some true) (hx : ev σ x = some u) (hy : ev σ y = some v) (he : ∀ w, (eqGuard .eql t x y u v).run P w = .ok () w ∧ (binOp .eql t u v).run P w = .ok (.bool r) w) (hN : dstOK N d = true)
  (h : XO P ro n N ds w0 X Q ops (putS d (.bool r) σ) η rest) : XO P ro n N ds w0 X Q ops σ η (⟨d, .binOp .eql t x y t', ty, pos, aft, g⟩ :: rest) :=
 xo_val _ rfl hg hN (fun _ w ha hw => by
  obtain ⟨h1, h2⟩ := he w
  simp [execOp, ha.ev hx, ha.ev hy, h1, h2]) h
theorem xo_ixV {t : TypeId} {x ix : Operand} {u i v : Value} (hg : gS ops σ g = some true) (hx : ev σ x = some u) (hi : ev σ ix = some i) (he : ∀ w, (Instr.index t u i).run P w = .ok v w) (hN : dstOK N d = true)
  (h : XO P ro n N ds w0 X Q ops (putS d v σ) η rest) : XO P ro n N ds w0 X Q ops σ η (⟨d, .index t x ix, ty, pos, aft, g⟩ :: rest) :=
 xo_val _ rfl hg hN (fun _ w ha hw => by simp [execOp, ha.ev hx, ha.ev hi, he]) h
theorem xo_fldV {t : TypeId} {x : Operand} {f : Nat} {u v : Value} (hg : gS ops σ g = some true) (hx : ev σ x = some u) (he : ∀ w, (Instr.field t u f).run P w = .ok v w) (hN : dstOK N d = true)
  (h : XO P ro n N ds w0 X Q ops (putS d v σ) η rest) : XO P ro n N ds w0 X Q ops σ η (⟨d, .field t x f, ty, pos, aft, g⟩ :: rest) :=
 xo_val _ rfl hg hN (fun _ w ha hw => by simp [execOp, ha.ev hx, he]) h
theorem xo_buildV {t : TypeId} {parts : List (Nat × Operand)} {ps : List (Nat × Value)} {v : Value} (hg : gS ops σ g = some true) (hp : evp σ parts = some ps) (he : ∀ w, (Instr.build t ps.toArray).run P w = .ok v w) (hN : dstOK N d = true)
  (h : XO P ro n N ds w0 X Q ops (putS d v σ) η rest) : XO P ro n N ds w0 X Q ops σ η (⟨d, .build t parts.toArray, ty, pos, aft, g⟩ :: rest) :=
 xo_val _ rfl hg hN (fun a w ha hw => by
  have h1 := ha.evp hp
  have := he w
  simp only [execOp, List.map_toArray]
  rw [show (parts.map fun (i, x) => (i, a.eval x)) = ps from h1]
  simp [this]) h
theorem xo_iaL (T : Tys P) {t e : TypeId} {m k0 : Nat} {x ix : Operand} {b o : Nat} {k : IntKind} {i : Int} (hg : gS ops σ g = some true) (hu : P.underlying t = some (.array m e)) (hk : look e T.tk = some k0) (hx : ev σ x = some (.pointer (some ⟨b, o, none⟩))) (hi : ev σ ix = some (.int k i))
  (hb : 0 ≤ i ∧ i < (m : Int)) (hN : dstOK N d = true) (h : XO P ro n N ds w0 X Q ops (putS d (.pointer (some ⟨b, o + i.toNat * szN k0, none⟩)) σ) η rest) : XO P ro n N ds w0 X Q ops σ η (⟨d, .indexAddr t x ix, ty, pos, aft, g⟩ :: rest) :=
 xo_iaA T hg hu hk hx hi hb hN (by rw [Addr.add_lit]; exact h)
theorem xo_storeL (T : Tys P) {t : TypeId} {p x : Operand} {b o : Nat} {cs : List Value} {te : TypeId} {v : Value} {η' : Hp} (hg : gS ops σ g = some true) (ht : look t T.tk = some 0) (hp : ev σ p = some (.pointer (some ⟨b, o, none⟩))) (hx : ev σ x = some v)
  (hm : (b, true, cel cs te) ∈ η) (hv : v.cells = #[v]) (h1 : v.oneCell' = true) (hlt : o < cs.length) (hU : Upd b (cel (cs.set o v) te) η η') (hN : dstOK N d = true)
  (h : XO P ro n N ds w0 X Q ops (putS d undef σ) η' rest) : XO P ro n N ds w0 X Q ops σ η (⟨d, .store t p x, ty, pos, aft, g⟩ :: rest) :=
 xo_storeI T (o := o) (k := 0) hg ht (by rw [Addr.add_lit]; exact hp) hx hm hv h1 hlt hU hN h
end
theorem WOK.ro {w0 : World} {X : Nat → Prop} {η : Hp} {w : World} (h : WOK w0 X η w) {b : Nat} {wr : Bool} {cs : List Value} {t : TypeId} (he : (b, wr, cel cs t) ∈ η) : RO w XNone ⟨b, 0, none⟩ cs := ro_of fun j v hj => by rw [Addr.add_lit, Nat.zero_add]; exact h.cell he j hj
def rowV (r : Nat → Int) : List Value := [.int .i64 (r 0), .int .i64 (r 1), .int .i64 (r 2), .int .i64 (r 3), .int .i64 (r 4), .int .i64 (r 5)]
theorem rowV_at (r : Nat → Int) {i : Int} (h : 0 ≤ i ∧ i ≤ 5) : nth (0 + i.toNat * szN 0) (rowV r) = some (.int .i64 (r i.toNat)) := by
 rcases (show i = 0 ∨ i = 1 ∨ i = 2 ∨ i = 3 ∨ i = 4 ∨ i = 5 by omega) with rfl | rfl | rfl | rfl | rfl | rfl <;> rfl
theorem spa_eq (x y : Operand) (a b c d : Int) (w : World) : (eqGuard .eql 55 x y (.agg #[.int .i64 a, .int .i64 b]) (.agg #[.int .i64 c, .int .i64 d])).run Tryd.prog w = .ok () w ∧ (binOp .eql 55 (.agg #[.int .i64 a, .int .i64 b]) (.agg #[.int .i64 c, .int .i64 d])).run Tryd.prog w = .ok (.bool (decide (a = c) && decide (b = d))) w := by
 refine ⟨by go_simp, ?_⟩
 by_cases h1 : a = c <;> by_cases h2 : b = d <;> simp [h1, h2] <;> go_simp <;> simp [h1, h2]
def afterF (n d : Int) : SpaT := if d = 1073741824 then ⟨-1073741824, 1073741824⟩ else ⟨n + 1 - d, 1073741824⟩
def nowhereF : SpaT := ⟨1073741824, -1073741824⟩
def untilF (n d : Int) : SpaT := if d = 1073741824 then nowhereF else ⟨-1073741824, n - d⟩
def comF (x y : SpaT) : SpaT := ⟨if x.f0 < y.f0 then y.f0 else x.f0, if y.f1 < x.f1 then y.f1 else x.f1⟩
def GlobO (w : World) : Prop := RO w XNone ⟨0, 0, none⟩ (spaV nowhereF)
theorem GlobO.below {w w' : World} (h : GlobO w) (hb : Below w.heap.size w w') : GlobO w' := fun j v hj => ⟨(Kx.of_below (X := XNone) hb).cell (h j v hj).1 (fun x => x), fun x => x⟩
def Sure (d : Int) : Prop := 0 ≤ d ∧ d ≤ 1073741824
set_option maxHeartbeats 4000000 in
theorem after_calls (n d : Int) (w : World) (hn : -2000 ≤ n ∧ n ≤ 2000) (hd : Sure d) :
  Calls Tryd.prog 65 #[.int .i64 n, .int .i64 d] w fun e w' => e = .returned (.agg (spaV (afterF n d)).toArray) ∧ Below w.heap.size w w' := by
 obtain ⟨hd1, hd2⟩ := hd
 refine x_calls (X := XNone) Tryd.func65 rfl rfl rfl ?_
 with_reducible ((repeat apply xc_seq); apply xcR)
 refine xo_alloc T_ rfl rfl rfl rfl (fun b4 => ?_)
 with_reducible (apply xo_nil; (repeat first | apply xqT | apply xqB | apply xqS); (repeat apply xc_seq); apply xcR)
 refine xoM ?_
 refine xo_eql rfl rfl rfl rfl ?_
 with_reducible (apply xo_nil; (repeat first | apply xqT | apply xqB | apply xqS); (repeat apply xc_seq))
 refine xc_cond rfl (fun h => ?_) (fun h => ?_)
 ·have e := of_decide_eq_true h
  with_reducible ((repeat apply xc_seq); apply xcR)
  refine xo_build TB_ rfl rfl rfl rfl rfl ?_
  refine xo_store T_ rfl rfl rfl rfl (by repeat first | exact mH | apply mT | apply mA) rfl rfl rfl rfl (by repeat first | exact Upd.head | apply Upd.tail | apply Upd.app) rfl ?_
  with_reducible (apply xo_nil; (repeat first | apply xqT | apply xqB | apply xqS); (repeat apply xc_seq); apply xc_ret; (repeat (first | apply xq_thenR | apply xq_blockR | apply xq_scopeR)))
  exact xq_retC T_ rfl rfl rfl (by repeat first | exact mH | apply mT | apply mA) rfl fun w' hw => ⟨by rw [afterF, if_pos e]; rfl, hw.kx.below⟩
 ·have e := of_decide_eq_false h
  with_reducible (apply xc_skip; (repeat first | apply xqT | apply xqB | apply xqS); (repeat apply xc_seq); apply xcR)
  refine xoM ?_
  refine xo_add rfl rfl rfl (by omega) rfl ?_
  refine xoM ?_
  refine xo_sub rfl rfl rfl (by omega) rfl ?_
  refine xo_build TB_ rfl rfl rfl rfl rfl ?_
  refine xo_store T_ rfl rfl rfl rfl (by repeat first | exact mH | apply mT | apply mA) rfl rfl rfl rfl (by repeat first | exact Upd.head | apply Upd.tail | apply Upd.app) rfl ?_
  with_reducible (apply xo_nil; (repeat first | apply xqT | apply xqB | apply xqS); (repeat apply xc_seq); apply xc_ret; (repeat (first | apply xq_thenR | apply xq_blockR | apply xq_scopeR)))
  exact xq_retC T_ rfl rfl rfl (by repeat first | exact mH | apply mT | apply mA) rfl fun w' hw => ⟨by rw [afterF, if_neg e]; rfl, hw.kx.below⟩
theorem until_calls (n d : Int) (w : World) (hn : -2000 ≤ n ∧ n ≤ 2000) (hd : Sure d) (hglob : GlobO w) :
  Calls Tryd.prog 66 #[.int .i64 n, .int .i64 d] w fun e w' => e = .returned (.agg (spaV (untilF n d)).toArray) ∧ Below w.heap.size w w' := by
 obtain ⟨hd1, hd2⟩ := hd
 refine x_calls (X := XNone) Tryd.func66 rfl rfl rfl ?_
 with_reducible ((repeat apply xc_seq); apply xcR)
 refine xo_alloc T_ rfl rfl rfl rfl (fun b4 => ?_)
 with_reducible (apply xo_nil; (repeat first | apply xqT | apply xqB | apply xqS); (repeat apply xc_seq); apply xcR)
 refine xoM ?_
 refine xo_eql rfl rfl rfl rfl ?_
 with_reducible (apply xo_nil; (repeat first | apply xqT | apply xqB | apply xqS); (repeat apply xc_seq))
 refine xc_cond rfl (fun h => ?_) (fun h => ?_)
 ·have e := of_decide_eq_true h
  with_reducible ((repeat apply xc_seq); apply xcR)
  refine xo_loadRN T_ rfl rfl rfl hglob rfl rfl ?_
  refine xo_store T_ rfl rfl rfl rfl (by repeat first | exact mH | apply mT | apply mA) rfl rfl rfl rfl (by repeat first | exact Upd.head | apply Upd.tail | apply Upd.app) rfl ?_
  with_reducible (apply xo_nil; (repeat first | apply xqT | apply xqB | apply xqS); (repeat apply xc_seq); apply xc_ret; (repeat (first | apply xq_thenR | apply xq_blockR | apply xq_scopeR)))
  exact xq_retC T_ rfl rfl rfl (by repeat first | exact mH | apply mT | apply mA) rfl fun w' hw => ⟨by rw [untilF, if_pos e]; rfl, hw.kx.below⟩
 ·have e := of_decide_eq_false h
  with_reducible (apply xc_skip; (repeat first | apply xqT | apply xqB | apply xqS); (repeat apply xc_seq); apply xcR)
  refine xoM ?_
  refine xoM ?_
  refine xo_sub rfl rfl rfl (by omega) rfl ?_
  refine xo_build TB_ rfl rfl rfl rfl rfl ?_
  refine xo_store T_ rfl rfl rfl rfl (by repeat first | exact mH | apply mT | apply mA) rfl rfl rfl rfl (by repeat first | exact Upd.head | apply Upd.tail | apply Upd.app) rfl ?_
  with_reducible (apply xo_nil; (repeat first | apply xqT | apply xqB | apply xqS); (repeat apply xc_seq); apply xc_ret; (repeat (first | apply xq_thenR | apply xq_blockR | apply xq_scopeR)))
  exact xq_retC T_ rfl rfl rfl (by repeat first | exact mH | apply mT | apply mA) rfl fun w' hw => ⟨by rw [untilF, if_neg e]; rfl, hw.kx.below⟩
theorem common1_calls (x y : SpaT) (B : Nat) (w : World) (hB : RO w XNone ⟨B, 0, none⟩ (spaV y)) :
  Calls Tryd.prog 52 #[.agg (spaV x).toArray, .slice (some ⟨B, 0, none⟩) 1 1] w fun e w' => e = .returned (.agg (spaV (comF x y)).toArray) ∧ Below w.heap.size w w' := by
 refine x_calls (X := XNone) Tryd.func52 rfl rfl rfl ?_
 with_reducible ((repeat apply xc_seq); apply xcR)
 refine xo_box rfl rfl rfl rfl (fun b2 => ?_)
 refine xo_alloc T_ rfl rfl rfl rfl (fun b4 => ?_)
 with_reducible (apply xo_nil; (repeat first | apply xqT | apply xqB | apply xqS); (repeat apply xc_seq); apply xcR)
 refine xoM ?_
 refine xo_len T_ rfl rfl rfl rfl ?_
 refine xoM ?_
 with_reducible (apply xo_nil; (repeat first | apply xqT | apply xqB | apply xqS); (repeat apply xc_seq); apply xc_block)
 refine xc_loop (γ := Bool) (fun _ => True) (fun g => match g with
   | false => [(2, .pointer (some ⟨b2, 0, none⟩)), (4, .pointer (some ⟨b4, 0, none⟩)), (7, .slice (some ⟨B, 0, none⟩) 1 1), (8, .int .i64 1), (9, .int .i64 0)]
   | true => [(2, .pointer (some ⟨b2, 0, none⟩)), (4, .pointer (some ⟨b4, 0, none⟩)), (7, .slice (some ⟨B, 0, none⟩) 1 1), (8, .int .i64 1), (9, .int .i64 1)])
  (fun g => match g with
   | false => [(b4, true, cel [.int .i64 0, .int .i64 0] 55), (b2, true, cel (spaV x) 55)]
   | true => [(b4, true, cel [.int .i64 0, .int .i64 0] 55), (b2, true, cel (spaV (comF x y)) 55)])
  (fun g => match g with | false => 1 | true => 0) false trivial ⟨rfl, rfl, rfl, rfl, rfl, trivial⟩ (by repeat (first | exact List.Sublist.refl _ | apply List.Sublist.cons_cons | apply List.Sublist.cons | exact List.nil_sublist _)) ?_
 rintro (_ | _) -
 ·with_reducible repeat apply xc_seq
  with_reducible apply xcR
  refine xo_lss rfl rfl rfl rfl ?_
  with_reducible (apply xo_nil; (repeat first | apply xqT | apply xqB | apply xqS); (repeat apply xc_seq))
  refine xc_condT rfl ?_
  with_reducible (apply xc_skip; (repeat first | apply xqT | apply xqB | apply xqS); (repeat apply xc_seq); apply xc_block; (repeat apply xc_seq); apply xcR)
  refine xo_ia T_ rfl rfl rfl rfl rfl ⟨by omega, by omega⟩ rfl ?_
  refine xo_loadRN T_ rfl rfl rfl (by have h1 := hB; simpa [Addr.add_zero'] using h1) rfl rfl ?_
  refine xo_alloc T_ rfl rfl rfl rfl (fun b6 => ?_)
  refine xo_store T_ rfl rfl rfl rfl (by repeat first | exact mH | apply mT | apply mA) rfl rfl rfl rfl (by repeat first | exact Upd.head | apply Upd.tail | apply Upd.app) rfl ?_
  with_reducible (apply xo_nil; (repeat first | apply xqT | apply xqB | apply xqS); (repeat apply xc_seq); apply xcR)
  refine xo_fa T_ rfl rfl rfl rfl rfl ?_
  refine xo_load0 T_ rfl rfl rfl (by repeat first | exact mH | apply mT | apply mA) rfl rfl ?_
  refine xo_fa T_ rfl rfl rfl rfl rfl ?_
  refine xo_load0 T_ rfl rfl rfl (by repeat first | exact mH | apply mT | apply mA) rfl rfl ?_
  refine xo_max rfl rfl rfl rfl ?_
  refine xo_fa T_ rfl rfl rfl rfl rfl ?_
  refine xo_load0 T_ rfl rfl rfl (by repeat first | exact mH | apply mT | apply mA) rfl rfl ?_
  refine xo_fa T_ rfl rfl rfl rfl rfl ?_
  refine xo_load0 T_ rfl rfl rfl (by repeat first | exact mH | apply mT | apply mA) rfl rfl ?_
  refine xo_min rfl rfl rfl rfl ?_
  refine xo_build TB_ rfl rfl rfl rfl rfl ?_
  refine xo_store T_ rfl rfl rfl rfl (by repeat first | exact mH | apply mT | apply mA) rfl rfl rfl rfl (by repeat first | exact Upd.head | apply Upd.tail | apply Upd.app) rfl ?_
  with_reducible (apply xo_nil; (repeat first | apply xqT | apply xqB | apply xqS); (repeat apply xc_seq); apply xcR)
  refine xo_add rfl rfl rfl (by omega) rfl ?_
  refine xoM ?_
  with_reducible (apply xo_nil; (repeat first | apply xqT | apply xqB | apply xqS))
  exact xq_again _ _ _ _ _ true trivial (by decide) ⟨rfl, rfl, rfl, rfl, rfl, trivial⟩ (by repeat (first | exact List.Sublist.refl _ | apply List.Sublist.cons_cons | apply List.Sublist.cons | exact List.nil_sublist _))
 ·with_reducible repeat apply xc_seq
  with_reducible apply xcR
  refine xo_lss rfl rfl rfl rfl ?_
  with_reducible (apply xo_nil; (repeat first | apply xqT | apply xqB | apply xqS); (repeat apply xc_seq))
  refine xc_condF rfl ?_
  with_reducible (apply xc_exit; (repeat (first | apply xq_blockX | apply xq_thenE | refine xq_blockE rfl ?_ | apply xq_scopeE)); (repeat first | apply xqT | apply xqB | apply xqS); (repeat apply xc_seq); apply xcR)
  refine xo_loadN T_ rfl rfl rfl (by repeat first | exact mH | apply mT | apply mA) rfl rfl ?_
  refine xo_store T_ rfl rfl rfl rfl (by repeat first | exact mH | apply mT | apply mA) rfl rfl rfl rfl (by repeat first | exact Upd.head | apply Upd.tail | apply Upd.app) rfl ?_
  with_reducible (apply xo_nil; (repeat first | apply xqT | apply xqB | apply xqS); (repeat apply xc_seq); apply xc_ret; (repeat (first | apply xq_thenR | apply xq_blockR | apply xq_scopeR)))
  exact xq_retC T_ rfl rfl rfl (by repeat first | exact mH | apply mT | apply mA) rfl fun w' hw => ⟨rfl, hw.kx.below⟩
theorem after_enters : ∀ args w, (callFunc 65 args).run Tryd.prog w = .ok (.enter 65 args) w := enters_of Tryd.func65 (by kernel_rfl) rfl
theorem until_enters : ∀ args w, (callFunc 66 args).run Tryd.prog w = .ok (.enter 66 args) w := enters_of Tryd.func66 (by kernel_rfl) rfl
theorem common_enters : ∀ args w, (callFunc 52 args).run Tryd.prog w = .ok (.enter 52 args) w := enters_of Tryd.func52 (by kernel_rfl) rfl
end Go.Proofs.YtommeljlfkmpjaaDoor
