/- SX: calls, builtins, maps, rows, returns. No program in sight. -/
import Derived.Test.YtcmepdamemnbkaaSO
namespace Go.Proofs.Ytcmepdamemnbkaa
open Go.RowKit Go.MapKept
attribute [local go_sem] Oper.semAt_some
set_option linter.unusedVariables false
set_option linter.unusedSimpArgs false

/-- a block that is a map of whole numbers to values -/
def hmap (l : List (Int × Value)) : HP := fun o => ∃ es c, o = .map es c ∧ Ents es c l
/-- a set of whole numbers: a map to true -/
def setV (s : List Int) : List (Int × Value) := s.map fun i => (i, .bool true)
theorem imGet_setV (x : Int) : ∀ s : List Int, imGet x (setV s) = if x ∈ s then some (.bool true) else none
  | [] => rfl
  | p :: r => by
    simp only [setV, List.map_cons, imGet] at *
    have ih := imGet_setV x r
    simp only [setV] at ih
    by_cases h : p = x
    · subst h; simp
    · simp only [if_neg h, ih, List.mem_cons]
      simp [show ¬ x = p from fun e => h e.symm]
def insN (x : Int) (s : List Int) : List Int := if x ∈ s then s else s ++ [x]
theorem mem_insN {x y : Int} {s : List Int} : y ∈ insN x s ↔ y = x ∨ y ∈ s := by
  unfold insN
  split
  · constructor
    · exact .inr
    · rintro (rfl | h)
      · assumption
      · exact h
  · simp [or_comm]
theorem imSet_setV (x : Int) : ∀ s : List Int, imSet x (.bool true) (setV s) = setV (insN x s)
  | [] => rfl
  | p :: r => by
    have ih := imSet_setV x r
    simp only [setV, insN] at *
    by_cases h : p = x
    · subst h; simp [imSet]
    · simp only [List.map_cons, imSet, h, ↓reduceIte, ih]
      by_cases hx : x ∈ r
      · simp [hx]
      · simp [hx, show ¬ x = p from fun e => h e.symm]
theorem imap_of {w : World} {b : Nat} {l : List (Int × Value)} {o : Obj} (h1 : w.heap[b]? = some o) (h2 : hmap l o) : IMap w b l := by
  obtain ⟨es, c, rfl, hE⟩ := h2
  exact ⟨es, c, h1, hE⟩
theorem hmap_of {w : World} {b : Nat} {l : List (Int × Value)} (h : IMap w b l) : ∃ o, w.heap[b]? = some o ∧ hmap l o := by
  obtain ⟨es, c, h1, h2⟩ := h
  exact ⟨_, h1, es, c, rfl, h2⟩
section
variable {P : Program} {ro : Option Nat} {n N : Nat} {ds : List Deferred} {w0 : World} {X : Nat → Prop} {Q : Exit → Act → World → Prop} {ops : List Oper} {σ : Slots} {η : Hp} {rest : List Oper}
variable {d : Option Tmp} {ty : TypeId} {pos : String} {aft : Array Edge} {g : Option (Nat × Bool)}
theorem WOK.imap {w : World} (h : WOK w0 X η w) {b : Nat} {wr : Bool} {l : List (Int × Value)} (he : (b, wr, hmap l) ∈ η) : IMap w b l := by
  obtain ⟨o, h1, h2⟩ := h.bl _ he
  exact imap_of h1 h2

/-! ### a call: whatever it does -/
theorem xo_call {fo : Operand} {xs : List Operand} {ats : Array TypeId} {f : FuncId} {vs fs cs : List Value} (hg : gS ops σ g = some true) (hf : ev σ fo = some (.func (.func f) fs.toArray cs.toArray)) (ha_ : evs σ xs = some vs)
    (eg : ∀ args w, (callFunc f args).run P w = .ok (.enter f args) w) (hN : dstOK N d = true)
    (hc : ∀ w, WOK w0 X η w → Calls P f (fs ++ vs ++ cs).toArray w fun e w' => ∃ v η', e = .returned v ∧ WOK w0 X η' w' ∧ XO P ro n N ds w0 X Q ops (putS d v σ) η' rest) :
    XO P ro n N ds w0 X Q ops σ η (⟨d, .call { callee := .value fo, args := xs.toArray, argTypes := ats }, ty, pos, aft, g⟩ :: rest) := by
  intro a w ha hw
  unfold wpListIn
  rw [if_pos (wanted_of ha (o := ⟨d, .call { callee := .value fo, args := xs.toArray, argTypes := ats }, ty, pos, aft, g⟩) hg)]
  refine ⟨fun _ _ => trivial, ?_⟩
  rw [show (wideR ro).round = ro from rfl, Oper.semAt_eq ro _ _ (fun c e => by cases e)]
  have hrun : (execOp a.eval ⟨d, .call { callee := .value fo, args := xs.toArray, argTypes := ats }, ty, pos, aft, g⟩).run P w = .ok (.enter f (fs ++ vs ++ cs).toArray) w := by
    simp [execOp, resolve, Deferred.ofValue, invoke, ha.ev hf, ha.evs ha_, eg]
  rw [hrun]
  refine ⟨(fun h => by cases h), callsIn_wideR ((hc w hw).mono ?_)⟩
  rintro e w' ⟨v, η', rfl, hw', hk⟩
  exact hk _ _ (ha.put hN v) hw'
/-- a call that leaves the world as it was below its own blocks -/
theorem xo_callB {fo : Operand} {xs : List Operand} {ats : Array TypeId} {f : FuncId} {vs fs cs : List Value} {v : Value} (hg : gS ops σ g = some true) (hf : ev σ fo = some (.func (.func f) fs.toArray cs.toArray)) (ha_ : evs σ xs = some vs)
    (eg : ∀ args w, (callFunc f args).run P w = .ok (.enter f args) w) (hN : dstOK N d = true)
    (hc : ∀ w, WOK w0 X η w → Calls P f (fs ++ vs ++ cs).toArray w fun e w' => e = .returned v ∧ Below w.heap.size w w') (h : XO P ro n N ds w0 X Q ops (putS d v σ) η rest) :
    XO P ro n N ds w0 X Q ops σ η (⟨d, .call { callee := .value fo, args := xs.toArray, argTypes := ats }, ty, pos, aft, g⟩ :: rest) :=
  xo_call hg hf ha_ eg hN fun w hw => (hc w hw).mono fun e w' ⟨he, hb⟩ => ⟨v, η, he, hw.below hb, h⟩

/-! ### builtins -/
theorem xo_bi {b : Builtin} {xs : List Operand} {ats : Array TypeId} {vs : List Value} (v : Value) (hg : gS ops σ g = some true) (ha_ : evs σ xs = some vs) (hN : dstOK N d = true)
    (hrun : ∀ w, WOK w0 X η w → ∀ cs, (builtin b ats ty cs vs.toArray).run P w = .ok (.value v) w) (h : XO P ro n N ds w0 X Q ops (putS d v σ) η rest) :
    XO P ro n N ds w0 X Q ops σ η (⟨d, .call { callee := .builtin b, args := xs.toArray, argTypes := ats }, ty, pos, aft, g⟩ :: rest) :=
  xo_val v rfl hg hN (fun a w ha hw => by
    simp [execOp, resolve, invoke, ha.evs ha_]
    exact hrun w hw _) h
theorem xo_len (T : Tys P) {x : Operand} {t e : TypeId} {A : Option Addr} {len cap : Nat} (hg : gS ops σ g = some true) (hx : ev σ x = some (.slice A len cap)) (ht : look t T.el = some e) (hN : dstOK N d = true) (h : XO P ro n N ds w0 X Q ops (putS d (.int .i64 (len : Int)) σ) η rest) :
    XO P ro n N ds w0 X Q ops σ η (⟨d, .call { callee := .builtin .len, args := #[x], argTypes := #[t] }, ty, pos, aft, g⟩ :: rest) := by
  refine xo_bi (xs := [x]) (vs := [.slice A len cap]) _ hg (by simp [evs, hx]) hN (fun w hw cs => ?_) h
  have h1 := T.hel _ (look_mem ht)
  have := run_len_slice (P := P) w t ty A len cap (by simp only [Program.elem]; rw [show P.underlying t = _ from h1])
  simp [builtin, this, goInt]
/-! ### maps -/
theorem xo_mkm {t : TypeId} (hg : gS ops σ g = some true) (hN : dstOK N d = true) (h : ∀ b, XO P ro n N ds w0 X Q ops (putS d (.map (some b)) σ) ((b, true, hmap []) :: η) rest) :
    XO P ro n N ds w0 X Q ops σ η (⟨d, .makeMap t none, ty, pos, aft, g⟩ :: rest) :=
  xo_base rfl hg fun a w ha hw => by
    refine ⟨_, w.alloc (.map #[] 0), .map (some w.heap.size), ?_, .inl rfl, h _ _ _ (ha.put hN _) (hw.alloc _ _ ⟨#[], 0, rfl, ⟨rfl, by simp, by simp, by simp⟩⟩)⟩
    simp [execOp, Instr.makeMap]
theorem xo_mupd (T : Tys P) {t tk te : TypeId} {m x y : Operand} {b : Nat} {l : List (Int × Value)} {k : Int} {v : Value} {η' : Hp} (hg : gS ops σ g = some true) (ht : look t T.mp = some (tk, te)) (hk : look tk T.ik = some .i64) (hm : ev σ m = some (.map (some b))) (hx : ev σ x = some (.int .i64 k)) (hy : ev σ y = some v)
    (hb : (b, true, hmap l) ∈ η) (hU : Upd b (hmap (imSet k v l)) η η') (hN : dstOK N d = true) (h : XO P ro n N ds w0 X Q ops (putS d undef σ) η' rest) :
    XO P ro n N ds w0 X Q ops σ η (⟨d, .mapUpdate t m x y, ty, pos, aft, g⟩ :: rest) :=
  xo_base rfl hg fun a w ha hw => by
    obtain ⟨o, hr, hM⟩ := (hw.imap hb).store (P := P) (T.hmp _ (look_mem ht)) (T.hik _ (look_mem hk)) k v
    obtain ⟨o', h1, h2⟩ := hmap_of hM
    refine ⟨.skip, _, undef, ?_, .inr ⟨rfl, rfl⟩, h _ _ (ha.put hN _) (hw.upd hU (OneB.putObj w b o) h1 h2)⟩
    simp [execOp, ha.ev hm, ha.ev hx, ha.ev hy, hr]
/-- a set's new member -/
theorem xo_sins (T : Tys P) {t tk te : TypeId} {m x y : Operand} {b : Nat} {s : List Int} {k : Int} {η' : Hp} (hg : gS ops σ g = some true) (ht : look t T.mp = some (tk, te)) (hk : look tk T.ik = some .i64) (hm : ev σ m = some (.map (some b))) (hx : ev σ x = some (.int .i64 k)) (hy : ev σ y = some (.bool true))
    (hb : (b, true, hmap (setV s)) ∈ η) (hU : Upd b (hmap (setV (insN k s))) η η') (hN : dstOK N d = true) (h : XO P ro n N ds w0 X Q ops (putS d undef σ) η' rest) :
    XO P ro n N ds w0 X Q ops σ η (⟨d, .mapUpdate t m x y, ty, pos, aft, g⟩ :: rest) :=
  xo_mupd T hg ht hk hm hx hy hb (by rw [imSet_setV]; exact hU) hN h
theorem xo_look1 (T : Tys P) {t tk te : TypeId} {m x : Operand} {b : Nat} {wr : Bool} {l : List (Int × Value)} {k : Int} {z v : Value} (hg : gS ops σ g = some true) (ht : look t T.mp = some (tk, te)) (hk : look tk T.ik = some .i64) (hz : look te T.zs = some z) (hm : ev σ m = some (.map (some b))) (hx : ev σ x = some (.int .i64 k))
    (hb : (b, wr, hmap l) ∈ η) (hv : (imGet k l).getD z = v) (hN : dstOK N d = true) (h : XO P ro n N ds w0 X Q ops (putS d v σ) η rest) :
    XO P ro n N ds w0 X Q ops σ η (⟨d, .lookup t m x false, ty, pos, aft, g⟩ :: rest) :=
  xo_val v rfl hg hN (fun a w ha hw => by
    have := (hw.imap hb).look1 (P := P) (T.hmp _ (look_mem ht)) (T.hik _ (look_mem hk)) (T.hzs _ (look_mem hz) w) k
    rw [hv] at this
    simp [execOp, ha.ev hm, ha.ev hx, this]) h
/-- is it in the set? -/
theorem xo_sget (T : Tys P) {t tk te : TypeId} {m x : Operand} {b : Nat} {wr : Bool} {s : List Int} {k : Int} (hg : gS ops σ g = some true) (ht : look t T.mp = some (tk, te)) (hk : look tk T.ik = some .i64) (hz : look te T.zs = some (.bool false)) (hm : ev σ m = some (.map (some b))) (hx : ev σ x = some (.int .i64 k))
    (hb : (b, wr, hmap (setV s)) ∈ η) (hN : dstOK N d = true) (h : XO P ro n N ds w0 X Q ops (putS d (.bool (decide (k ∈ s))) σ) η rest) :
    XO P ro n N ds w0 X Q ops σ η (⟨d, .lookup t m x false, ty, pos, aft, g⟩ :: rest) :=
  xo_look1 T hg ht hk hz hm hx hb (by rw [imGet_setV]; split <;> simp [*]) hN h
/-! ### a slice of whole numbers, written out -/
theorem xo_bs1 (T : Tys P) {t e : TypeId} {x : Operand} {v z : Value} (hg : gS ops σ g = some true) (ht : look t T.el = some e) (hk : look e T.tk = some 0) (hz : look e T.zs = some z) (hzc : z.cells.toList.length = 1) (hx : ev σ x = some v) (hv : v.cells = #[v]) (hN : dstOK N d = true)
    (h : ∀ b, XO P ro n N ds w0 X Q ops (putS d (.slice (some ⟨b, 0, none⟩) 1 1) σ) ((b, true, cel [v] e) :: η) rest) : XO P ro n N ds w0 X Q ops σ η (⟨d, .buildSlice t 1 #[(0, x)], ty, pos, aft, g⟩ :: rest) :=
  xo_base rfl hg fun a w ha hw => by
    have h1 := T.hel _ (look_mem ht)
    have h2 : (sizeOf e).run P w = .ok 1 w := (T.htk _ (look_mem hk)).2 w
    have h3 := T.hzs _ (look_mem hz) w
    refine ⟨_, w.alloc (.cells #[v] e), .slice (some ⟨w.heap.size, 0, none⟩) 1 1, ?_, .inl rfl, h _ _ _ (ha.put hN _) (hw.alloc _ _ rfl)⟩
    have hz1 : z.cells.size = 1 := by simpa using hzc
    simp only at h1 h2 h3
    simp [execOp, Instr.buildSlice, run_underlying h1, h2, h3, ha.ev hx, Instr.fill, hv, hz1, newRow, Array.range_succ, Array.range_zero']
theorem xo_bs2 (T : Tys P) {t e : TypeId} {x y : Operand} {v u z : Value} (hg : gS ops σ g = some true) (ht : look t T.el = some e) (hk : look e T.tk = some 0) (hz : look e T.zs = some z) (hzc : z.cells.toList.length = 1) (hx : ev σ x = some v) (hy : ev σ y = some u) (hv : v.cells = #[v]) (hu : u.cells = #[u]) (hN : dstOK N d = true)
    (h : ∀ b, XO P ro n N ds w0 X Q ops (putS d (.slice (some ⟨b, 0, none⟩) 2 2) σ) ((b, true, cel [v, u] e) :: η) rest) : XO P ro n N ds w0 X Q ops σ η (⟨d, .buildSlice t 2 #[(0, x), (1, y)], ty, pos, aft, g⟩ :: rest) :=
  xo_base rfl hg fun a w ha hw => by
    have h1 := T.hel _ (look_mem ht)
    have h2 : (sizeOf e).run P w = .ok 1 w := (T.htk _ (look_mem hk)).2 w
    have h3 := T.hzs _ (look_mem hz) w
    refine ⟨_, w.alloc (.cells #[v, u] e), .slice (some ⟨w.heap.size, 0, none⟩) 2 2, ?_, .inl rfl, h _ _ _ (ha.put hN _) (hw.alloc _ _ rfl)⟩
    have hz1 : z.cells.size = 1 := by simpa using hzc
    simp only at h1 h2 h3
    simp [execOp, Instr.buildSlice, run_underlying h1, h2, h3, ha.ev hx, ha.ev hy, Instr.fill, hv, hu, hz1, newRow, Array.range_succ, Array.range_zero']
end
/-! ### a function as a whole -/
def argS : Nat → List Value → Slots
  | _, [] => []
  | i, v :: r => (i, v) :: argS (i + 1) r
theorem slot_argS : ∀ (vs : List Value) (i j : Nat) (v : Value), slot j (argS i vs) = some v → i ≤ j ∧ vs[j - i]? = some v
  | [], i, j, v, h => by cases h
  | u :: r, i, j, v, h => by
    unfold argS slot at h
    cases hq : Nat.beq i j with
    | true =>
      have e := Nat.eq_of_beq_eq_true hq
      simp only [hq, cond_true, Option.some.injEq] at h
      subst e
      subst h
      simp
    | false =>
      simp only [hq, cond_false] at h
      obtain ⟨h1, h2⟩ := slot_argS r (i + 1) j v h
      have h3 : i ≤ j := by omega
      refine ⟨h3, ?_⟩
      rw [show j - i = (j - (i + 1)) + 1 from by omega]
      simpa using h2
theorem SOK.args (vs : List Value) (N : Nat) (h : vs.length ≤ N) : SOK N [] (argS 0 vs) { tmps := vs.toArray ++ Array.replicate (N - vs.toArray.size) undef, defers := [] } := by
  refine ⟨by simp; omega, fun i v hv => ?_, rfl⟩
  obtain ⟨_, h2⟩ := slot_argS vs 0 i v hv
  simp only [Nat.sub_zero] at h2
  have hlt : i < vs.length := (List.getElem?_eq_some_iff.1 h2).1
  rw [Array.getElem?_append_left (by simpa using hlt)]
  simpa using h2
theorem x_calls {P : Program} {f : FuncId} {fn : Func} {c : Code} {vs : List Value} {w : World} {R : Ending → World → Prop} {X : Nat → Prop} (hf : P.funcs[f]? = some fn) (hb : fn.body = some c) {N : Nat} (hn : fn.ntmps = N) (hl : Nat.ble vs.length N = true)
    (h : XC P none 0 N [] w X (bodyPost P fn R) (argS 0 vs) [] c) : Calls P f vs.toArray w R := by
  subst hn
  exact (callsIn_wide (n := 0)).1 (callsIn_of_wp hf hb trivial (h _ w (SOK.args vs _ (Nat.le_of_ble_eq_true hl)) (WOK.start X w)) rfl)
theorem x_callsH {P : Program} {f : FuncId} {fn : Func} {c : Code} {vs : List Value} {w : World} {R : Ending → World → Prop} {X : Nat → Prop} {η : Hp} (hf : P.funcs[f]? = some fn) (hb : fn.body = some c) {N : Nat} (hn : fn.ntmps = N) (hl : Nat.ble vs.length N = true) (hw : WOK w X η w)
    (h : XC P none 0 N [] w X (bodyPost P fn R) (argS 0 vs) η c) : Calls P f vs.toArray w R := by
  subst hn
  exact (callsIn_wide (n := 0)).1 (callsIn_of_wp hf hb trivial (h _ w (SOK.args vs _ (Nat.le_of_ble_eq_true hl)) hw) rfl)
section
variable {P : Program} {N : Nat} {w0 : World} {X : Nat → Prop} {fn : Func} {R : Ending → World → Prop} {σ : Slots} {η : Hp}
theorem xq_ret1 {t : Tmp} {v : Value} (hf : fn.results = #[.tmp t]) (hv : slot t σ = some v) (h : ∀ w, WOK w0 X η w → R (.returned v) w) : XQ N [] w0 X (bodyPost P fn R) .ret σ η :=
  fun a w ha hw => ⟨ha.df, v, by rw [results_tmp hf, getD_of (ha.sl _ _ hv)], h w hw⟩
theorem xq_ret2 {t u : Tmp} {v x : Value} (hf : fn.results = #[.tmp t, .tmp u]) (hv : slot t σ = some v) (hx : slot u σ = some x) (h : ∀ w, WOK w0 X η w → R (.returned (.tuple #[v, x])) w) : XQ N [] w0 X (bodyPost P fn R) .ret σ η :=
  fun a w ha hw => ⟨ha.df, _, by rw [results_tmp2 hf, getD_of (ha.sl _ _ hv), getD_of (ha.sl _ _ hx)], h w hw⟩
theorem xq_ret0 (hf : fn.results = #[]) (h : ∀ w, WOK w0 X η w → R (.returned (.tuple #[])) w) : XQ N [] w0 X (bodyPost P fn R) .ret σ η :=
  fun a w ha hw => ⟨ha.df, _, by rw [results_none hf], h w hw⟩
theorem xq_end0 (hf : fn.results = #[]) (h : ∀ w, WOK w0 X η w → R (.returned (.tuple #[])) w) : XQ N [] w0 X (bodyPost P fn R) .normal σ η :=
  fun a w ha hw => ⟨ha.df, _, by rw [results_none hf], h w hw⟩
theorem run_loadVar_cel (T : Tys P) {w : World} (hw : WOK w0 X η w) {t : TypeId} {b i k : Nat} {wr : Bool} {cs vs : List Value} {te : TypeId} (ht : look t T.tk = some (k + 1)) (hm : (b, wr, cel cs te) ∈ η) (hv : seg i (k + 1) cs = some vs) :
    (loadVar t ⟨b, i, none⟩).run P w = .ok (.agg vs.toArray) w := by
  obtain ⟨h1, h3_⟩ := T.htk _ (look_mem ht)
  have h3 : ∀ w, (sizeOf t).run P w = .ok (k + 1) w := h3_
  have h1 : ∀ w, (isAgg t).run P w = .ok true w := fun w => (h1 w).trans (by simp [Nat.blt])
  have hs := seg_get _ _ _ _ hv
  have h2 := run_loadCells_list (P := P) (w := w) ⟨b, i, none⟩ vs (fun j v hj => by rw [Addr.add_lit]; exact hw.cell hm (i + j) (hs.2 j v hj))
  rw [hs.1] at h2
  simp [loadVar, h1, h3, h2]
/-- a struct that lies in a block, and one slot -/
theorem xq_retC1 (T : Tys P) {t u : Tmp} {ts : TypeId} {b i k : Nat} {wr : Bool} {cs vs : List Value} {te : TypeId} {x : Value} (hf : fn.results = #[.cell t ts, .tmp u]) (hv : slot t σ = some (.pointer (some ⟨b, i, none⟩))) (hx : slot u σ = some x)
    (ht : look ts T.tk = some (k + 1)) (hm : (b, wr, cel cs te) ∈ η) (hs : seg i (k + 1) cs = some vs) (h : ∀ w, WOK w0 X η w → R (.returned (.tuple #[.agg vs.toArray, x])) w) : XQ N [] w0 X (bodyPost P fn R) .ret σ η :=
  fun a w ha hw => ⟨ha.df, .tuple #[.agg vs.toArray, x], by
    rw [results_cell_tmp hf]
    have := run_loadVar_cel T hw ht hm hs
    rw [getD_of (ha.sl _ _ hv), getD_of (ha.sl _ _ hx)]
    simp [asAddr, this], h w hw⟩
theorem xq_retC (T : Tys P) {t : Tmp} {ts : TypeId} {b i k : Nat} {wr : Bool} {cs vs : List Value} {te : TypeId} (hf : fn.results = #[.cell t ts]) (hv : slot t σ = some (.pointer (some ⟨b, i, none⟩)))
    (ht : look ts T.tk = some (k + 1)) (hm : (b, wr, cel cs te) ∈ η) (hs : seg i (k + 1) cs = some vs) (h : ∀ w, WOK w0 X η w → R (.returned (.agg vs.toArray)) w) : XQ N [] w0 X (bodyPost P fn R) .ret σ η :=
  fun a w ha hw => ⟨ha.df, .agg vs.toArray, by
    have := run_loadVar_cel T hw ht hm hs
    simp [results, hf, ha.sl _ _ hv, asAddr, this], h w hw⟩
end
end Go.Proofs.Ytcmepdamemnbkaa
namespace Go.Proofs.Ytcmepdamemnbkaa
section
variable {P : Program} {ro : Option Nat} {n N : Nat} {ds : List Deferred} {w0 : World} {X : Nat → Prop} {Q : Exit → Act → World → Prop} {ops : List Oper} {σ : Slots} {η : Hp} {rest : List Oper}
variable {d : Option Tmp} {ty : TypeId} {pos : String} {aft : Array Edge} {g : Option (Nat × Bool)}
theorem xo_min {x y : Operand} {ats : Array TypeId} {a b : Int} (hg : gS ops σ g = some true) (hx : ev σ x = some (.int .i64 a)) (hy : ev σ y = some (.int .i64 b)) (hN : dstOK N d = true) (h : XO P ro n N ds w0 X Q ops (putS d (.int .i64 (if b < a then b else a)) σ) η rest) :
    XO P ro n N ds w0 X Q ops σ η (⟨d, .call { callee := .builtin .min, args := #[x, y], argTypes := ats }, ty, pos, aft, g⟩ :: rest) := by
  refine xo_bi (xs := [x, y]) (vs := [.int .i64 a, .int .i64 b]) _ hg (by simp [evs, hx, hy]) hN (fun w hw cs => ?_) h
  have : (Builtin.min_ ats ty #[.int .i64 a, .int .i64 b]).run P w = .ok (.int .i64 (if b < a then b else a)) w := by go_simp
  simp [builtin, this]
theorem xo_max {x y : Operand} {ats : Array TypeId} {a b : Int} (hg : gS ops σ g = some true) (hx : ev σ x = some (.int .i64 a)) (hy : ev σ y = some (.int .i64 b)) (hN : dstOK N d = true) (h : XO P ro n N ds w0 X Q ops (putS d (.int .i64 (if a < b then b else a)) σ) η rest) :
    XO P ro n N ds w0 X Q ops σ η (⟨d, .call { callee := .builtin .max, args := #[x, y], argTypes := ats }, ty, pos, aft, g⟩ :: rest) := by
  refine xo_bi (xs := [x, y]) (vs := [.int .i64 a, .int .i64 b]) _ hg (by simp [evs, hx, hy]) hN (fun w hw cs => ?_) h
  have : (Builtin.max_ ats ty #[.int .i64 a, .int .i64 b]).run P w = .ok (.int .i64 (if a < b then b else a)) w := by go_simp
  simp [builtin, this]
end
end Go.Proofs.Ytcmepdamemnbkaa
