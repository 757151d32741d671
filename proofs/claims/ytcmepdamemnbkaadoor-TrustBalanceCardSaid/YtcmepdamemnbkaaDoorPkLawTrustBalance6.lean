/- trust.Pieces. / ref08.store, Moves answer what trust.count answers. / ref08.Moves answers what trust.count answers. / ref08.Hold: the walk. / ref08.Comes: which batches come of a record. / The library's own functions that the shelf's contract asks, where they lie in this program. -/
import Derived.Test.YtcmepdamemnbkaaDoorPkLawTrustBalance5
import Derived.Test.YtcmepdamemnbkaaDoorPkLawTrustBalance2
import Derived.Shelf.Sort.Plain
import Derived.Shelf.Lays
namespace Go.Proofs.YtcmepdamemnbkaaDoor
open Go.RowKit Go.Proofs.YtcmepdamemnbkaaDoorW.PrintWords
set_option linter.unusedVariables false
set_option linter.unusedSimpArgs false
theorem eqSt (d : Nat) (w : World) (x y : StT) :
    (Op.equalIn (d + 2) 27 (.agg (stV x).toArray) (.agg (stV y).toArray)).run Tryd.prog w = .ok (x.a == y.a && (x.b == y.b && (x.c == y.c && (x.d == y.d && (x.e == y.e && (x.l == y.l)))))) w := by
  refine eqA_of Tryd.underlying27 (by kernel_rfl) ?_
  refine eqf_cons (by rfl) (by go_simp; rfl) (by go_simp; rfl) (by go_simp) ?_
  refine eqf_cons (by rfl) (by go_simp; rfl) (by go_simp; rfl) (by go_simp) ?_
  refine eqf_cons (by rfl) (by go_simp; rfl) (by go_simp; rfl) (by go_simp) ?_
  refine eqf_cons (by rfl) (by go_simp; rfl) (by go_simp; rfl) (by go_simp) ?_
  refine eqf_cons (by rfl) (by go_simp; rfl) (by go_simp; rfl) (by go_simp) ?_
  exact eqf_last (by rfl) (by go_simp; rfl) (by go_simp; rfl) (by go_simp)
def stEq (x y : StT) : Bool := x.a == y.a && (x.b == y.b && (x.c == y.c && (x.d == y.d && (x.e == y.e && (x.l == y.l)))))
theorem stEq_iff {x y : StT} : stEq x y = true ↔ x = y := by
  unfold stEq
  simp only [Bool.and_eq_true, beq_iff_eq]
  constructor
  · rintro ⟨h1, h2, h3, h4, h5, h6⟩
    obtain ⟨a, b, c, d, e, l⟩ := x
    obtain ⟨a', b', c', d', e', l'⟩ := y
    simp only at h1 h2 h3 h4 h5 h6
    subst h1 h2 h3 h4 h5 h6
    rfl
  · rintro rfl
    exact ⟨rfl, rfl, rfl, rfl, rfl, rfl⟩
section
variable {ro : Option Nat} {n N : Nat} {ds : List Deferred} {w0 : World} {X : Nat → Prop} {Q : Exit → Act → World → Prop} {σ : Slots} {η : Hp} {ops rest : List Oper} {d : Option Tmp} {ty pos aft} {g : Option (Nat × Bool)}
attribute [local go_sem high] eqSt
theorem xo_neqSt {u v : Operand} {t' : TypeId} {a b : StT} (hg : gS ops σ g = some true) (hx : ev σ u = some (.agg (stV a).toArray)) (hy : ev σ v = some (.agg (stV b).toArray)) (hN : dstOK N d = true)
    (h : XO Tryd.prog ro n N ds w0 X Q ops (putS d (.bool (!stEq a b)) σ) η rest) : XO Tryd.prog ro n N ds w0 X Q ops σ η (⟨d, .binOp .neq 27 u v t', ty, pos, aft, g⟩ :: rest) :=
  xo_val _ rfl hg hN (fun _ w ha hw => by
    simp only [execOp, ha.ev hx, ha.ev hy, stEq]
    go_simp) h
theorem xo_eqlSt {u v : Operand} {t' : TypeId} {a b : StT} (hg : gS ops σ g = some true) (hx : ev σ u = some (.agg (stV a).toArray)) (hy : ev σ v = some (.agg (stV b).toArray)) (hN : dstOK N d = true)
    (h : XO Tryd.prog ro n N ds w0 X Q ops (putS d (.bool (stEq a b)) σ) η rest) : XO Tryd.prog ro n N ds w0 X Q ops σ η (⟨d, .binOp .eql 27 u v t', ty, pos, aft, g⟩ :: rest) :=
  xo_val _ rfl hg hN (fun _ w ha hw => by
    simp only [execOp, ha.ev hx, ha.ev hy, stEq]
    go_simp) h
end
/-- what Pieces answers -/
def addS (s t : StT) : StT := ⟨s.a + t.a, s.b + t.b, s.c + t.c, s.d + t.d, s.e + t.e, s.l + t.l⟩
theorem addS_zero (s : StT) : addS s st0 = s := by simp [addS, st0]
def wayP (id : Int) (come : List Int) (way : List Int) : Bool := way.any fun n => decide (n = id) || decide (n ∈ come)
def fromF (id : Int) (come : List Int) (x : RecT) : Bool := decide (x.f0 = id) || x.f2.any (wayP id come)
def piecesL (m : List MovT) (id : Int) : List Int → StT → List RecT → StT
  | _, s, [] => s
  | come, s, x :: r => if fromF id come x && decide (x.f1 = 3) then piecesL m id (insN x.f0 come) (addS s (storeF m x.f0)) r else piecesL m id come s r
def piecesC (r : List RecT) (m : List MovT) (id : Int) : Int := if recordedF r then (if countF r m then (if knownF r id then 0 else 6) else 82) else 80
def piecesR (r : List RecT) (m : List MovT) (id : Int) : StT := if piecesC r m id = 0 then piecesL m id [] st0 r else st0
theorem StB.add {s t : StT} {B C : Int} (h : StB s B) (k : StB t C) : StB (addS s t) (B + C) := by
  unfold StB addS at *
  simp only at *
  omega
theorem batch_mem {r : List RecT} (hs : SortedIds r) {k : Nat} (hk : k < r.length) : decide ((r.getD k zRec).f0 ∈ batchesF r) = decide ((r.getD k zRec).f1 = 3) := by
  rw [decide_eq_decide]
  constructor
  · intro h
    simp only [batchesF, List.mem_map, List.mem_filter, decide_eq_true_eq] at h
    obtain ⟨x, ⟨h1, h2⟩, h3⟩ := h
    obtain ⟨j, hj, rfl⟩ := List.getElem_of_mem h1
    have e1 : r[j] = r.getD j zRec := by simp [List.getD_eq_getElem?_getD, List.getElem?_eq_getElem hj]
    have := sorted_inj hs hj hk (by rw [idAt, idAt, ← e1]; exact h3)
    subst this
    rw [← e1]
    exact h2
  · intro h
    simp only [batchesF, List.mem_map, List.mem_filter, decide_eq_true_eq]
    exact ⟨_, ⟨getD_mem r zRec k hk, h⟩, rfl⟩
theorem count_B {r : List RecT} {m : List MovT} (h : countF r m = true) (id : Int) : StB (storeF m id) 4000000 := by
  rw [countF, Bool.and_eq_true] at h
  have h1 := movesL_mem m _ _ h.1
  have h2 := movesL_len m _ _ h.1
  refine (storeF_B (fun x hx => (h1 x hx).2.2) id).mono ?_
  rcases h2 with h2 | rfl
  · omega
  · simp
theorem pieces1_calls (x id : Int) (S : List Int) (b5 b10 M : Nat) (w : World) (h5 : w.cell? ⟨b5, 0, none⟩ = some (.int .i64 id)) (h10 : w.cell? ⟨b10, 0, none⟩ = some (.map (some M))) (hM : IMap w M (setV S)) :
    Calls Tryd.prog 45 #[.int .i64 x, .pointer (some ⟨b5, 0, none⟩), .pointer (some ⟨b10, 0, none⟩)] w fun e w' => e = .returned (.bool (decide (x = id) || decide (x ∈ S))) ∧ Below w.heap.size w w' := by
  have r1 := ro1 h5
  have r2 := ro1 h10
  refine x_callsH (X := XNone) Tryd.func45 rfl rfl rfl (WOK.startM XNone hM) ?_
  with_reducible repeat refine xc_seq ?_
  with_reducible refine xc_region ?_
  refine xo_asg rfl rfl rfl ?_
  with_reducible refine xo_nil ?_
  with_reducible repeat (first | refine xq_then ?_ | refine xq_blockN ?_ | refine xq_scopeN ?_)
  cases h : decide (x = id)
  all_goals
    with_reducible repeat refine xc_seq ?_
    with_reducible refine xc_region ?_
    refine xo_mv rfl rfl rfl ?_
    refine xo_loadR0 T_ rfl rfl rfl (by first | assumption | exact RO.fld (by assumption) rfl) rfl ?_
    refine xo_eql rfl rfl rfl rfl ?_
    refine xo_mv rfl rfl rfl ?_
    refine xo_as (i := 8) rfl (congrArg Value.bool h) ?_
    first
      | refine xo_not rfl rfl ?_
      | (refine xo_loadR0 T_ rfl rfl rfl (by first | assumption | exact RO.fld (by assumption) rfl) rfl ?_)
    first
      | refine xo_not rfl rfl ?_
      | (refine xo_mv rfl rfl rfl ?_)
    first
      | refine xo_not rfl rfl ?_
      | (refine xo_sget T_ rfl rfl rfl rfl rfl rfl (by repeat (first | exact List.Mem.head _ | apply List.Mem.tail | apply List.mem_append_right)) rfl ?_)
    first | refine xo_pickT rfl rfl rfl rfl ?_ | refine xo_pickF rfl rfl rfl rfl ?_
    refine xo_asg rfl rfl rfl ?_
    with_reducible refine xo_nil ?_
    with_reducible repeat (first | refine xq_then ?_ | refine xq_blockN ?_ | refine xq_scopeN ?_)
    with_reducible repeat refine xc_seq ?_
    with_reducible refine xc_ret ?_
    with_reducible repeat (first | refine xq_thenR ?_ | refine xq_blockR ?_ | refine xq_scopeR ?_)
    exact xq_ret1 rfl rfl fun w' hw => ⟨rfl, hw.kx.below⟩
theorem pieces1_enters : ∀ args w, (callFunc 45 args).run Tryd.prog w = .ok (.enter 45 args) w := enters_of Tryd.func45 (by kernel_rfl) rfl
theorem containsFn_enters : ∀ args w, (callFunc 44 args).run Tryd.prog w = .ok (.enter 44 args) w := enters_of Tryd.func44 (by kernel_rfl) rfl
theorem take_any {α : Type} (p : α → Bool) (xs : List α) (z : α) (k : Nat) (hk : k < xs.length) : (xs.take (k + 1)).any p = ((xs.take k).any p || p (xs.getD k z)) := by
  rw [List.take_succ_eq_append_getElem hk, List.any_append]
  simp [List.getD_eq_getElem?_getD, List.getElem?_eq_getElem hk]
set_option maxHeartbeats 16000000 in
theorem pieces_calls (A B : Option Addr) (c c' : Nat) (r : List RecT) (m : List MovT) (id : Int) (w : World) (hr : Kd.C recK w A r.length r) (hm : Kd.C movK w B m.length m) (hk : Bytes r) (hkm : BytesM m) (hglob : GlobOK w) :
    Calls Tryd.prog 13 #[.slice A r.length c, .slice B m.length c', .int .i64 id] w fun e w' => e = .returned (.tuple #[.agg (stV (piecesR r m id)).toArray, .int .i64 (piecesC r m id)]) ∧ Below w.heap.size w w' := by
  have hn := hr.2.1
  refine x_calls (X := XNone) Tryd.func13 rfl rfl rfl ?_
  with_reducible repeat refine xc_seq ?_
  with_reducible refine xc_region ?_
  refine xo_box rfl rfl rfl rfl (fun b5 => ?_)
  refine xo_alloc T_ rfl rfl rfl rfl (fun b6 => ?_)
  refine xo_asg rfl rfl rfl ?_
  with_reducible refine xo_nil ?_
  with_reducible repeat (first | refine xq_then ?_ | refine xq_blockN ?_ | refine xq_scopeN ?_)
  with_reducible repeat refine xc_seq ?_
  with_reducible refine xc_region ?_
  refine xo_mv rfl rfl rfl ?_
  refine xo_callB (fs := []) (cs := []) rfl rfl rfl recorded_enters rfl (fun w1 hw1 => recorded_calls A c r w1 (Kd.C_below hr hw1.kx.below) hk) ?_
  refine xo_notOp rfl rfl rfl ?_
  with_reducible refine xo_nil ?_
  with_reducible repeat (first | refine xq_then ?_ | refine xq_blockN ?_ | refine xq_scopeN ?_)
  with_reducible repeat refine xc_seq ?_
  refine xc_cond rfl (fun hrec => ?_) (fun hrec => ?_)
  · simp only [Bool.not_eq_true'] at hrec
    have e1 : piecesC r m id = 80 := by rw [piecesC, hrec]; rfl
    have e2 : piecesR r m id = st0 := by rw [piecesR, e1]; rfl
    with_reducible repeat refine xc_seq ?_
    with_reducible refine xc_region ?_
    refine xo_build TB_ rfl rfl rfl rfl rfl ?_
    refine xo_store T_ rfl rfl rfl rfl (by repeat (first | exact List.Mem.head _ | apply List.Mem.tail | apply List.mem_append_right)) rfl rfl rfl rfl (by repeat (first | exact Upd.head | apply Upd.tail | apply Upd.app)) rfl ?_
    refine xo_asg rfl rfl rfl ?_
    with_reducible refine xo_nil ?_
    with_reducible repeat (first | refine xq_then ?_ | refine xq_blockN ?_ | refine xq_scopeN ?_)
    with_reducible repeat refine xc_seq ?_
    with_reducible refine xc_ret ?_
    with_reducible repeat (first | refine xq_thenR ?_ | refine xq_blockR ?_ | refine xq_scopeR ?_)
    exact xq_retC1 T_ rfl rfl rfl rfl (by repeat (first | exact List.Mem.head _ | apply List.Mem.tail | apply List.mem_append_right)) rfl fun w' hw => ⟨by rw [e1, e2]; rfl, hw.kx.below⟩
  simp only [Bool.not_eq_false'] at hrec
  have hs := sorted_of hrec
  have hlen := recorded_len hrec
  with_reducible refine xc_skip ?_
  with_reducible repeat (first | refine xq_then ?_ | refine xq_blockN ?_ | refine xq_scopeN ?_)
  cases hcf : countF r m
  · have e1 : piecesC r m id = 82 := by rw [piecesC, hrec, hcf]; rfl
    have e2 : piecesR r m id = st0 := by rw [piecesR, e1]; rfl
    with_reducible repeat refine xc_seq ?_
    with_reducible refine xc_region ?_
    refine xo_mv rfl rfl rfl ?_
    refine xo_mv rfl rfl rfl ?_
    refine xo_call (fs := []) (cs := []) rfl rfl rfl count_enters rfl (fun w1 hw1 => (count_calls A B c c' r m w1 (Kd.C_below hr hw1.kx.below) (Kd.C_below hm hw1.kx.below) hkm hs (by omega) (hglob.below hw1.kx.below)).mono ?_)
    rintro e w2 (⟨_, rfl, hb⟩ | ⟨h, _⟩)
    rotate_left
    · rw [hcf] at h; cases h
    refine ⟨_, _, rfl, hw1.below hb, ?_⟩
    clear hb hw1
    refine xo_mv rfl rfl rfl ?_
    refine xo_ext rfl rfl rfl rfl ?_
    refine xo_ext rfl rfl rfl rfl ?_
    refine xo_asg rfl rfl rfl ?_
    refine xo_asg rfl rfl rfl ?_
    with_reducible refine xo_nil ?_
    with_reducible repeat (first | refine xq_then ?_ | refine xq_blockN ?_ | refine xq_scopeN ?_)
    with_reducible repeat refine xc_seq ?_
    with_reducible refine xc_block ?_
    with_reducible repeat refine xc_seq ?_
    with_reducible refine xc_region ?_
    refine xo_mv rfl rfl rfl ?_
    refine xo_notOp rfl rfl rfl ?_
    refine xo_asg rfl rfl rfl ?_
    with_reducible refine xo_nil ?_
    with_reducible repeat (first | refine xq_then ?_ | refine xq_blockN ?_ | refine xq_scopeN ?_)
    with_reducible repeat refine xc_seq ?_
    refine xc_condT rfl ?_
    with_reducible repeat refine xc_seq ?_
    with_reducible refine xc_region ?_
    refine xo_build TB_ rfl rfl rfl rfl rfl ?_
    refine xo_store T_ rfl rfl rfl rfl (by repeat (first | exact List.Mem.head _ | apply List.Mem.tail | apply List.mem_append_right)) rfl rfl rfl rfl (by repeat (first | exact Upd.head | apply Upd.tail | apply Upd.app)) rfl ?_
    refine xo_asg rfl rfl rfl ?_
    with_reducible refine xo_nil ?_
    with_reducible repeat (first | refine xq_then ?_ | refine xq_blockN ?_ | refine xq_scopeN ?_)
    with_reducible repeat refine xc_seq ?_
    with_reducible refine xc_ret ?_
    with_reducible repeat (first | refine xq_thenR ?_ | refine xq_blockR ?_ | refine xq_scopeR ?_)
    exact xq_retC1 T_ rfl rfl rfl rfl (by repeat (first | exact List.Mem.head _ | apply List.Mem.tail | apply List.mem_append_right)) rfl fun w' hw => ⟨by rw [e1, e2]; rfl, hw.kx.below⟩
  with_reducible repeat refine xc_seq ?_
  with_reducible refine xc_region ?_
  refine xo_mv rfl rfl rfl ?_
  refine xo_mv rfl rfl rfl ?_
  refine xo_call (fs := []) (cs := []) rfl rfl rfl count_enters rfl (fun w1 hw1 => (count_calls A B c c' r m w1 (Kd.C_below hr hw1.kx.below) (Kd.C_below hm hw1.kx.below) hkm hs (by omega) (hglob.below hw1.kx.below)).mono ?_)
  rintro e w2 (⟨h, _⟩ | ⟨_, M, L, rfl, hL, hz⟩)
  · rw [hcf] at h; cases h
  refine ⟨_, _, rfl, hw1.join hz (fun e he => (List.mem_cons.1 he).elim (fun q => by rw [q]) (stH_true e)), ?_⟩
  clear hz hw1
  refine xo_mv rfl rfl rfl ?_
  refine xo_ext rfl rfl rfl rfl ?_
  refine xo_ext rfl rfl rfl rfl ?_
  refine xo_asg rfl rfl rfl ?_
  refine xo_asg rfl rfl rfl ?_
  with_reducible refine xo_nil ?_
  with_reducible repeat (first | refine xq_then ?_ | refine xq_blockN ?_ | refine xq_scopeN ?_)
  with_reducible repeat refine xc_seq ?_
  with_reducible refine xc_block ?_
  with_reducible repeat refine xc_seq ?_
  with_reducible refine xc_region ?_
  refine xo_mv rfl rfl rfl ?_
  refine xo_notOp rfl rfl rfl ?_
  refine xo_asg rfl rfl rfl ?_
  with_reducible refine xo_nil ?_
  with_reducible repeat (first | refine xq_then ?_ | refine xq_blockN ?_ | refine xq_scopeN ?_)
  with_reducible repeat refine xc_seq ?_
  refine xc_condF rfl ?_
  with_reducible repeat refine xc_seq ?_
  with_reducible refine xc_region ?_
  refine xo_mv rfl rfl rfl ?_
  refine xo_load0 T_ rfl rfl rfl (by repeat (first | exact List.Mem.head _ | exact List.mem_append_left _ (List.Mem.head _) | apply List.mem_append_right | apply List.Mem.tail)) rfl rfl ?_
  refine xo_callB (fs := []) (cs := []) rfl rfl rfl known_enters rfl (fun w1 hw1 => known_calls A c r _ w1 (Kd.C_below hr hw1.kx.below)) ?_
  refine xo_notOp rfl rfl rfl ?_
  refine xo_asg rfl rfl rfl ?_
  with_reducible refine xo_nil ?_
  with_reducible repeat (first | refine xq_then ?_ | refine xq_blockN ?_ | refine xq_scopeN ?_)
  with_reducible repeat refine xc_seq ?_
  refine xc_cond rfl (fun hkn => ?_) (fun hkn => ?_)
  · simp only [Bool.not_eq_true'] at hkn
    have e1 : piecesC r m id = 6 := by rw [piecesC, hrec, hcf, hkn]; rfl
    have e2 : piecesR r m id = st0 := by rw [piecesR, e1]; rfl
    with_reducible repeat refine xc_seq ?_
    with_reducible refine xc_region ?_
    refine xo_build TB_ rfl rfl rfl rfl rfl ?_
    refine xo_store T_ rfl rfl rfl rfl (by repeat (first | exact List.Mem.head _ | exact List.mem_append_left _ (List.Mem.head _) | apply List.mem_append_right | apply List.Mem.tail)) rfl rfl rfl rfl (Upd.tail (Upd.app (by repeat (first | exact Upd.head | apply Upd.tail | apply Upd.app)) _)) rfl ?_
    refine xo_asg rfl rfl rfl ?_
    with_reducible refine xo_nil ?_
    with_reducible repeat (first | refine xq_then ?_ | refine xq_blockN ?_ | refine xq_scopeN ?_)
    with_reducible repeat refine xc_seq ?_
    with_reducible refine xc_ret ?_
    with_reducible repeat (first | refine xq_thenR ?_ | refine xq_blockR ?_ | refine xq_scopeR ?_)
    exact xq_retC1 T_ rfl rfl rfl rfl (by repeat (first | exact List.Mem.head _ | exact List.mem_append_left _ (List.Mem.head _) | apply List.mem_append_right | apply List.Mem.tail)) rfl fun w' hw => ⟨by rw [e1, e2]; rfl, hw.kx.below⟩
  simp only [Bool.not_eq_false'] at hkn
  have e1 : piecesC r m id = 0 := by rw [piecesC, hrec, hcf, hkn]; rfl
  have e2 : piecesR r m id = piecesL m id [] st0 r := by rw [piecesR, if_pos e1]
  with_reducible refine xc_skip ?_
  with_reducible repeat (first | refine xq_then ?_ | refine xq_blockN ?_ | refine xq_scopeN ?_)
  with_reducible repeat refine xc_seq ?_
  with_reducible refine xc_region ?_
  refine xo_mkm rfl rfl (fun b39 => ?_)
  refine xo_alloc T_ rfl rfl rfl rfl (fun b10 => ?_)
  refine xo_store T_ rfl rfl rfl rfl (by repeat (first | exact List.Mem.head _ | apply List.Mem.tail | apply List.mem_append_right)) rfl rfl rfl rfl (by repeat (first | exact Upd.head | apply Upd.tail | apply Upd.app)) rfl ?_
  with_reducible refine xo_nil ?_
  with_reducible repeat (first | refine xq_then ?_ | refine xq_blockN ?_ | refine xq_scopeN ?_)
  with_reducible repeat refine xc_seq ?_
  with_reducible refine xc_region ?_
  refine xo_alloc T_ rfl rfl rfl rfl (fun b11 => ?_)
  with_reducible refine xo_nil ?_
  with_reducible repeat (first | refine xq_then ?_ | refine xq_blockN ?_ | refine xq_scopeN ?_)
  with_reducible repeat refine xc_seq ?_
  with_reducible refine xc_region ?_
  refine xo_mv rfl rfl rfl ?_
  refine xo_len T_ rfl rfl rfl rfl ?_
  refine xo_mv rfl rfl rfl ?_
  with_reducible refine xo_nil ?_
  with_reducible repeat (first | refine xq_then ?_ | refine xq_blockN ?_ | refine xq_scopeN ?_)
  with_reducible repeat refine xc_seq ?_
  with_reducible refine xc_block ?_
  refine xc_loop (γ := Nat × List Int × StT) (fun q => q.1 ≤ r.length ∧ StB q.2.2 (4000000 * (q.1 : Int)) ∧ piecesL m id [] st0 r = piecesL m id q.2.1 q.2.2 (r.drop q.1)) (fun q => [(0, .slice A r.length c), (5, .pointer (some ⟨b5, 0, none⟩)), (6, .pointer (some ⟨b6, 0, none⟩)), (8, .map (some M)), (10, .pointer (some ⟨b10, 0, none⟩)), (11, .pointer (some ⟨b11, 0, none⟩)), (40, .slice A r.length c), (41, .int .i64 (r.length : Int)), (42, .int .i64 (q.1 : Int))])
    (fun q => (b11, true, cel (stV q.2.2) 27) :: (b10, true, cel [.map (some b39)] 62) :: (b39, true, hmap (setV q.2.1)) :: (M, true, hmap (stM L)) :: (stH (storeF m) L ++ [(b6, true, cel (stV st0) 27), (b5, true, cel [.int .i64 id] 3)])) (fun q => r.length - q.1) (0, [], st0) ⟨Nat.zero_le _, by unfold StB st0; simp, rfl⟩ ⟨rfl, rfl, rfl, rfl, rfl, rfl, rfl, rfl, rfl, trivial⟩ (by repeat (first | exact List.Sublist.refl _ | apply List.Sublist.cons_cons | apply List.Sublist.cons | exact List.nil_sublist _)) ?_
  rintro ⟨k, come, sum⟩ ⟨hk1, hsB, hpl⟩
  simp only at hk1 hsB hpl ⊢
  with_reducible repeat refine xc_seq ?_
  with_reducible refine xc_region ?_
  refine xo_lss rfl rfl rfl rfl ?_
  with_reducible refine xo_nil ?_
  with_reducible repeat (first | refine xq_then ?_ | refine xq_blockN ?_ | refine xq_scopeN ?_)
  with_reducible repeat refine xc_seq ?_
  refine xc_cond rfl (fun h => ?_) (fun h => ?_)
  · have hlt : k < r.length := by have := of_decide_eq_true h; omega
    obtain ⟨ad, A2, c2, rfl, r1, hc2, hw2⟩ := rec_at hr k hlt
    have hbm := batch_mem hs hlt
    have hn3 := hw2.2.1
    rw [drop_at r zRec k hlt, piecesL] at hpl
    generalize r.getD k zRec = x at *
    with_reducible refine xc_skip ?_
    with_reducible repeat (first | refine xq_then ?_ | refine xq_blockN ?_ | refine xq_scopeN ?_)
    with_reducible repeat refine xc_seq ?_
    with_reducible refine xc_block ?_
    with_reducible repeat refine xc_seq ?_
    with_reducible refine xc_region ?_
    refine xo_ia T_ rfl rfl rfl rfl rfl ⟨by omega, by omega⟩ rfl ?_
    refine xo_loadRN T_ rfl rfl rfl (by assumption) rfl rfl ?_
    refine xo_alloc T_ rfl rfl rfl rfl (fun b13 => ?_)
    refine xo_store T_ rfl rfl rfl rfl (by repeat (first | exact List.Mem.head _ | apply List.Mem.tail | apply List.mem_append_right)) rfl rfl rfl rfl (by repeat (first | exact Upd.head | apply Upd.tail | apply Upd.app)) rfl ?_
    with_reducible refine xo_nil ?_
    with_reducible repeat (first | refine xq_then ?_ | refine xq_blockN ?_ | refine xq_scopeN ?_)
    with_reducible repeat refine xc_seq ?_
    with_reducible refine xc_region ?_
    refine xo_fa T_ rfl rfl rfl rfl rfl ?_
    refine xo_load0 T_ rfl rfl rfl (by repeat (first | exact List.Mem.head _ | apply List.Mem.tail | apply List.mem_append_right)) rfl rfl ?_
    refine xo_load0 T_ rfl rfl rfl (by repeat (first | exact List.Mem.head _ | exact List.mem_append_left _ (List.Mem.head _) | apply List.mem_append_right | apply List.Mem.tail)) rfl rfl ?_
    refine xo_eql rfl rfl rfl rfl ?_
    refine xo_asg rfl rfl rfl ?_
    with_reducible refine xo_nil ?_
    with_reducible repeat (first | refine xq_then ?_ | refine xq_blockN ?_ | refine xq_scopeN ?_)
    with_reducible repeat refine xc_seq ?_
    with_reducible refine xc_region ?_
    refine xo_fa T_ rfl rfl rfl rfl rfl ?_
    refine xo_load0 T_ rfl rfl rfl (by repeat (first | exact List.Mem.head _ | apply List.Mem.tail | apply List.mem_append_right)) rfl rfl ?_
    refine xo_len T_ rfl rfl rfl rfl ?_
    refine xo_mv rfl rfl rfl ?_
    with_reducible refine xo_nil ?_
    with_reducible repeat (first | refine xq_then ?_ | refine xq_blockN ?_ | refine xq_scopeN ?_)
    with_reducible repeat refine xc_seq ?_
    with_reducible refine xc_block ?_
    refine xc_loop (γ := Nat × Bool) (fun q => q.1 ≤ x.f2.length ∧ q.2 = (decide (x.f0 = id) || (x.f2.take q.1).any (wayP id come))) (fun q => [(0, .slice (some ad) r.length c), (5, .pointer (some ⟨b5, 0, none⟩)), (6, .pointer (some ⟨b6, 0, none⟩)), (8, .map (some M)), (10, .pointer (some ⟨b10, 0, none⟩)), (11, .pointer (some ⟨b11, 0, none⟩)), (40, .slice (some ad) r.length c), (41, .int .i64 (r.length : Int)), (42, .int .i64 (k : Int)), (13, .pointer (some ⟨b13, 0, none⟩)), (14, .bool q.2), (51, .slice A2 x.f2.length c2), (52, .int .i64 (x.f2.length : Int)), (53, .int .i64 (q.1 : Int))])
      (fun _ => (b13, true, cel (recV x A2 c2) 50) :: (b11, true, cel (stV sum) 27) :: (b10, true, cel [.map (some b39)] 62) :: (b39, true, hmap (setV come)) :: (M, true, hmap (stM L)) :: (stH (storeF m) L ++ [(b6, true, cel (stV st0) 27), (b5, true, cel [.int .i64 id] 3)])) (fun q => x.f2.length - q.1) (0, decide (x.f0 = id)) ⟨Nat.zero_le _, by simp⟩ ⟨rfl, rfl, rfl, rfl, rfl, rfl, rfl, rfl, rfl, rfl, rfl, rfl, rfl, rfl, trivial⟩ (List.Sublist.refl _) ?_
    rintro ⟨j, from_⟩ ⟨hj1, hfr⟩
    simp only at hj1 hfr ⊢
    with_reducible repeat refine xc_seq ?_
    with_reducible refine xc_region ?_
    refine xo_lss rfl rfl rfl rfl ?_
    with_reducible refine xo_nil ?_
    with_reducible repeat (first | refine xq_then ?_ | refine xq_blockN ?_ | refine xq_scopeN ?_)
    with_reducible repeat refine xc_seq ?_
    refine xc_cond rfl (fun h => ?_) (fun h => ?_)
    · have hjl : j < x.f2.length := by have := of_decide_eq_true h; omega
      obtain ⟨ad3, A3, c3, rfl, r3, hc3, hw3⟩ := way_at hw2 j hjl
      have hta := take_any (wayP id come) x.f2 [] j hjl
      generalize x.f2.getD j [] = way at *
      with_reducible refine xc_skip ?_
      with_reducible repeat (first | refine xq_then ?_ | refine xq_blockN ?_ | refine xq_scopeN ?_)
      with_reducible repeat refine xc_seq ?_
      with_reducible refine xc_block ?_
      with_reducible repeat refine xc_seq ?_
      with_reducible refine xc_region ?_
      refine xo_ia T_ rfl rfl rfl rfl rfl ⟨by omega, by omega⟩ rfl ?_
      refine xo_loadR0 T_ rfl rfl rfl (by first | assumption | exact RO.fld (by assumption) rfl) rfl ?_
      refine xo_asg rfl rfl rfl ?_
      with_reducible refine xo_nil ?_
      with_reducible repeat (first | refine xq_then ?_ | refine xq_blockN ?_ | refine xq_scopeN ?_)
      cases from_
      all_goals
        with_reducible repeat refine xc_seq ?_
        with_reducible refine xc_region ?_
        refine xo_mv rfl rfl rfl ?_
        refine xo_mv rfl rfl rfl ?_
        first
          | refine xo_not rfl rfl ?_
          | (refine xo_mv rfl rfl rfl ?_)
        first
          | refine xo_not rfl rfl ?_
          | (refine xo_mkf rfl rfl rfl rfl ?_)
        first
          | refine xo_not rfl rfl ?_
          | (refine xo_callB (fs := []) (cs := []) rfl rfl rfl containsFn_enters rfl (fun w1 hw1 => containsFunc_calls (fun n => decide (n = id) || decide (n ∈ come)) 45 [.pointer (some ⟨b5, 0, none⟩), .pointer (some ⟨b10, 0, none⟩)] pieces1_enters A3 c3 way w1 (Kd.C_below hw3 hw1.kx.below) (fun y W hW => pieces1_calls y id come b5 b10 b39 W ((hw1.below hW).cell (by repeat (first | exact List.Mem.head _ | exact List.mem_append_left _ (List.Mem.head _) | apply List.mem_append_right | apply List.Mem.tail)) 0 rfl) ((hw1.below hW).cell (by repeat (first | exact List.Mem.head _ | apply List.Mem.tail | apply List.mem_append_right)) 0 rfl) ((hw1.below hW).imap (wr := true) (by repeat (first | exact List.Mem.head _ | apply List.Mem.tail | apply List.mem_append_right))))) ?_)
        first | refine xo_pickT rfl rfl rfl rfl ?_ | refine xo_pickF rfl rfl rfl rfl ?_
        refine xo_asg rfl rfl rfl ?_
        with_reducible refine xo_nil ?_
        with_reducible repeat (first | refine xq_then ?_ | refine xq_blockN ?_ | refine xq_scopeN ?_)
        with_reducible repeat refine xc_seq ?_
        with_reducible refine xc_region ?_
        refine xo_add rfl rfl rfl (by omega) rfl ?_
        refine xo_mv rfl rfl rfl ?_
        with_reducible refine xo_nil ?_
        with_reducible repeat (first | refine xq_then ?_ | refine xq_blockN ?_ | refine xq_scopeN ?_)
      · exact xq_again _ _ _ _ _ (j + 1, wayP id come way) ⟨by omega, by simp only; rw [hta, ← Bool.or_assoc, ← hfr]; rfl⟩ (by first | omega | (simp only; omega)) ⟨rfl, rfl, rfl, rfl, rfl, rfl, rfl, rfl, rfl, rfl, rfl, rfl, rfl, rfl, trivial⟩ (List.Sublist.refl _)
      · exact xq_again _ _ _ _ _ (j + 1, true) ⟨by omega, by simp only; rw [hta, ← Bool.or_assoc, ← hfr]; rfl⟩ (by first | omega | (simp only; omega)) ⟨rfl, rfl, rfl, rfl, rfl, rfl, rfl, rfl, rfl, rfl, rfl, rfl, rfl, rfl, trivial⟩ (List.Sublist.refl _)
    have hgej : ¬ j < x.f2.length := by have := of_decide_eq_false h; omega
    rw [List.take_of_length_le (by omega)] at hfr
    have hfr : from_ = fromF id come x := hfr
    rw [← hfr, ← hbm, ← hL] at hpl
    with_reducible refine xc_exit ?_
    with_reducible repeat (first | refine xq_blockX ?_ | refine xq_thenE ?_ | refine xq_blockE rfl ?_ | refine xq_scopeE ?_)
    with_reducible repeat (first | refine xq_then ?_ | refine xq_blockN ?_ | refine xq_scopeN ?_)
    rcases imGet_stM (L := L) (id := x.f0) with ⟨b, hb1, hb2⟩ | ⟨hb1, hb2⟩
    rotate_left
    · with_reducible repeat refine xc_seq ?_
      with_reducible refine xc_region ?_
      refine xo_mv rfl rfl rfl ?_
      refine xo_fa T_ rfl rfl rfl rfl rfl ?_
      refine xo_load0 T_ rfl rfl rfl (by repeat (first | exact List.Mem.head _ | apply List.Mem.tail | apply List.mem_append_right)) rfl rfl ?_
      refine xo_look2 T_ rfl rfl rfl rfl rfl rfl (by repeat (first | exact List.Mem.head _ | apply List.Mem.tail | apply List.mem_append_right)) (by rw [hb2]) (by rw [hb2]) rfl ?_
      refine xo_mv rfl rfl rfl ?_
      refine xo_ext rfl rfl rfl rfl ?_
      refine xo_ext rfl rfl rfl rfl ?_
      refine xo_asg rfl rfl rfl ?_
      refine xo_asg rfl rfl rfl ?_
      with_reducible refine xo_nil ?_
      with_reducible repeat (first | refine xq_then ?_ | refine xq_blockN ?_ | refine xq_scopeN ?_)
      rw [decide_eq_false hb1, Bool.and_false, if_neg (by simp)] at hpl
      cases from_
      all_goals
        with_reducible repeat refine xc_seq ?_
        with_reducible refine xc_region ?_
        refine xo_mv rfl rfl rfl ?_
        refine xo_notOp rfl rfl rfl ?_
        refine xo_mv rfl rfl rfl ?_
        first
          | refine xo_not rfl rfl ?_
          | (refine xo_mv rfl rfl rfl ?_)
        first
          | refine xo_not rfl rfl ?_
          | (refine xo_notOp rfl rfl rfl ?_)
        first | refine xo_pickT rfl rfl rfl rfl ?_ | refine xo_pickF rfl rfl rfl rfl ?_
        with_reducible refine xo_nil ?_
        with_reducible repeat (first | refine xq_then ?_ | refine xq_blockN ?_ | refine xq_scopeN ?_)
        with_reducible repeat refine xc_seq ?_
        refine xc_condT rfl ?_
        with_reducible refine xc_exit ?_
        with_reducible repeat (first | refine xq_blockX ?_ | refine xq_thenE ?_ | refine xq_blockE rfl ?_ | refine xq_scopeE ?_)
        with_reducible repeat (first | refine xq_then ?_ | refine xq_blockN ?_ | refine xq_scopeN ?_)
        with_reducible repeat refine xc_seq ?_
        with_reducible refine xc_region ?_
        refine xo_add rfl rfl rfl (by omega) rfl ?_
        refine xo_mv rfl rfl rfl ?_
        with_reducible refine xo_nil ?_
        with_reducible repeat (first | refine xq_then ?_ | refine xq_blockN ?_ | refine xq_scopeN ?_)
        exact xq_again _ _ _ _ _ (k + 1, come, sum) ⟨hlt, hsB.mono (by simp only; omega), hpl⟩ (by first | omega | (simp only; omega)) ⟨rfl, rfl, rfl, rfl, rfl, rfl, rfl, rfl, rfl, trivial⟩ (by repeat (first | exact List.Sublist.refl _ | apply List.Sublist.cons_cons | apply List.Sublist.cons | exact List.nil_sublist _))
    · with_reducible repeat refine xc_seq ?_
      with_reducible refine xc_region ?_
      refine xo_mv rfl rfl rfl ?_
      refine xo_fa T_ rfl rfl rfl rfl rfl ?_
      refine xo_load0 T_ rfl rfl rfl (by repeat (first | exact List.Mem.head _ | apply List.Mem.tail | apply List.mem_append_right)) rfl rfl ?_
      refine xo_look2 T_ rfl rfl rfl rfl rfl rfl (by repeat (first | exact List.Mem.head _ | apply List.Mem.tail | apply List.mem_append_right)) (by rw [hb2]) (by rw [hb2]) rfl ?_
      refine xo_mv rfl rfl rfl ?_
      refine xo_ext rfl rfl rfl rfl ?_
      refine xo_ext rfl rfl rfl rfl ?_
      refine xo_asg rfl rfl rfl ?_
      refine xo_asg rfl rfl rfl ?_
      with_reducible refine xo_nil ?_
      with_reducible repeat (first | refine xq_then ?_ | refine xq_blockN ?_ | refine xq_scopeN ?_)
      rw [decide_eq_true (List.mem_map.2 ⟨_, hb1, rfl⟩), Bool.and_true] at hpl
      cases from_
      · rw [if_neg (by simp)] at hpl
        with_reducible repeat refine xc_seq ?_
        with_reducible refine xc_region ?_
        refine xo_mv rfl rfl rfl ?_
        refine xo_notOp rfl rfl rfl ?_
        refine xo_mv rfl rfl rfl ?_
        first
          | refine xo_not rfl rfl ?_
          | (refine xo_mv rfl rfl rfl ?_)
        first
          | refine xo_not rfl rfl ?_
          | (refine xo_notOp rfl rfl rfl ?_)
        first | refine xo_pickT rfl rfl rfl rfl ?_ | refine xo_pickF rfl rfl rfl rfl ?_
        with_reducible refine xo_nil ?_
        with_reducible repeat (first | refine xq_then ?_ | refine xq_blockN ?_ | refine xq_scopeN ?_)
        with_reducible repeat refine xc_seq ?_
        refine xc_condT rfl ?_
        with_reducible refine xc_exit ?_
        with_reducible repeat (first | refine xq_blockX ?_ | refine xq_thenE ?_ | refine xq_blockE rfl ?_ | refine xq_scopeE ?_)
        with_reducible repeat (first | refine xq_then ?_ | refine xq_blockN ?_ | refine xq_scopeN ?_)
        with_reducible repeat refine xc_seq ?_
        with_reducible refine xc_region ?_
        refine xo_add rfl rfl rfl (by omega) rfl ?_
        refine xo_mv rfl rfl rfl ?_
        with_reducible refine xo_nil ?_
        with_reducible repeat (first | refine xq_then ?_ | refine xq_blockN ?_ | refine xq_scopeN ?_)
        exact xq_again _ _ _ _ _ (k + 1, come, sum) ⟨hlt, hsB.mono (by simp only; omega), hpl⟩ (by first | omega | (simp only; omega)) ⟨rfl, rfl, rfl, rfl, rfl, rfl, rfl, rfl, rfl, trivial⟩ (by repeat (first | exact List.Sublist.refl _ | apply List.Sublist.cons_cons | apply List.Sublist.cons | exact List.nil_sublist _))
      rw [if_pos rfl] at hpl
      have hB2 := count_B hcf x.f0
      have hsB' := (hsB.add hB2).mono (show 4000000 * (k : Int) + 4000000 ≤ 4000000 * ((k + 1 : Nat) : Int) by omega)
      with_reducible repeat refine xc_seq ?_
      with_reducible refine xc_region ?_
      refine xo_mv rfl rfl rfl ?_
      refine xo_notOp rfl rfl rfl ?_
      refine xo_mv rfl rfl rfl ?_
      first
        | refine xo_not rfl rfl ?_
        | (refine xo_mv rfl rfl rfl ?_)
      first
        | refine xo_not rfl rfl ?_
        | (refine xo_notOp rfl rfl rfl ?_)
      first | refine xo_pickT rfl rfl rfl rfl ?_ | refine xo_pickF rfl rfl rfl rfl ?_
      with_reducible refine xo_nil ?_
      with_reducible repeat (first | refine xq_then ?_ | refine xq_blockN ?_ | refine xq_scopeN ?_)
      with_reducible repeat refine xc_seq ?_
      refine xc_condF rfl ?_
      with_reducible refine xc_skip ?_
      with_reducible repeat (first | refine xq_then ?_ | refine xq_blockN ?_ | refine xq_scopeN ?_)
      with_reducible repeat refine xc_seq ?_
      with_reducible refine xc_region ?_
      refine xo_load0 T_ rfl rfl rfl (by repeat (first | exact List.Mem.head _ | apply List.Mem.tail | apply List.mem_append_right)) rfl rfl ?_
      refine xo_fa T_ rfl rfl rfl rfl rfl ?_
      refine xo_load0 T_ rfl rfl rfl (by repeat (first | exact List.Mem.head _ | apply List.Mem.tail | apply List.mem_append_right)) rfl rfl ?_
      refine xo_sins T_ rfl rfl rfl rfl rfl rfl (by repeat (first | exact List.Mem.head _ | apply List.Mem.tail | apply List.mem_append_right)) (by repeat (first | exact Upd.head | apply Upd.tail | apply Upd.app)) rfl ?_
      with_reducible refine xo_nil ?_
      with_reducible repeat (first | refine xq_then ?_ | refine xq_blockN ?_ | refine xq_scopeN ?_)
      with_reducible repeat refine xc_seq ?_
      with_reducible refine xc_region ?_
      refine xo_mv rfl rfl rfl ?_
      refine xo_nilck rfl rfl rfl ?_
      refine xo_loadN T_ rfl rfl rfl (List.Mem.tail _ (List.Mem.tail _ (List.Mem.tail _ (List.Mem.tail _ (List.Mem.tail _ (List.mem_append_left _ (stH_mem hb1))))))) rfl rfl ?_
      refine xo_build TB_ rfl rfl rfl rfl rfl ?_
      refine xo_neqSt (a := storeF m x.f0) (b := st0) rfl rfl rfl rfl ?_
      with_reducible refine xo_nil ?_
      with_reducible repeat (first | refine xq_then ?_ | refine xq_blockN ?_ | refine xq_scopeN ?_)
      with_reducible repeat refine xc_seq ?_
      refine xc_cond rfl (fun hz => ?_) (fun hz => ?_)
      · unfold StB at hsB hB2
        with_reducible repeat refine xc_seq ?_
        apply xc_drawE (fun g => []) (fun (η0 : Hp) g => match g with | [] => (η0) | a0 :: _ => ((b13, true, cel (recV x A2 c2) 50) :: (b11, true, cel (stV (addS sum (storeF m x.f0))) 27) :: (b10, true, cel [.map (some b39)] 62) :: (b39, true, hmap (setV (insN x.f0 come))) :: (M, true, hmap (stM L)) :: (stH (storeF m) L ++ [(b6, true, cel (stV st0) 27), (b5, true, cel [.int .i64 id] 3)]))) (fun _ => True) [0, 0, 0, 0, 0, 0, 0, 0, 0, 0, 0, 0, 0, 0, 0, 0, 0, 0, 0, 0, 0, 0, 0, 0, 0, 0, 0, 0, 0, 0, 0, 0, 0, 0, 0, 0, 0, 0, 0, 0, 0, 0, 0, 1] [43] [[42, 0, 1, 2, 3, 4, 5, 6, 7, 8, 9, 10, 11, 12, 13, 14, 15, 16, 17, 18, 19, 20, 21, 22, 23, 24, 25, 26, 27, 28, 29, 30, 31, 32, 33, 34, 35, 36, 37, 38, 39, 40, 41, 42]] (by trivial)
        apply SameLen.cons
        apply SameLen.cons
        apply SameLen.cons
        apply SameLen.cons
        apply SameLen.cons
        apply SameLen.cons
        apply SameLen.cons
        apply SameLen.cons
        apply SameLen.cons
        apply SameLen.cons
        apply SameLen.cons
        apply SameLen.cons
        apply SameLen.cons
        apply SameLen.cons
        apply SameLen.cons
        apply SameLen.cons
        apply SameLen.cons
        apply SameLen.cons
        apply SameLen.cons
        apply SameLen.cons
        apply SameLen.cons
        apply SameLen.cons
        apply SameLen.cons
        apply SameLen.cons
        apply SameLen.cons
        apply SameLen.cons
        apply SameLen.cons
        apply SameLen.cons
        apply SameLen.cons
        apply SameLen.cons
        apply SameLen.cons
        apply SameLen.cons
        apply SameLen.cons
        apply SameLen.cons
        apply SameLen.cons
        apply SameLen.cons
        apply SameLen.cons
        apply SameLen.cons
        apply SameLen.cons
        apply SameLen.cons
        apply SameLen.cons
        apply SameLen.cons
        apply SameLen.cons
        apply SameLen.cons
        exact SameLen.nil
        rotate_left 44
        case hH0 => rfl
        case hmix => exact T_.mixed
        case hbind => rfl
        case hdeps => rfl
        case hdist => rfl
        case hfresh => rfl
        case hE => rfl
        case hEn => decide
        · refine DrawE.pure 0 0 rfl (.inr (by decide)) (fun L g hg hd => Nat.zero_le _) (fun g hlo hhi hF τ => ?_) ?_
          · rcases g with _ | ⟨a0, _ | ⟨a1, g⟩⟩
            all_goals first
              | (exfalso; simp only [List.length_cons, List.length_nil] at hlo hhi; omega)
              | (refine ⟨_, rfl, ?_⟩
                 refine xo_fa T_ rfl rfl rfl rfl rfl ?_
                 exact xo_fin rfl)
          refine DrawE.pure 0 0 rfl (.inr (by decide)) (fun L g hg hd => Nat.zero_le _) (fun g hlo hhi hF τ => ?_) ?_
          · rcases g with _ | ⟨a0, _ | ⟨a1, g⟩⟩
            all_goals first
              | (exfalso; simp only [List.length_cons, List.length_nil] at hlo hhi; omega)
              | (refine ⟨_, rfl, ?_⟩
                 refine xo_load0 T_ rfl rfl rfl (by repeat (first | exact List.Mem.head _ | apply List.Mem.tail | apply List.mem_append_right)) rfl rfl ?_
                 exact xo_fin rfl)
          refine DrawE.pure 0 0 rfl (.inr (by decide)) (fun L g hg hd => Nat.zero_le _) (fun g hlo hhi hF τ => ?_) ?_
          · rcases g with _ | ⟨a0, _ | ⟨a1, g⟩⟩
            all_goals first
              | (exfalso; simp only [List.length_cons, List.length_nil] at hlo hhi; omega)
              | (refine ⟨_, rfl, ?_⟩
                 refine xo_mv rfl rfl rfl ?_
                 exact xo_fin rfl)
          refine DrawE.pure 0 0 rfl (.inr (by decide)) (fun L g hg hd => Nat.zero_le _) (fun g hlo hhi hF τ => ?_) ?_
          · rcases g with _ | ⟨a0, _ | ⟨a1, g⟩⟩
            all_goals first
              | (exfalso; simp only [List.length_cons, List.length_nil] at hlo hhi; omega)
              | (refine ⟨_, rfl, ?_⟩
                 refine xo_nilck rfl rfl rfl ?_
                 exact xo_fin rfl)
          refine DrawE.pure 0 0 rfl (.inr (by decide)) (fun L g hg hd => Nat.zero_le _) (fun g hlo hhi hF τ => ?_) ?_
          · rcases g with _ | ⟨a0, _ | ⟨a1, g⟩⟩
            all_goals first
              | (exfalso; simp only [List.length_cons, List.length_nil] at hlo hhi; omega)
              | (refine ⟨_, rfl, ?_⟩
                 refine xo_fa T_ rfl rfl rfl rfl rfl ?_
                 exact xo_fin rfl)
          refine DrawE.pure 0 0 rfl (.inr (by decide)) (fun L g hg hd => Nat.zero_le _) (fun g hlo hhi hF τ => ?_) ?_
          · rcases g with _ | ⟨a0, _ | ⟨a1, g⟩⟩
            all_goals first
              | (exfalso; simp only [List.length_cons, List.length_nil] at hlo hhi; omega)
              | (refine ⟨_, rfl, ?_⟩
                 refine xo_load0 T_ rfl rfl rfl (List.Mem.tail _ (List.Mem.tail _ (List.Mem.tail _ (List.Mem.tail _ (List.Mem.tail _ (List.mem_append_left _ (stH_mem hb1))))))) rfl rfl ?_
                 exact xo_fin rfl)
          refine DrawE.pure 0 0 rfl (.inr (by decide)) (fun L g hg hd => Nat.zero_le _) (fun g hlo hhi hF τ => ?_) ?_
          · rcases g with _ | ⟨a0, _ | ⟨a1, g⟩⟩
            all_goals first
              | (exfalso; simp only [List.length_cons, List.length_nil] at hlo hhi; omega)
              | (refine ⟨_, rfl, ?_⟩
                 refine xo_add rfl rfl rfl (by omega) rfl ?_
                 exact xo_fin rfl)
          refine DrawE.pure 0 0 rfl (.inr (by decide)) (fun L g hg hd => Nat.zero_le _) (fun g hlo hhi hF τ => ?_) ?_
          · rcases g with _ | ⟨a0, _ | ⟨a1, g⟩⟩
            all_goals first
              | (exfalso; simp only [List.length_cons, List.length_nil] at hlo hhi; omega)
              | (refine ⟨_, rfl, ?_⟩
                 refine xo_fa T_ rfl rfl rfl rfl rfl ?_
                 exact xo_fin rfl)
          refine DrawE.pure 0 0 rfl (.inr (by decide)) (fun L g hg hd => Nat.zero_le _) (fun g hlo hhi hF τ => ?_) ?_
          · rcases g with _ | ⟨a0, _ | ⟨a1, g⟩⟩
            all_goals first
              | (exfalso; simp only [List.length_cons, List.length_nil] at hlo hhi; omega)
              | (refine ⟨_, rfl, ?_⟩
                 refine xo_load0 T_ rfl rfl rfl (by repeat (first | exact List.Mem.head _ | apply List.Mem.tail | apply List.mem_append_right)) rfl rfl ?_
                 exact xo_fin rfl)
          refine DrawE.pure 0 0 rfl (.inr (by decide)) (fun L g hg hd => Nat.zero_le _) (fun g hlo hhi hF τ => ?_) ?_
          · rcases g with _ | ⟨a0, _ | ⟨a1, g⟩⟩
            all_goals first
              | (exfalso; simp only [List.length_cons, List.length_nil] at hlo hhi; omega)
              | (refine ⟨_, rfl, ?_⟩
                 refine xo_mv rfl rfl rfl ?_
                 exact xo_fin rfl)
          refine DrawE.pure 0 0 rfl (.inr (by decide)) (fun L g hg hd => Nat.zero_le _) (fun g hlo hhi hF τ => ?_) ?_
          · rcases g with _ | ⟨a0, _ | ⟨a1, g⟩⟩
            all_goals first
              | (exfalso; simp only [List.length_cons, List.length_nil] at hlo hhi; omega)
              | (refine ⟨_, rfl, ?_⟩
                 refine xo_nilck rfl rfl rfl ?_
                 exact xo_fin rfl)
          refine DrawE.pure 0 0 rfl (.inr (by decide)) (fun L g hg hd => Nat.zero_le _) (fun g hlo hhi hF τ => ?_) ?_
          · rcases g with _ | ⟨a0, _ | ⟨a1, g⟩⟩
            all_goals first
              | (exfalso; simp only [List.length_cons, List.length_nil] at hlo hhi; omega)
              | (refine ⟨_, rfl, ?_⟩
                 refine xo_fa T_ rfl rfl rfl rfl rfl ?_
                 exact xo_fin rfl)
          refine DrawE.pure 0 0 rfl (.inr (by decide)) (fun L g hg hd => Nat.zero_le _) (fun g hlo hhi hF τ => ?_) ?_
          · rcases g with _ | ⟨a0, _ | ⟨a1, g⟩⟩
            all_goals first
              | (exfalso; simp only [List.length_cons, List.length_nil] at hlo hhi; omega)
              | (refine ⟨_, rfl, ?_⟩
                 refine xo_load0 T_ rfl rfl rfl (List.Mem.tail _ (List.Mem.tail _ (List.Mem.tail _ (List.Mem.tail _ (List.Mem.tail _ (List.mem_append_left _ (stH_mem hb1))))))) rfl rfl ?_
                 exact xo_fin rfl)
          refine DrawE.pure 0 0 rfl (.inr (by decide)) (fun L g hg hd => Nat.zero_le _) (fun g hlo hhi hF τ => ?_) ?_
          · rcases g with _ | ⟨a0, _ | ⟨a1, g⟩⟩
            all_goals first
              | (exfalso; simp only [List.length_cons, List.length_nil] at hlo hhi; omega)
              | (refine ⟨_, rfl, ?_⟩
                 refine xo_add rfl rfl rfl (by omega) rfl ?_
                 exact xo_fin rfl)
          refine DrawE.pure 0 0 rfl (.inr (by decide)) (fun L g hg hd => Nat.zero_le _) (fun g hlo hhi hF τ => ?_) ?_
          · rcases g with _ | ⟨a0, _ | ⟨a1, g⟩⟩
            all_goals first
              | (exfalso; simp only [List.length_cons, List.length_nil] at hlo hhi; omega)
              | (refine ⟨_, rfl, ?_⟩
                 refine xo_fa T_ rfl rfl rfl rfl rfl ?_
                 exact xo_fin rfl)
          refine DrawE.pure 0 0 rfl (.inr (by decide)) (fun L g hg hd => Nat.zero_le _) (fun g hlo hhi hF τ => ?_) ?_
          · rcases g with _ | ⟨a0, _ | ⟨a1, g⟩⟩
            all_goals first
              | (exfalso; simp only [List.length_cons, List.length_nil] at hlo hhi; omega)
              | (refine ⟨_, rfl, ?_⟩
                 refine xo_load0 T_ rfl rfl rfl (by repeat (first | exact List.Mem.head _ | apply List.Mem.tail | apply List.mem_append_right)) rfl rfl ?_
                 exact xo_fin rfl)
          refine DrawE.pure 0 0 rfl (.inr (by decide)) (fun L g hg hd => Nat.zero_le _) (fun g hlo hhi hF τ => ?_) ?_
          · rcases g with _ | ⟨a0, _ | ⟨a1, g⟩⟩
            all_goals first
              | (exfalso; simp only [List.length_cons, List.length_nil] at hlo hhi; omega)
              | (refine ⟨_, rfl, ?_⟩
                 refine xo_mv rfl rfl rfl ?_
                 exact xo_fin rfl)
          refine DrawE.pure 0 0 rfl (.inr (by decide)) (fun L g hg hd => Nat.zero_le _) (fun g hlo hhi hF τ => ?_) ?_
          · rcases g with _ | ⟨a0, _ | ⟨a1, g⟩⟩
            all_goals first
              | (exfalso; simp only [List.length_cons, List.length_nil] at hlo hhi; omega)
              | (refine ⟨_, rfl, ?_⟩
                 refine xo_nilck rfl rfl rfl ?_
                 exact xo_fin rfl)
          refine DrawE.pure 0 0 rfl (.inr (by decide)) (fun L g hg hd => Nat.zero_le _) (fun g hlo hhi hF τ => ?_) ?_
          · rcases g with _ | ⟨a0, _ | ⟨a1, g⟩⟩
            all_goals first
              | (exfalso; simp only [List.length_cons, List.length_nil] at hlo hhi; omega)
              | (refine ⟨_, rfl, ?_⟩
                 refine xo_fa T_ rfl rfl rfl rfl rfl ?_
                 exact xo_fin rfl)
          refine DrawE.pure 0 0 rfl (.inr (by decide)) (fun L g hg hd => Nat.zero_le _) (fun g hlo hhi hF τ => ?_) ?_
          · rcases g with _ | ⟨a0, _ | ⟨a1, g⟩⟩
            all_goals first
              | (exfalso; simp only [List.length_cons, List.length_nil] at hlo hhi; omega)
              | (refine ⟨_, rfl, ?_⟩
                 refine xo_load0 T_ rfl rfl rfl (List.Mem.tail _ (List.Mem.tail _ (List.Mem.tail _ (List.Mem.tail _ (List.Mem.tail _ (List.mem_append_left _ (stH_mem hb1))))))) rfl rfl ?_
                 exact xo_fin rfl)
          refine DrawE.pure 0 0 rfl (.inr (by decide)) (fun L g hg hd => Nat.zero_le _) (fun g hlo hhi hF τ => ?_) ?_
          · rcases g with _ | ⟨a0, _ | ⟨a1, g⟩⟩
            all_goals first
              | (exfalso; simp only [List.length_cons, List.length_nil] at hlo hhi; omega)
              | (refine ⟨_, rfl, ?_⟩
                 refine xo_add rfl rfl rfl (by omega) rfl ?_
                 exact xo_fin rfl)
          refine DrawE.pure 0 0 rfl (.inr (by decide)) (fun L g hg hd => Nat.zero_le _) (fun g hlo hhi hF τ => ?_) ?_
          · rcases g with _ | ⟨a0, _ | ⟨a1, g⟩⟩
            all_goals first
              | (exfalso; simp only [List.length_cons, List.length_nil] at hlo hhi; omega)
              | (refine ⟨_, rfl, ?_⟩
                 refine xo_fa T_ rfl rfl rfl rfl rfl ?_
                 exact xo_fin rfl)
          refine DrawE.pure 0 0 rfl (.inr (by decide)) (fun L g hg hd => Nat.zero_le _) (fun g hlo hhi hF τ => ?_) ?_
          · rcases g with _ | ⟨a0, _ | ⟨a1, g⟩⟩
            all_goals first
              | (exfalso; simp only [List.length_cons, List.length_nil] at hlo hhi; omega)
              | (refine ⟨_, rfl, ?_⟩
                 refine xo_load0 T_ rfl rfl rfl (by repeat (first | exact List.Mem.head _ | apply List.Mem.tail | apply List.mem_append_right)) rfl rfl ?_
                 exact xo_fin rfl)
          refine DrawE.pure 0 0 rfl (.inr (by decide)) (fun L g hg hd => Nat.zero_le _) (fun g hlo hhi hF τ => ?_) ?_
          · rcases g with _ | ⟨a0, _ | ⟨a1, g⟩⟩
            all_goals first
              | (exfalso; simp only [List.length_cons, List.length_nil] at hlo hhi; omega)
              | (refine ⟨_, rfl, ?_⟩
                 refine xo_mv rfl rfl rfl ?_
                 exact xo_fin rfl)
          refine DrawE.pure 0 0 rfl (.inr (by decide)) (fun L g hg hd => Nat.zero_le _) (fun g hlo hhi hF τ => ?_) ?_
          · rcases g with _ | ⟨a0, _ | ⟨a1, g⟩⟩
            all_goals first
              | (exfalso; simp only [List.length_cons, List.length_nil] at hlo hhi; omega)
              | (refine ⟨_, rfl, ?_⟩
                 refine xo_nilck rfl rfl rfl ?_
                 exact xo_fin rfl)
          refine DrawE.pure 0 0 rfl (.inr (by decide)) (fun L g hg hd => Nat.zero_le _) (fun g hlo hhi hF τ => ?_) ?_
          · rcases g with _ | ⟨a0, _ | ⟨a1, g⟩⟩
            all_goals first
              | (exfalso; simp only [List.length_cons, List.length_nil] at hlo hhi; omega)
              | (refine ⟨_, rfl, ?_⟩
                 refine xo_fa T_ rfl rfl rfl rfl rfl ?_
                 exact xo_fin rfl)
          refine DrawE.pure 0 0 rfl (.inr (by decide)) (fun L g hg hd => Nat.zero_le _) (fun g hlo hhi hF τ => ?_) ?_
          · rcases g with _ | ⟨a0, _ | ⟨a1, g⟩⟩
            all_goals first
              | (exfalso; simp only [List.length_cons, List.length_nil] at hlo hhi; omega)
              | (refine ⟨_, rfl, ?_⟩
                 refine xo_load0 T_ rfl rfl rfl (List.Mem.tail _ (List.Mem.tail _ (List.Mem.tail _ (List.Mem.tail _ (List.Mem.tail _ (List.mem_append_left _ (stH_mem hb1))))))) rfl rfl ?_
                 exact xo_fin rfl)
          refine DrawE.pure 0 0 rfl (.inr (by decide)) (fun L g hg hd => Nat.zero_le _) (fun g hlo hhi hF τ => ?_) ?_
          · rcases g with _ | ⟨a0, _ | ⟨a1, g⟩⟩
            all_goals first
              | (exfalso; simp only [List.length_cons, List.length_nil] at hlo hhi; omega)
              | (refine ⟨_, rfl, ?_⟩
                 refine xo_add rfl rfl rfl (by omega) rfl ?_
                 exact xo_fin rfl)
          refine DrawE.pure 0 0 rfl (.inr (by decide)) (fun L g hg hd => Nat.zero_le _) (fun g hlo hhi hF τ => ?_) ?_
          · rcases g with _ | ⟨a0, _ | ⟨a1, g⟩⟩
            all_goals first
              | (exfalso; simp only [List.length_cons, List.length_nil] at hlo hhi; omega)
              | (refine ⟨_, rfl, ?_⟩
                 refine xo_fa T_ rfl rfl rfl rfl rfl ?_
                 exact xo_fin rfl)
          refine DrawE.pure 0 0 rfl (.inr (by decide)) (fun L g hg hd => Nat.zero_le _) (fun g hlo hhi hF τ => ?_) ?_
          · rcases g with _ | ⟨a0, _ | ⟨a1, g⟩⟩
            all_goals first
              | (exfalso; simp only [List.length_cons, List.length_nil] at hlo hhi; omega)
              | (refine ⟨_, rfl, ?_⟩
                 refine xo_load0 T_ rfl rfl rfl (by repeat (first | exact List.Mem.head _ | apply List.Mem.tail | apply List.mem_append_right)) rfl rfl ?_
                 exact xo_fin rfl)
          refine DrawE.pure 0 0 rfl (.inr (by decide)) (fun L g hg hd => Nat.zero_le _) (fun g hlo hhi hF τ => ?_) ?_
          · rcases g with _ | ⟨a0, _ | ⟨a1, g⟩⟩
            all_goals first
              | (exfalso; simp only [List.length_cons, List.length_nil] at hlo hhi; omega)
              | (refine ⟨_, rfl, ?_⟩
                 refine xo_mv rfl rfl rfl ?_
                 exact xo_fin rfl)
          refine DrawE.pure 0 0 rfl (.inr (by decide)) (fun L g hg hd => Nat.zero_le _) (fun g hlo hhi hF τ => ?_) ?_
          · rcases g with _ | ⟨a0, _ | ⟨a1, g⟩⟩
            all_goals first
              | (exfalso; simp only [List.length_cons, List.length_nil] at hlo hhi; omega)
              | (refine ⟨_, rfl, ?_⟩
                 refine xo_nilck rfl rfl rfl ?_
                 exact xo_fin rfl)
          refine DrawE.pure 0 0 rfl (.inr (by decide)) (fun L g hg hd => Nat.zero_le _) (fun g hlo hhi hF τ => ?_) ?_
          · rcases g with _ | ⟨a0, _ | ⟨a1, g⟩⟩
            all_goals first
              | (exfalso; simp only [List.length_cons, List.length_nil] at hlo hhi; omega)
              | (refine ⟨_, rfl, ?_⟩
                 refine xo_fa T_ rfl rfl rfl rfl rfl ?_
                 exact xo_fin rfl)
          refine DrawE.pure 0 0 rfl (.inr (by decide)) (fun L g hg hd => Nat.zero_le _) (fun g hlo hhi hF τ => ?_) ?_
          · rcases g with _ | ⟨a0, _ | ⟨a1, g⟩⟩
            all_goals first
              | (exfalso; simp only [List.length_cons, List.length_nil] at hlo hhi; omega)
              | (refine ⟨_, rfl, ?_⟩
                 refine xo_load0 T_ rfl rfl rfl (List.Mem.tail _ (List.Mem.tail _ (List.Mem.tail _ (List.Mem.tail _ (List.Mem.tail _ (List.mem_append_left _ (stH_mem hb1))))))) rfl rfl ?_
                 exact xo_fin rfl)
          refine DrawE.pure 0 0 rfl (.inr (by decide)) (fun L g hg hd => Nat.zero_le _) (fun g hlo hhi hF τ => ?_) ?_
          · rcases g with _ | ⟨a0, _ | ⟨a1, g⟩⟩
            all_goals first
              | (exfalso; simp only [List.length_cons, List.length_nil] at hlo hhi; omega)
              | (refine ⟨_, rfl, ?_⟩
                 refine xo_add rfl rfl rfl (by omega) rfl ?_
                 exact xo_fin rfl)
          refine DrawE.pure 0 0 rfl (.inr (by decide)) (fun L g hg hd => Nat.zero_le _) (fun g hlo hhi hF τ => ?_) ?_
          · rcases g with _ | ⟨a0, _ | ⟨a1, g⟩⟩
            all_goals first
              | (exfalso; simp only [List.length_cons, List.length_nil] at hlo hhi; omega)
              | (refine ⟨_, rfl, ?_⟩
                 refine xo_fa T_ rfl rfl rfl rfl rfl ?_
                 exact xo_fin rfl)
          refine DrawE.pure 0 0 rfl (.inr (by decide)) (fun L g hg hd => Nat.zero_le _) (fun g hlo hhi hF τ => ?_) ?_
          · rcases g with _ | ⟨a0, _ | ⟨a1, g⟩⟩
            all_goals first
              | (exfalso; simp only [List.length_cons, List.length_nil] at hlo hhi; omega)
              | (refine ⟨_, rfl, ?_⟩
                 refine xo_load0 T_ rfl rfl rfl (by repeat (first | exact List.Mem.head _ | apply List.Mem.tail | apply List.mem_append_right)) rfl rfl ?_
                 exact xo_fin rfl)
          refine DrawE.pure 0 0 rfl (.inr (by decide)) (fun L g hg hd => Nat.zero_le _) (fun g hlo hhi hF τ => ?_) ?_
          · rcases g with _ | ⟨a0, _ | ⟨a1, g⟩⟩
            all_goals first
              | (exfalso; simp only [List.length_cons, List.length_nil] at hlo hhi; omega)
              | (refine ⟨_, rfl, ?_⟩
                 refine xo_mv rfl rfl rfl ?_
                 exact xo_fin rfl)
          refine DrawE.pure 0 0 rfl (.inr (by decide)) (fun L g hg hd => Nat.zero_le _) (fun g hlo hhi hF τ => ?_) ?_
          · rcases g with _ | ⟨a0, _ | ⟨a1, g⟩⟩
            all_goals first
              | (exfalso; simp only [List.length_cons, List.length_nil] at hlo hhi; omega)
              | (refine ⟨_, rfl, ?_⟩
                 refine xo_nilck rfl rfl rfl ?_
                 exact xo_fin rfl)
          refine DrawE.pure 0 0 rfl (.inr (by decide)) (fun L g hg hd => Nat.zero_le _) (fun g hlo hhi hF τ => ?_) ?_
          · rcases g with _ | ⟨a0, _ | ⟨a1, g⟩⟩
            all_goals first
              | (exfalso; simp only [List.length_cons, List.length_nil] at hlo hhi; omega)
              | (refine ⟨_, rfl, ?_⟩
                 refine xo_fa T_ rfl rfl rfl rfl rfl ?_
                 exact xo_fin rfl)
          refine DrawE.pure 0 0 rfl (.inr (by decide)) (fun L g hg hd => Nat.zero_le _) (fun g hlo hhi hF τ => ?_) ?_
          · rcases g with _ | ⟨a0, _ | ⟨a1, g⟩⟩
            all_goals first
              | (exfalso; simp only [List.length_cons, List.length_nil] at hlo hhi; omega)
              | (refine ⟨_, rfl, ?_⟩
                 refine xo_load0 T_ rfl rfl rfl (List.Mem.tail _ (List.Mem.tail _ (List.Mem.tail _ (List.Mem.tail _ (List.Mem.tail _ (List.mem_append_left _ (stH_mem hb1))))))) rfl rfl ?_
                 exact xo_fin rfl)
          refine DrawE.pure 0 0 rfl (.inr (by decide)) (fun L g hg hd => Nat.zero_le _) (fun g hlo hhi hF τ => ?_) ?_
          · rcases g with _ | ⟨a0, _ | ⟨a1, g⟩⟩
            all_goals first
              | (exfalso; simp only [List.length_cons, List.length_nil] at hlo hhi; omega)
              | (refine ⟨_, rfl, ?_⟩
                 refine xo_add rfl rfl rfl (by omega) rfl ?_
                 exact xo_fin rfl)
          refine DrawE.pure 0 0 rfl (.inr (by decide)) (fun L g hg hd => Nat.zero_le _) (fun g hlo hhi hF τ => ?_) ?_
          · rcases g with _ | ⟨a0, _ | ⟨a1, g⟩⟩
            all_goals first
              | (exfalso; simp only [List.length_cons, List.length_nil] at hlo hhi; omega)
              | (refine ⟨_, rfl, ?_⟩
                 refine xo_build TB_ rfl rfl rfl rfl rfl ?_
                 exact xo_fin rfl)
          refine DrawE.eff 0 rfl (by decide) rfl (fun j hj => hj) (fun j g a hj => ?_) (fun L g hg hd => Nat.zero_le _) (fun g hgl hF τ => ?_) ?_
          · rcases j with _ | _ | _ | _ | _ | _ | _ | _ | _ | _ | _ | _ | _ | _ | _ | _ | _ | _ | _ | _ | _ | _ | _ | _ | _ | _ | _ | _ | _ | _ | _ | _ | _ | _ | _ | _ | _ | _ | _ | _ | _ | _ | _ | _ | j
            all_goals first | rfl | (rcases g with _ | ⟨a0, _ | ⟨a1, g⟩⟩ <;> first | rfl | exact absurd hj (by decide) | exact absurd hj (by simp [List.getD]))
          · obtain rfl : g = [] := by
              rcases g with _ | ⟨a0, g⟩ <;> first | rfl | (exfalso; simp only [List.length_cons, List.length_nil] at hgl; omega)
            refine xo_store T_ rfl rfl rfl rfl (by repeat (first | exact List.Mem.head _ | apply List.Mem.tail | apply List.mem_append_right)) rfl rfl rfl rfl (by repeat (first | exact Upd.head | apply Upd.tail | apply Upd.app)) rfl ?_
            exact xo_finE gv0 rfl trivial
          exact DrawE.nil
        intro g hgl hF
        obtain ⟨a0, rfl⟩ : ∃ a0, g = [a0] := by
          rcases g with _ | ⟨a0, _ | ⟨a1, g⟩⟩ <;> first | exact ⟨_, rfl⟩ | (exfalso; simp only [List.length_cons, List.length_nil] at hgl; omega)
        with_reducible repeat (first | refine xq_then ?_ | refine xq_blockN ?_ | refine xq_scopeN ?_)
        with_reducible repeat refine xc_seq ?_
        with_reducible refine xc_region ?_
        refine xo_add rfl rfl rfl (by omega) rfl ?_
        refine xo_mv rfl rfl rfl ?_
        with_reducible refine xo_nil ?_
        with_reducible repeat (first | refine xq_then ?_ | refine xq_blockN ?_ | refine xq_scopeN ?_)
        exact xq_again _ _ _ _ _ (k + 1, insN x.f0 come, addS sum (storeF m x.f0)) ⟨hlt, hsB', hpl⟩ (by first | omega | (simp only; omega)) ⟨rfl, rfl, rfl, rfl, rfl, rfl, rfl, rfl, rfl, trivial⟩ (List.sublist_cons_self _ _)
      · simp only [Bool.not_eq_false'] at hz
        rw [stEq_iff.1 hz, addS_zero] at hpl
        with_reducible refine xc_skip ?_
        with_reducible repeat (first | refine xq_then ?_ | refine xq_blockN ?_ | refine xq_scopeN ?_)
        with_reducible repeat refine xc_seq ?_
        with_reducible refine xc_region ?_
        refine xo_add rfl rfl rfl (by omega) rfl ?_
        refine xo_mv rfl rfl rfl ?_
        with_reducible refine xo_nil ?_
        with_reducible repeat (first | refine xq_then ?_ | refine xq_blockN ?_ | refine xq_scopeN ?_)
        exact xq_again _ _ _ _ _ (k + 1, insN x.f0 come, sum) ⟨hlt, hsB.mono (by simp only; omega), hpl⟩ (by first | omega | (simp only; omega)) ⟨rfl, rfl, rfl, rfl, rfl, rfl, rfl, rfl, rfl, trivial⟩ (List.sublist_cons_self _ _)
  have hge : ¬ k < r.length := by have := of_decide_eq_false h; omega
  rw [List.drop_of_length_le (by omega), piecesL] at hpl
  with_reducible refine xc_exit ?_
  with_reducible repeat (first | refine xq_blockX ?_ | refine xq_thenE ?_ | refine xq_blockE rfl ?_ | refine xq_scopeE ?_)
  with_reducible repeat (first | refine xq_then ?_ | refine xq_blockN ?_ | refine xq_scopeN ?_)
  with_reducible repeat refine xc_seq ?_
  with_reducible refine xc_region ?_
  refine xo_loadN T_ rfl rfl rfl (by repeat (first | exact List.Mem.head _ | apply List.Mem.tail | apply List.mem_append_right)) rfl rfl ?_
  refine xo_store T_ rfl rfl rfl rfl (by repeat (first | exact List.Mem.head _ | exact List.mem_append_left _ (List.Mem.head _) | apply List.mem_append_right | apply List.Mem.tail)) rfl rfl rfl rfl (Upd.tail (Upd.tail (Upd.tail (Upd.tail (Upd.app (by repeat (first | exact Upd.head | apply Upd.tail | apply Upd.app)) _))))) rfl ?_
  refine xo_asg rfl rfl rfl ?_
  with_reducible refine xo_nil ?_
  with_reducible repeat (first | refine xq_then ?_ | refine xq_blockN ?_ | refine xq_scopeN ?_)
  with_reducible repeat refine xc_seq ?_
  with_reducible refine xc_ret ?_
  with_reducible repeat (first | refine xq_thenR ?_ | refine xq_blockR ?_ | refine xq_scopeR ?_)
  exact xq_retC1 T_ rfl rfl rfl rfl (by repeat (first | exact List.Mem.head _ | exact List.mem_append_left _ (List.Mem.head _) | apply List.mem_append_right | apply List.Mem.tail)) rfl fun w' hw => ⟨by rw [e1, e2, hpl]; rfl, hw.kx.below⟩
theorem pieces_enters : ∀ args w, (callFunc 13 args).run Tryd.prog w = .ok (.enter 13 args) w := enters_of Tryd.func13 (by kernel_rfl) rfl
end Go.Proofs.YtcmepdamemnbkaaDoor
namespace Go.Proofs.YtcmepdamemnbkaaDoor
open Go.RowKit Go.Proofs.YtcmepdamemnbkaaDoorW.PrintWords
set_option linter.unusedVariables false
set_option linter.unusedSimpArgs false
theorem stStep1 (s : StT) (n : Int) : stStep s 1 n = ⟨s.a + n, s.b, s.c, s.d, s.e, s.l + n⟩ := rfl
theorem stStep2 (s : StT) (n : Int) : stStep s 2 n = ⟨s.a, s.b + n, s.c, s.d, s.e, s.l + n⟩ := rfl
theorem stStep3 (s : StT) (n : Int) : stStep s 3 n = ⟨s.a, s.b, s.c + n, s.d, s.e, s.l - n⟩ := rfl
theorem stStep4 (s : StT) (n : Int) : stStep s 4 n = ⟨s.a, s.b, s.c, s.d + n, s.e, s.l - n⟩ := rfl
theorem stStep5 (s : StT) (k n : Int) (h1 : ¬ k = 1) (h2 : ¬ k = 2) (h3 : ¬ k = 3) (h4 : ¬ k = 4) : stStep s k n = ⟨s.a, s.b, s.c, s.d, s.e + n, s.l - n⟩ := by
  rw [stStep, if_neg h1, if_neg h2, if_neg h3, if_neg h4]
set_option maxHeartbeats 16000000 in
theorem store_calls (B : Option Addr) (c' : Nat) (m : List MovT) (id : Int) (w : World) (hm : Kd.C movK w B m.length m) (hp : ∀ x ∈ m, 1 ≤ x.f3 ∧ x.f3 ≤ 100000) (hlen : m.length ≤ 100) :
    Calls Tryd.prog 49 #[.slice B m.length c', .int .i64 id] w fun e w' => e = .returned (.agg (stV (storeF m id)).toArray) ∧ Below w.heap.size w w' := by
  refine x_calls (X := XNone) Tryd.func49 rfl rfl rfl ?_
  with_reducible repeat refine xc_seq ?_
  with_reducible refine xc_region ?_
  refine xo_alloc T_ rfl rfl rfl rfl (fun b4 => ?_)
  with_reducible refine xo_nil ?_
  with_reducible repeat (first | refine xq_then ?_ | refine xq_blockN ?_ | refine xq_scopeN ?_)
  with_reducible repeat refine xc_seq ?_
  with_reducible refine xc_region ?_
  refine xo_alloc T_ rfl rfl rfl rfl (fun b5 => ?_)
  with_reducible refine xo_nil ?_
  with_reducible repeat (first | refine xq_then ?_ | refine xq_blockN ?_ | refine xq_scopeN ?_)
  with_reducible repeat refine xc_seq ?_
  with_reducible refine xc_region ?_
  refine xo_asg rfl rfl rfl ?_
  with_reducible refine xo_nil ?_
  with_reducible repeat (first | refine xq_then ?_ | refine xq_blockN ?_ | refine xq_scopeN ?_)
  with_reducible repeat refine xc_seq ?_
  with_reducible refine xc_block ?_
  refine xc_loop (γ := Nat) (fun k => k ≤ m.length) (fun k => [(0, .slice B m.length c'), (1, .int .i64 id), (4, .pointer (some ⟨b4, 0, none⟩)), (5, .pointer (some ⟨b5, 0, none⟩)), (6, .int .i64 (k : Int))])
    (fun k => [(b5, true, cel (stV (storeF (m.take k) id)) 27), (b4, true, cel (stV st0) 27)]) (fun k => m.length - k) 0 (Nat.zero_le _) ⟨rfl, rfl, rfl, rfl, rfl, trivial⟩ (by repeat (first | exact List.Sublist.refl _ | apply List.Sublist.cons_cons | apply List.Sublist.cons | exact List.nil_sublist _)) ?_
  intro k hk1
  with_reducible repeat refine xc_seq ?_
  with_reducible refine xc_region ?_
  refine xo_mv rfl rfl rfl ?_
  refine xo_mv rfl rfl rfl ?_
  refine xo_len T_ rfl rfl rfl rfl ?_
  refine xo_lss rfl rfl rfl rfl ?_
  with_reducible refine xo_nil ?_
  with_reducible repeat (first | refine xq_then ?_ | refine xq_blockN ?_ | refine xq_scopeN ?_)
  with_reducible repeat refine xc_seq ?_
  refine xc_cond rfl (fun h => ?_) (fun h => ?_)
  · have hlt : k < m.length := by have := of_decide_eq_true h; omega
    obtain ⟨ad, rfl, r1⟩ := mov_at hm k hlt
    have hpx := hp _ (getD_mem m zMov k hlt)
    have hsucc := storeF_succ hlt id
    have hB := storeF_B (m := m.take k) (fun x hx => hp x (List.mem_of_mem_take hx)) id
    have htl : ((m.take k).length : Int) ≤ 100 := by simp; omega
    generalize m.getD k zMov = x at *
    generalize storeF (m.take k) id = s at *
    unfold StB at hB
    with_reducible refine xc_skip ?_
    with_reducible repeat (first | refine xq_then ?_ | refine xq_blockN ?_ | refine xq_scopeN ?_)
    with_reducible repeat refine xc_seq ?_
    with_reducible refine xc_block ?_
    with_reducible repeat refine xc_seq ?_
    with_reducible refine xc_region ?_
    refine xo_mv rfl rfl rfl ?_
    refine xo_mv rfl rfl rfl ?_
    refine xo_ia T_ rfl rfl rfl rfl rfl ⟨by omega, by omega⟩ rfl ?_
    refine xo_faR T_ rfl rfl rfl rfl rfl ?_
    refine xo_loadR0 T_ rfl rfl rfl (by first | assumption | exact RO.fld (by assumption) rfl) rfl ?_
    refine xo_mv rfl rfl rfl ?_
    refine xo_neq rfl rfl rfl rfl ?_
    with_reducible refine xo_nil ?_
    with_reducible repeat (first | refine xq_then ?_ | refine xq_blockN ?_ | refine xq_scopeN ?_)
    with_reducible repeat refine xc_seq ?_
    refine xc_cond rfl (fun h1 => ?_) (fun h1 => ?_)
    · have h1 : ¬ x.f1 = id := by simpa using h1
      rw [if_neg h1] at hsucc
      with_reducible refine xc_exit ?_
      with_reducible repeat (first | refine xq_blockX ?_ | refine xq_thenE ?_ | refine xq_blockE rfl ?_ | refine xq_scopeE ?_)
      with_reducible repeat (first | refine xq_then ?_ | refine xq_blockN ?_ | refine xq_scopeN ?_)
      with_reducible repeat refine xc_seq ?_
      with_reducible refine xc_region ?_
      refine xo_mv rfl rfl rfl ?_
      refine xo_add rfl rfl rfl (by omega) rfl ?_
      refine xo_asg rfl rfl rfl ?_
      with_reducible refine xo_nil ?_
      with_reducible repeat (first | refine xq_then ?_ | refine xq_blockN ?_ | refine xq_scopeN ?_)
      exact xq_again _ _ _ _ _ (k + 1) (by omega) (by omega) ⟨rfl, rfl, rfl, rfl, rfl, trivial⟩ (by rw [hsucc]; exact (by repeat (first | exact List.Sublist.refl _ | apply List.Sublist.cons_cons | apply List.Sublist.cons | exact List.nil_sublist _)))
    have h1 : x.f1 = id := by simpa using h1
    rw [if_pos h1] at hsucc
    with_reducible refine xc_skip ?_
    with_reducible repeat (first | refine xq_then ?_ | refine xq_blockN ?_ | refine xq_scopeN ?_)
    with_reducible repeat refine xc_seq ?_
    with_reducible refine xc_region ?_
    refine xo_mv rfl rfl rfl ?_
    refine xo_mv rfl rfl rfl ?_
    refine xo_ia T_ rfl rfl rfl rfl rfl ⟨by omega, by omega⟩ rfl ?_
    refine xo_faR T_ rfl rfl rfl rfl rfl ?_
    refine xo_loadR0 T_ rfl rfl rfl (by first | assumption | exact RO.fld (by assumption) rfl) rfl ?_
    refine xo_asg rfl rfl rfl ?_
    with_reducible refine xo_nil ?_
    with_reducible repeat (first | refine xq_then ?_ | refine xq_blockN ?_ | refine xq_scopeN ?_)
    with_reducible repeat refine xc_seq ?_
    with_reducible refine xc_region ?_
    refine xo_mv rfl rfl rfl ?_
    refine xo_mv rfl rfl rfl ?_
    refine xo_ia T_ rfl rfl rfl rfl rfl ⟨by omega, by omega⟩ rfl ?_
    refine xo_faR T_ rfl rfl rfl rfl rfl ?_
    refine xo_loadR0 T_ rfl rfl rfl (by first | assumption | exact RO.fld (by assumption) rfl) rfl ?_
    with_reducible refine xo_nil ?_
    with_reducible repeat (first | refine xq_then ?_ | refine xq_blockN ?_ | refine xq_scopeN ?_)
    with_reducible repeat refine xc_seq ?_
    with_reducible refine xc_block ?_
    with_reducible repeat refine xc_seq ?_
    with_reducible refine xc_region ?_
    refine xo_eql rfl rfl rfl rfl ?_
    refine xo_asg rfl rfl rfl ?_
    with_reducible refine xo_nil ?_
    with_reducible repeat (first | refine xq_then ?_ | refine xq_blockN ?_ | refine xq_scopeN ?_)
    with_reducible repeat refine xc_seq ?_
    refine xc_cond rfl (fun k1 => ?_) (fun k1 => ?_)
    · have k1 : x.f2 = 1 := of_decide_eq_true k1
      rw [k1, stStep1] at hsucc
      with_reducible repeat refine xc_seq ?_
      with_reducible refine xc_region ?_
      refine xo_fa T_ rfl rfl rfl rfl rfl ?_
      refine xo_load0 T_ rfl rfl rfl (by repeat (first | exact List.Mem.head _ | apply List.Mem.tail | apply List.mem_append_right)) rfl rfl ?_
      refine xo_mv rfl rfl rfl ?_
      refine xo_add rfl rfl rfl (by omega) rfl ?_
      refine xo_fa T_ rfl rfl rfl rfl rfl ?_
      refine xo_store T_ rfl rfl rfl rfl (by repeat (first | exact List.Mem.head _ | apply List.Mem.tail | apply List.mem_append_right)) rfl rfl rfl rfl (by repeat (first | exact Upd.head | apply Upd.tail | apply Upd.app)) rfl ?_
      with_reducible refine xo_nil ?_
      with_reducible repeat (first | refine xq_then ?_ | refine xq_blockN ?_ | refine xq_scopeN ?_)
      with_reducible repeat refine xc_seq ?_
      with_reducible refine xc_region ?_
      refine xo_fa T_ rfl rfl rfl rfl rfl ?_
      refine xo_load0 T_ rfl rfl rfl (by repeat (first | exact List.Mem.head _ | apply List.Mem.tail | apply List.mem_append_right)) rfl rfl ?_
      refine xo_mv rfl rfl rfl ?_
      refine xo_add rfl rfl rfl (by omega) rfl ?_
      refine xo_fa T_ rfl rfl rfl rfl rfl ?_
      refine xo_store T_ rfl rfl rfl rfl (by repeat (first | exact List.Mem.head _ | apply List.Mem.tail | apply List.mem_append_right)) rfl rfl rfl rfl (by repeat (first | exact Upd.head | apply Upd.tail | apply Upd.app)) rfl ?_
      with_reducible refine xo_nil ?_
      with_reducible repeat (first | refine xq_then ?_ | refine xq_blockN ?_ | refine xq_scopeN ?_)
      with_reducible repeat refine xc_seq ?_
      with_reducible refine xc_region ?_
      refine xo_mv rfl rfl rfl ?_
      refine xo_add rfl rfl rfl (by omega) rfl ?_
      refine xo_asg rfl rfl rfl ?_
      with_reducible refine xo_nil ?_
      with_reducible repeat (first | refine xq_then ?_ | refine xq_blockN ?_ | refine xq_scopeN ?_)
      exact xq_again _ _ _ _ _ (k + 1) (by omega) (by omega) ⟨rfl, rfl, rfl, rfl, rfl, trivial⟩ (by rw [hsucc]; exact List.Sublist.refl _)
    have k1 : ¬ x.f2 = 1 := of_decide_eq_false k1
    with_reducible repeat refine xc_seq ?_
    with_reducible refine xc_region ?_
    refine xo_eql rfl rfl rfl rfl ?_
    refine xo_asg rfl rfl rfl ?_
    with_reducible refine xo_nil ?_
    with_reducible repeat (first | refine xq_then ?_ | refine xq_blockN ?_ | refine xq_scopeN ?_)
    with_reducible repeat refine xc_seq ?_
    refine xc_cond rfl (fun k2 => ?_) (fun k2 => ?_)
    · have k2 : x.f2 = 2 := of_decide_eq_true k2
      rw [k2, stStep2] at hsucc
      with_reducible repeat refine xc_seq ?_
      with_reducible refine xc_region ?_
      refine xo_fa T_ rfl rfl rfl rfl rfl ?_
      refine xo_load0 T_ rfl rfl rfl (by repeat (first | exact List.Mem.head _ | apply List.Mem.tail | apply List.mem_append_right)) rfl rfl ?_
      refine xo_mv rfl rfl rfl ?_
      refine xo_add rfl rfl rfl (by omega) rfl ?_
      refine xo_fa T_ rfl rfl rfl rfl rfl ?_
      refine xo_store T_ rfl rfl rfl rfl (by repeat (first | exact List.Mem.head _ | apply List.Mem.tail | apply List.mem_append_right)) rfl rfl rfl rfl (by repeat (first | exact Upd.head | apply Upd.tail | apply Upd.app)) rfl ?_
      with_reducible refine xo_nil ?_
      with_reducible repeat (first | refine xq_then ?_ | refine xq_blockN ?_ | refine xq_scopeN ?_)
      with_reducible repeat refine xc_seq ?_
      with_reducible refine xc_region ?_
      refine xo_fa T_ rfl rfl rfl rfl rfl ?_
      refine xo_load0 T_ rfl rfl rfl (by repeat (first | exact List.Mem.head _ | apply List.Mem.tail | apply List.mem_append_right)) rfl rfl ?_
      refine xo_mv rfl rfl rfl ?_
      refine xo_add rfl rfl rfl (by omega) rfl ?_
      refine xo_fa T_ rfl rfl rfl rfl rfl ?_
      refine xo_store T_ rfl rfl rfl rfl (by repeat (first | exact List.Mem.head _ | apply List.Mem.tail | apply List.mem_append_right)) rfl rfl rfl rfl (by repeat (first | exact Upd.head | apply Upd.tail | apply Upd.app)) rfl ?_
      with_reducible refine xo_nil ?_
      with_reducible repeat (first | refine xq_then ?_ | refine xq_blockN ?_ | refine xq_scopeN ?_)
      with_reducible repeat refine xc_seq ?_
      with_reducible refine xc_region ?_
      refine xo_mv rfl rfl rfl ?_
      refine xo_add rfl rfl rfl (by omega) rfl ?_
      refine xo_asg rfl rfl rfl ?_
      with_reducible refine xo_nil ?_
      with_reducible repeat (first | refine xq_then ?_ | refine xq_blockN ?_ | refine xq_scopeN ?_)
      exact xq_again _ _ _ _ _ (k + 1) (by omega) (by omega) ⟨rfl, rfl, rfl, rfl, rfl, trivial⟩ (by rw [hsucc]; exact List.Sublist.refl _)
    have k2 : ¬ x.f2 = 2 := of_decide_eq_false k2
    with_reducible repeat refine xc_seq ?_
    with_reducible refine xc_region ?_
    refine xo_eql rfl rfl rfl rfl ?_
    refine xo_asg rfl rfl rfl ?_
    with_reducible refine xo_nil ?_
    with_reducible repeat (first | refine xq_then ?_ | refine xq_blockN ?_ | refine xq_scopeN ?_)
    with_reducible repeat refine xc_seq ?_
    refine xc_cond rfl (fun k3 => ?_) (fun k3 => ?_)
    · have k3 : x.f2 = 3 := of_decide_eq_true k3
      rw [k3, stStep3] at hsucc
      with_reducible repeat refine xc_seq ?_
      with_reducible refine xc_region ?_
      refine xo_fa T_ rfl rfl rfl rfl rfl ?_
      refine xo_load0 T_ rfl rfl rfl (by repeat (first | exact List.Mem.head _ | apply List.Mem.tail | apply List.mem_append_right)) rfl rfl ?_
      refine xo_mv rfl rfl rfl ?_
      refine xo_add rfl rfl rfl (by omega) rfl ?_
      refine xo_fa T_ rfl rfl rfl rfl rfl ?_
      refine xo_store T_ rfl rfl rfl rfl (by repeat (first | exact List.Mem.head _ | apply List.Mem.tail | apply List.mem_append_right)) rfl rfl rfl rfl (by repeat (first | exact Upd.head | apply Upd.tail | apply Upd.app)) rfl ?_
      with_reducible refine xo_nil ?_
      with_reducible repeat (first | refine xq_then ?_ | refine xq_blockN ?_ | refine xq_scopeN ?_)
      with_reducible repeat refine xc_seq ?_
      with_reducible refine xc_region ?_
      refine xo_fa T_ rfl rfl rfl rfl rfl ?_
      refine xo_load0 T_ rfl rfl rfl (by repeat (first | exact List.Mem.head _ | apply List.Mem.tail | apply List.mem_append_right)) rfl rfl ?_
      refine xo_mv rfl rfl rfl ?_
      refine xo_sub rfl rfl rfl (by omega) rfl ?_
      refine xo_fa T_ rfl rfl rfl rfl rfl ?_
      refine xo_store T_ rfl rfl rfl rfl (by repeat (first | exact List.Mem.head _ | apply List.Mem.tail | apply List.mem_append_right)) rfl rfl rfl rfl (by repeat (first | exact Upd.head | apply Upd.tail | apply Upd.app)) rfl ?_
      with_reducible refine xo_nil ?_
      with_reducible repeat (first | refine xq_then ?_ | refine xq_blockN ?_ | refine xq_scopeN ?_)
      with_reducible repeat refine xc_seq ?_
      with_reducible refine xc_region ?_
      refine xo_mv rfl rfl rfl ?_
      refine xo_add rfl rfl rfl (by omega) rfl ?_
      refine xo_asg rfl rfl rfl ?_
      with_reducible refine xo_nil ?_
      with_reducible repeat (first | refine xq_then ?_ | refine xq_blockN ?_ | refine xq_scopeN ?_)
      exact xq_again _ _ _ _ _ (k + 1) (by omega) (by omega) ⟨rfl, rfl, rfl, rfl, rfl, trivial⟩ (by rw [hsucc]; exact List.Sublist.refl _)
    have k3 : ¬ x.f2 = 3 := of_decide_eq_false k3
    with_reducible repeat refine xc_seq ?_
    with_reducible refine xc_region ?_
    refine xo_eql rfl rfl rfl rfl ?_
    refine xo_asg rfl rfl rfl ?_
    with_reducible refine xo_nil ?_
    with_reducible repeat (first | refine xq_then ?_ | refine xq_blockN ?_ | refine xq_scopeN ?_)
    with_reducible repeat refine xc_seq ?_
    refine xc_cond rfl (fun k4 => ?_) (fun k4 => ?_)
    · have k4 : x.f2 = 4 := of_decide_eq_true k4
      rw [k4, stStep4] at hsucc
      with_reducible repeat refine xc_seq ?_
      with_reducible refine xc_region ?_
      refine xo_fa T_ rfl rfl rfl rfl rfl ?_
      refine xo_load0 T_ rfl rfl rfl (by repeat (first | exact List.Mem.head _ | apply List.Mem.tail | apply List.mem_append_right)) rfl rfl ?_
      refine xo_mv rfl rfl rfl ?_
      refine xo_add rfl rfl rfl (by omega) rfl ?_
      refine xo_fa T_ rfl rfl rfl rfl rfl ?_
      refine xo_store T_ rfl rfl rfl rfl (by repeat (first | exact List.Mem.head _ | apply List.Mem.tail | apply List.mem_append_right)) rfl rfl rfl rfl (by repeat (first | exact Upd.head | apply Upd.tail | apply Upd.app)) rfl ?_
      with_reducible refine xo_nil ?_
      with_reducible repeat (first | refine xq_then ?_ | refine xq_blockN ?_ | refine xq_scopeN ?_)
      with_reducible repeat refine xc_seq ?_
      with_reducible refine xc_region ?_
      refine xo_fa T_ rfl rfl rfl rfl rfl ?_
      refine xo_load0 T_ rfl rfl rfl (by repeat (first | exact List.Mem.head _ | apply List.Mem.tail | apply List.mem_append_right)) rfl rfl ?_
      refine xo_mv rfl rfl rfl ?_
      refine xo_sub rfl rfl rfl (by omega) rfl ?_
      refine xo_fa T_ rfl rfl rfl rfl rfl ?_
      refine xo_store T_ rfl rfl rfl rfl (by repeat (first | exact List.Mem.head _ | apply List.Mem.tail | apply List.mem_append_right)) rfl rfl rfl rfl (by repeat (first | exact Upd.head | apply Upd.tail | apply Upd.app)) rfl ?_
      with_reducible refine xo_nil ?_
      with_reducible repeat (first | refine xq_then ?_ | refine xq_blockN ?_ | refine xq_scopeN ?_)
      with_reducible repeat refine xc_seq ?_
      with_reducible refine xc_region ?_
      refine xo_mv rfl rfl rfl ?_
      refine xo_add rfl rfl rfl (by omega) rfl ?_
      refine xo_asg rfl rfl rfl ?_
      with_reducible refine xo_nil ?_
      with_reducible repeat (first | refine xq_then ?_ | refine xq_blockN ?_ | refine xq_scopeN ?_)
      exact xq_again _ _ _ _ _ (k + 1) (by omega) (by omega) ⟨rfl, rfl, rfl, rfl, rfl, trivial⟩ (by rw [hsucc]; exact List.Sublist.refl _)
    have k4 : ¬ x.f2 = 4 := of_decide_eq_false k4
    rw [stStep5 _ _ _ k1 k2 k3 k4] at hsucc
    with_reducible repeat refine xc_seq ?_
    with_reducible refine xc_region ?_
    refine xo_fa T_ rfl rfl rfl rfl rfl ?_
    refine xo_load0 T_ rfl rfl rfl (by repeat (first | exact List.Mem.head _ | apply List.Mem.tail | apply List.mem_append_right)) rfl rfl ?_
    refine xo_mv rfl rfl rfl ?_
    refine xo_add rfl rfl rfl (by omega) rfl ?_
    refine xo_fa T_ rfl rfl rfl rfl rfl ?_
    refine xo_store T_ rfl rfl rfl rfl (by repeat (first | exact List.Mem.head _ | apply List.Mem.tail | apply List.mem_append_right)) rfl rfl rfl rfl (by repeat (first | exact Upd.head | apply Upd.tail | apply Upd.app)) rfl ?_
    with_reducible refine xo_nil ?_
    with_reducible repeat (first | refine xq_then ?_ | refine xq_blockN ?_ | refine xq_scopeN ?_)
    with_reducible repeat refine xc_seq ?_
    with_reducible refine xc_region ?_
    refine xo_fa T_ rfl rfl rfl rfl rfl ?_
    refine xo_load0 T_ rfl rfl rfl (by repeat (first | exact List.Mem.head _ | apply List.Mem.tail | apply List.mem_append_right)) rfl rfl ?_
    refine xo_mv rfl rfl rfl ?_
    refine xo_sub rfl rfl rfl (by omega) rfl ?_
    refine xo_fa T_ rfl rfl rfl rfl rfl ?_
    refine xo_store T_ rfl rfl rfl rfl (by repeat (first | exact List.Mem.head _ | apply List.Mem.tail | apply List.mem_append_right)) rfl rfl rfl rfl (by repeat (first | exact Upd.head | apply Upd.tail | apply Upd.app)) rfl ?_
    with_reducible refine xo_nil ?_
    with_reducible repeat (first | refine xq_then ?_ | refine xq_blockN ?_ | refine xq_scopeN ?_)
    with_reducible repeat refine xc_seq ?_
    with_reducible refine xc_region ?_
    refine xo_mv rfl rfl rfl ?_
    refine xo_add rfl rfl rfl (by omega) rfl ?_
    refine xo_asg rfl rfl rfl ?_
    with_reducible refine xo_nil ?_
    with_reducible repeat (first | refine xq_then ?_ | refine xq_blockN ?_ | refine xq_scopeN ?_)
    exact xq_again _ _ _ _ _ (k + 1) (by omega) (by omega) ⟨rfl, rfl, rfl, rfl, rfl, trivial⟩ (by rw [hsucc]; exact List.Sublist.refl _)
  · have hge : ¬ k < m.length := by have := of_decide_eq_false h; omega
    rw [List.take_of_length_le (by omega)]
    with_reducible refine xc_exit ?_
    with_reducible repeat (first | refine xq_blockX ?_ | refine xq_thenE ?_ | refine xq_blockE rfl ?_ | refine xq_scopeE ?_)
    with_reducible repeat (first | refine xq_then ?_ | refine xq_blockN ?_ | refine xq_scopeN ?_)
    with_reducible repeat refine xc_seq ?_
    with_reducible refine xc_region ?_
    refine xo_loadN T_ rfl rfl rfl (by repeat (first | exact List.Mem.head _ | apply List.Mem.tail | apply List.mem_append_right)) rfl rfl ?_
    refine xo_store T_ rfl rfl rfl rfl (by repeat (first | exact List.Mem.head _ | apply List.Mem.tail | apply List.mem_append_right)) rfl rfl rfl rfl (by repeat (first | exact Upd.head | apply Upd.tail | apply Upd.app)) rfl ?_
    with_reducible refine xo_nil ?_
    with_reducible repeat (first | refine xq_then ?_ | refine xq_blockN ?_ | refine xq_scopeN ?_)
    with_reducible repeat refine xc_seq ?_
    with_reducible refine xc_ret ?_
    with_reducible repeat (first | refine xq_thenR ?_ | refine xq_blockR ?_ | refine xq_scopeR ?_)
    exact xq_retC T_ rfl rfl rfl (by repeat (first | exact List.Mem.head _ | apply List.Mem.tail | apply List.mem_append_right)) rfl fun w' hw => ⟨rfl, hw.kx.below⟩
theorem store_enters : ∀ args w, (callFunc 49 args).run Tryd.prog w = .ok (.enter 49 args) w := enters_of Tryd.func49 (by kernel_rfl) rfl
end Go.Proofs.YtcmepdamemnbkaaDoor
namespace Go.Proofs.YtcmepdamemnbkaaDoor
open Go.RowKit Go.Proofs.YtcmepdamemnbkaaDoorW.PrintWords
set_option linter.unusedVariables false
set_option linter.unusedSimpArgs false
theorem split7 (c1 c2 c3 c4 c5 c6 c7 : Bool) : (c1 = true ∧ (c1 || (c2 && c3) || c4 || c5 || c6 || c7) = true) ∨ (c1 = false ∧ c2 = true ∧ c3 = true ∧ (c1 || (c2 && c3) || c4 || c5 || c6 || c7) = true) ∨ (c1 = false ∧ c2 = true ∧ c3 = false ∧ c4 = true ∧ (c1 || (c2 && c3) || c4 || c5 || c6 || c7) = true) ∨ (c1 = false ∧ c2 = true ∧ c3 = false ∧ c4 = false ∧ c5 = true ∧ (c1 || (c2 && c3) || c4 || c5 || c6 || c7) = true) ∨ (c1 = false ∧ c2 = true ∧ c3 = false ∧ c4 = false ∧ c5 = false ∧ c6 = true ∧ (c1 || (c2 && c3) || c4 || c5 || c6 || c7) = true) ∨ (c1 = false ∧ c2 = true ∧ c3 = false ∧ c4 = false ∧ c5 = false ∧ c6 = false ∧ c7 = true ∧ (c1 || (c2 && c3) || c4 || c5 || c6 || c7) = true) ∨ (c1 = false ∧ c2 = true ∧ c3 = false ∧ c4 = false ∧ c5 = false ∧ c6 = false ∧ c7 = false ∧ (c1 || (c2 && c3) || c4 || c5 || c6 || c7) = false) ∨ (c1 = false ∧ c2 = false ∧ c4 = true ∧ (c1 || (c2 && c3) || c4 || c5 || c6 || c7) = true) ∨ (c1 = false ∧ c2 = false ∧ c4 = false ∧ c5 = true ∧ (c1 || (c2 && c3) || c4 || c5 || c6 || c7) = true) ∨ (c1 = false ∧ c2 = false ∧ c4 = false ∧ c5 = false ∧ c6 = true ∧ (c1 || (c2 && c3) || c4 || c5 || c6 || c7) = true) ∨ (c1 = false ∧ c2 = false ∧ c4 = false ∧ c5 = false ∧ c6 = false ∧ c7 = true ∧ (c1 || (c2 && c3) || c4 || c5 || c6 || c7) = true) ∨ (c1 = false ∧ c2 = false ∧ c4 = false ∧ c5 = false ∧ c6 = false ∧ c7 = false ∧ (c1 || (c2 && c3) || c4 || c5 || c6 || c7) = false) := by
  cases c1 <;> cases c2 <;> cases c3 <;> cases c4 <;> cases c5 <;> cases c6 <;> cases c7 <;> simp
def pastM (m : List MovT) (k : Nat) : Int := if k = 0 then -1 else (m.getD (k - 1) zMov).f0
def kindAt (r : List RecT) (n : Int) : Int := (r.getD (atF r n).toNat zRec).f1
def badM (r : List RecT) (m : List MovT) (k : Nat) (x : MovT) : Bool := !inF 0 9999 x.f0 || (decide (0 < (k : Int)) && decide (x.f0 ≤ (m.getD (k - 1) zMov).f0)) || decide (atF r x.f1 < 0) || !decide (kindAt r x.f1 = 3) || !inF 1 5 x.f2 || !inF 1 100000 x.f3
theorem mov_at' {w : World} {ad : Addr} {l : List MovT} (h : Kd.C movK w (some ad) l.length l) (k : Nat) (hk : k < l.length) (h0 : 0 < (k : Int)) :
    RO w XNone (ad.add (((k : Int) - 1).toNat * szN 4)) (movV (l.getD (k - 1) zMov)) := by
  obtain ⟨ad2, e, h1⟩ := mov_at h (k - 1) (by omega)
  cases e
  rw [show ((k : Int) - 1).toNat = ((k - 1 : Nat) : Int).toNat by omega]
  exact h1
theorem batch_at_iff {r : List RecT} (hs : SortedIds r) (n : Int) : decide (n ∈ batchesF r) = (!decide (atF r n < 0) && decide (kindAt r n = 3)) := by
  rw [atF_neg, Bool.not_not]
  cases hk : knownF r n with
  | false =>
    rw [Bool.false_and, decide_eq_false_iff_not]
    intro h
    obtain ⟨i, h1, h2⟩ := batch_at (k := r.length) (by rw [List.take_of_length_le (Nat.le_refl _)]; exact h)
    have := knownF_iff.2 ⟨i, h2.1, h2.2⟩
    rw [hk] at this
    cases this
  | true =>
    obtain ⟨a, h1, h2, h3⟩ := atF_known hk
    rw [Bool.true_and, kindAt, h2, Int.toNat_natCast, ← batch_mem hs h1]
    rw [show (r.getD a zRec).f0 = n from h3]
theorem badM_step {r : List RecT} (hs : SortedIds r) {m : List MovT} {k : Nat} {x : MovT} (hk : k < 40) (h0 : ∀ i, i < k → 0 ≤ (m.getD i zMov).f0) :
    (decide (x.f1 ∈ batchesF r) && inF (pastM m k + 1) 9999 x.f0 && inF 1 5 x.f2 && inF 1 100000 x.f3 && !decide (40 ≤ (k : Int))) = !badM r m k x := by
  have h1 : inF (pastM m k + 1) 9999 x.f0 = (inF 0 9999 x.f0 && !(decide (0 < (k : Int)) && decide (x.f0 ≤ (m.getD (k - 1) zMov).f0))) := by
    by_cases hk : k = 0
    · subst hk; simp [inF, pastM]
    · have := h0 (k - 1) (by omega)
      have e0 : decide (0 < (k : Int)) = true := decide_eq_true (by omega)
      rw [pastM, if_neg hk, e0, Bool.true_and]
      exact inF_step _ _ this
  have h2 : decide (40 ≤ (k : Int)) = false := decide_eq_false (by omega)
  rw [h1, h2, badM, batch_at_iff hs]
  cases inF 0 9999 x.f0 <;> cases (decide (0 < (k : Int)) && decide (x.f0 ≤ (m.getD (k - 1) zMov).f0)) <;> cases decide (atF r x.f1 < 0) <;> cases decide (kindAt r x.f1 = 3) <;> cases inF 1 5 x.f2 <;> cases inF 1 100000 x.f3 <;> rfl
theorem storeF_none {m : List MovT} {id : Int} (h : ∀ x ∈ m, x.f1 ≠ id) : storeF m id = st0 := by
  unfold storeF
  have key : ∀ (m : List MovT) (s : StT), (∀ x ∈ m, x.f1 ≠ id) → m.foldl (fun s x => if x.f1 = id then stStep s x.f2 x.f3 else s) s = s := by
    intro m
    induction m with
    | nil => intro s _; rfl
    | cons x m ih =>
      intro s h
      rw [List.foldl_cons, if_neg (h x (List.mem_cons_self ..))]
      exact ih s fun y hy => h y (List.mem_cons_of_mem _ hy)
  exact key m st0 h
theorem all_ok {r : List RecT} {m : List MovT} (h : ∀ x ∈ m, x.f1 ∈ batchesF r) : (m.all fun x => okS (storeF m x.f1)) = (batchesF r).all fun id => okS (storeF m id) := by
  rw [Bool.eq_iff_iff, List.all_eq_true, List.all_eq_true]
  constructor
  · intro h1 id hid
    by_cases q : ∃ x ∈ m, x.f1 = id
    · obtain ⟨x, hx, rfl⟩ := q
      exact h1 x hx
    · rw [storeF_none (fun x hx e => q ⟨x, hx, e⟩)]
      rfl
  · intro h1 x hx
    exact h1 _ (h x hx)
theorem countF_long {r : List RecT} {m : List MovT} (h : 40 < m.length) : countF r m = false := by
  cases hm : movesL (batchesF r) (-1) 0 m with
  | false => rw [countF, hm]; rfl
  | true =>
    rcases movesL_len m _ _ hm with h1 | rfl
    · omega
    · simp at h
set_option maxHeartbeats 64000000 in
theorem moves_calls (A B : Option Addr) (c c' : Nat) (r : List RecT) (m : List MovT) (w : World) (hr : Kd.C recK w A r.length r) (hm : Kd.C movK w B m.length m) (hkm : BytesM m) (hs : SortedIds r) :
    Calls Tryd.prog 47 #[.slice A r.length c, .slice B m.length c'] w fun e w' => e = .returned (.bool (countF r m)) ∧ Below w.heap.size w w' := by
  have hn := hm.2.1
  refine x_calls (X := XNone) Tryd.func47 rfl rfl rfl ?_
  with_reducible repeat refine xc_seq ?_
  with_reducible refine xc_region ?_
  refine xo_asg rfl rfl rfl ?_
  with_reducible refine xo_nil ?_
  with_reducible repeat (first | refine xq_then ?_ | refine xq_blockN ?_ | refine xq_scopeN ?_)
  with_reducible repeat refine xc_seq ?_
  with_reducible refine xc_region ?_
  refine xo_mv rfl rfl rfl ?_
  refine xo_len T_ rfl rfl rfl rfl ?_
  refine xo_gtr rfl rfl rfl rfl ?_
  with_reducible refine xo_nil ?_
  with_reducible repeat (first | refine xq_then ?_ | refine xq_blockN ?_ | refine xq_scopeN ?_)
  with_reducible repeat refine xc_seq ?_
  refine xc_cond rfl (fun h40 => ?_) (fun h40 => ?_)
  · with_reducible repeat refine xc_seq ?_
    with_reducible refine xc_region ?_
    refine xo_asg rfl rfl rfl ?_
    with_reducible refine xo_nil ?_
    with_reducible repeat (first | refine xq_then ?_ | refine xq_blockN ?_ | refine xq_scopeN ?_)
    with_reducible repeat refine xc_seq ?_
    with_reducible refine xc_ret ?_
    with_reducible repeat (first | refine xq_thenR ?_ | refine xq_blockR ?_ | refine xq_scopeR ?_)
    have h40 := of_decide_eq_true h40
    exact xq_ret1 rfl rfl fun w' hw => ⟨by rw [countF_long (by omega)], hw.kx.below⟩
  have h40 := of_decide_eq_false h40
  with_reducible refine xc_skip ?_
  with_reducible repeat (first | refine xq_then ?_ | refine xq_blockN ?_ | refine xq_scopeN ?_)
  with_reducible repeat refine xc_seq ?_
  with_reducible refine xc_region ?_
  refine xo_asg rfl rfl rfl ?_
  with_reducible refine xo_nil ?_
  with_reducible repeat (first | refine xq_then ?_ | refine xq_blockN ?_ | refine xq_scopeN ?_)
  with_reducible repeat refine xc_seq ?_
  with_reducible refine xc_block ?_
  refine xc_loop (γ := Nat) (fun k => k ≤ m.length ∧ (∀ i, i < k → 0 ≤ (m.getD i zMov).f0) ∧ movesL (batchesF r) (-1) 0 m = movesL (batchesF r) (pastM m k) (k : Int) (m.drop k)) (fun k => [(0, .slice A r.length c), (1, .slice B m.length c'), (5, .int .i64 (k : Int))]) (fun _ => []) (fun k => m.length - k) 0
    ⟨Nat.zero_le _, fun j hj => absurd hj (by simp), rfl⟩ ⟨rfl, rfl, rfl, trivial⟩ (List.Sublist.refl _) ?_
  rintro k ⟨hk1, h0, hmv⟩
  with_reducible repeat refine xc_seq ?_
  with_reducible refine xc_region ?_
  refine xo_mv rfl rfl rfl ?_
  refine xo_mv rfl rfl rfl ?_
  refine xo_len T_ rfl rfl rfl rfl ?_
  refine xo_lss rfl rfl rfl rfl ?_
  with_reducible refine xo_nil ?_
  with_reducible repeat (first | refine xq_then ?_ | refine xq_blockN ?_ | refine xq_scopeN ?_)
  with_reducible repeat refine xc_seq ?_
  refine xc_cond rfl (fun h => ?_) (fun h => ?_)
  · have hlt : k < m.length := by have := of_decide_eq_true h; omega
    obtain ⟨ad, rfl, r1⟩ := mov_at hm k hlt
    have hby := hkm _ (getD_mem m zMov k hlt)
    have hprev : decide (0 < (k : Int)) = true → 0 < (k : Int) ∧ RO w XNone (ad.add (((k : Int) - 1).toNat * szN 4)) (movV (m.getD (k - 1) zMov)) := fun h => ⟨of_decide_eq_true h, mov_at' hm k hlt (of_decide_eq_true h)⟩
    rw [drop_at m zMov k hlt, movesL, badM_step hs (by omega) h0] at hmv
    have hp1 : pastM m (k + 1) = (m.getD k zMov).f0 := by simp [pastM]
    generalize hx : m.getD k zMov = x at *
    have hat : decide (atF r x.f1 < 0) = false → ∃ ad2 A2 c2, A = some ad2 ∧ (0 ≤ atF r x.f1 ∧ atF r x.f1 < (r.length : Int)) ∧ RO w XNone (ad2.add ((atF r x.f1).toNat * szN 3)) (recV (r.getD (atF r x.f1).toNat zRec) A2 c2) := fun h => by
      rw [atF_neg, Bool.not_eq_false'] at h
      obtain ⟨a, h1, h2, h3⟩ := atF_known h
      obtain ⟨ad2, A2, c2, e, h4, _⟩ := rec_at hr a h1
      refine ⟨ad2, A2, c2, e, by rw [h2]; omega, ?_⟩
      rw [h2, Int.toNat_natCast]
      exact h4
    with_reducible refine xc_skip ?_
    with_reducible repeat (first | refine xq_then ?_ | refine xq_blockN ?_ | refine xq_scopeN ?_)
    with_reducible repeat refine xc_seq ?_
    with_reducible refine xc_block ?_
    with_reducible repeat refine xc_seq ?_
    with_reducible refine xc_region ?_
    refine xo_mv rfl rfl rfl ?_
    refine xo_mv rfl rfl rfl ?_
    refine xo_mv rfl rfl rfl ?_
    refine xo_ia T_ rfl rfl rfl rfl rfl ⟨by omega, by omega⟩ rfl ?_
    refine xo_faR T_ rfl rfl rfl rfl rfl ?_
    refine xo_loadR0 T_ rfl rfl rfl (by first | assumption | exact RO.fld (by assumption) rfl) rfl ?_
    refine xo_callB (fs := []) (cs := []) rfl rfl rfl at_enters rfl (fun w1 hw1 => at_calls _ _ _ _ w1 (Kd.C_below hr hw1.kx.below)) ?_
    refine xo_asg rfl rfl rfl ?_
    with_reducible refine xo_nil ?_
    with_reducible repeat (first | refine xq_then ?_ | refine xq_blockN ?_ | refine xq_scopeN ?_)
    refine xc_cut (γ := Unit) (fun _ => True) (fun _ => [(0, .slice A r.length c), (1, .slice (some ad) m.length c'), (5, .int .i64 (k : Int)), (80, .bool (badM r m k x))]) (fun _ => []) ?_ (fun _ _ => ?_)
    · rcases split7 (!inF 0 9999 x.f0) (decide (0 < (k : Int))) (decide (x.f0 ≤ (m.getD (k - 1) zMov).f0)) (decide (atF r x.f1 < 0)) (!decide (kindAt r x.f1 = 3)) (!inF 1 5 x.f2) (!inF 1 100000 x.f3) with
        ⟨h1, hB⟩ | ⟨h1, h2, h3, hB⟩ | ⟨h1, h2, h3, h4, hB⟩ | ⟨h1, h2, h3, h4, h5, hB⟩ | ⟨h1, h2, h3, h4, h5, h6, hB⟩ | ⟨h1, h2, h3, h4, h5, h6, h7, hB⟩ | ⟨h1, h2, h3, h4, h5, h6, h7, hB⟩ | ⟨h1, h2, h4, hB⟩ | ⟨h1, h2, h4, h5, hB⟩ | ⟨h1, h2, h4, h5, h6, hB⟩ | ⟨h1, h2, h4, h5, h6, h7, hB⟩ | ⟨h1, h2, h4, h5, h6, h7, hB⟩
      all_goals
        try (have q := hprev h2; obtain ⟨h2', r2⟩ := q)
        try (have q := hat h4; obtain ⟨ad2, A2, c2, rfl, h4', r3⟩ := q)
        with_reducible repeat refine xc_seq ?_
        apply xc_drawN
        · exact T_.mixed
        · rfl
        · rfl
        · rfl
        · rfl
        · apply DrawOps.cons
          · intro τ
            refine xo_mv rfl rfl rfl ?_
            exact xo_fin rfl
          apply DrawOps.cons
          · intro τ
            refine xo_mv rfl rfl rfl ?_
            exact xo_fin rfl
          apply DrawOps.cons
          · intro τ
            refine xo_ia T_ rfl rfl rfl rfl rfl ⟨by omega, by omega⟩ rfl ?_
            exact xo_fin rfl
          apply DrawOps.cons
          · intro τ
            refine xo_faR T_ rfl rfl rfl rfl rfl ?_
            exact xo_fin rfl
          apply DrawOps.cons
          · intro τ
            refine xo_loadR0 T_ rfl rfl rfl (by first | assumption | exact RO.fld (by assumption) rfl) rfl ?_
            exact xo_fin rfl
          apply DrawOps.cons
          · intro τ
            refine xo_callB (fs := []) (cs := []) rfl rfl rfl within_enters rfl (fun w1 hw1 => within_calls _ _ _ w1) ?_
            exact xo_fin rfl
          apply DrawOps.cons
          · intro τ
            refine xo_notOp rfl rfl rfl ?_
            first
              | exact xo_fin (congrArg Value.bool h1)
              | exact xo_fin rfl
          apply DrawOps.cons
          · intro τ
            refine xo_mv rfl rfl rfl ?_
            exact xo_fin rfl
          apply DrawOps.cons
          · intro τ
            first
              | refine xo_not rfl rfl ?_
              | (refine xo_mv rfl rfl rfl ?_)
            exact xo_fin rfl
          apply DrawOps.cons
          · intro τ
            first
              | refine xo_not rfl rfl ?_
              | (refine xo_gtr rfl rfl rfl rfl ?_)
            first
              | exact xo_fin (congrArg Value.bool h2)
              | exact xo_fin rfl
          apply DrawOps.cons
          · intro τ
            first
              | refine xo_not rfl rfl ?_
              | (refine xo_mv rfl rfl rfl ?_)
            exact xo_fin rfl
          apply DrawOps.cons
          · intro τ
            first
              | refine xo_not rfl rfl ?_
              | (refine xo_mv rfl rfl rfl ?_)
            exact xo_fin rfl
          apply DrawOps.cons
          · intro τ
            first
              | refine xo_not rfl rfl ?_
              | (refine xo_mv rfl rfl rfl ?_)
            exact xo_fin rfl
          apply DrawOps.cons
          · intro τ
            first
              | refine xo_not rfl rfl ?_
              | (refine xo_ia T_ rfl rfl rfl rfl rfl ⟨by omega, by omega⟩ rfl ?_)
            exact xo_fin rfl
          apply DrawOps.cons
          · intro τ
            first
              | refine xo_not rfl rfl ?_
              | (refine xo_faR T_ rfl rfl rfl rfl rfl ?_)
            exact xo_fin rfl
          apply DrawOps.cons
          · intro τ
            first
              | refine xo_not rfl rfl ?_
              | (refine xo_loadR0 T_ rfl rfl rfl (by first | assumption | exact RO.fld (by assumption) rfl) rfl ?_)
            exact xo_fin rfl
          apply DrawOps.cons
          · intro τ
            first
              | refine xo_not rfl rfl ?_
              | (refine xo_mv rfl rfl rfl ?_)
            exact xo_fin rfl
          apply DrawOps.cons
          · intro τ
            first
              | refine xo_not rfl rfl ?_
              | (refine xo_mv rfl rfl rfl ?_)
            exact xo_fin rfl
          apply DrawOps.cons
          · intro τ
            first
              | refine xo_not rfl rfl ?_
              | (refine xo_sub rfl rfl rfl (by omega) rfl ?_)
            exact xo_fin rfl
          apply DrawOps.cons
          · intro τ
            first
              | refine xo_not rfl rfl ?_
              | (refine xo_ia T_ rfl rfl rfl rfl rfl ⟨by omega, by omega⟩ rfl ?_)
            exact xo_fin rfl
          apply DrawOps.cons
          · intro τ
            first
              | refine xo_not rfl rfl ?_
              | (refine xo_faR T_ rfl rfl rfl rfl rfl ?_)
            exact xo_fin rfl
          apply DrawOps.cons
          · intro τ
            first
              | refine xo_not rfl rfl ?_
              | (refine xo_loadR0 T_ rfl rfl rfl (by first | assumption | exact RO.fld (by assumption) rfl) rfl ?_)
            exact xo_fin rfl
          apply DrawOps.cons
          · intro τ
            first
              | refine xo_not rfl rfl ?_
              | (refine xo_leq rfl rfl rfl rfl ?_)
            first
              | exact xo_fin (congrArg Value.bool h3)
              | exact xo_fin rfl
          apply DrawOps.cons
          · intro τ
            first
              | refine xo_not rfl rfl ?_
              | (first | refine xo_pickT rfl rfl rfl rfl ?_ | refine xo_pickF rfl rfl rfl rfl ?_)
            exact xo_fin rfl
          apply DrawOps.cons
          · intro τ
            first | refine xo_pickT rfl rfl rfl rfl ?_ | refine xo_pickF rfl rfl rfl rfl ?_
            exact xo_fin rfl
          apply DrawOps.cons
          · intro τ
            refine xo_mv rfl rfl rfl ?_
            exact xo_fin rfl
          apply DrawOps.cons
          · intro τ
            first
              | refine xo_not rfl rfl ?_
              | (refine xo_mv rfl rfl rfl ?_)
            exact xo_fin rfl
          apply DrawOps.cons
          · intro τ
            first
              | refine xo_not rfl rfl ?_
              | (refine xo_lss rfl rfl rfl rfl ?_)
            first
              | exact xo_fin (congrArg Value.bool h4)
              | exact xo_fin rfl
          apply DrawOps.cons
          · intro τ
            first | refine xo_pickT rfl rfl rfl rfl ?_ | refine xo_pickF rfl rfl rfl rfl ?_
            exact xo_fin rfl
          apply DrawOps.cons
          · intro τ
            refine xo_mv rfl rfl rfl ?_
            exact xo_fin rfl
          apply DrawOps.cons
          · intro τ
            first
              | refine xo_not rfl rfl ?_
              | (refine xo_mv rfl rfl rfl ?_)
            exact xo_fin rfl
          apply DrawOps.cons
          · intro τ
            first
              | refine xo_not rfl rfl ?_
              | (refine xo_mv rfl rfl rfl ?_)
            exact xo_fin rfl
          apply DrawOps.cons
          · intro τ
            first
              | refine xo_not rfl rfl ?_
              | (refine xo_ia T_ rfl rfl rfl rfl rfl ⟨by omega, by omega⟩ rfl ?_)
            exact xo_fin rfl
          apply DrawOps.cons
          · intro τ
            first
              | refine xo_not rfl rfl ?_
              | (refine xo_faR T_ rfl rfl rfl rfl rfl ?_)
            exact xo_fin rfl
          apply DrawOps.cons
          · intro τ
            first
              | refine xo_not rfl rfl ?_
              | (refine xo_loadR0 T_ rfl rfl rfl (by first | assumption | exact RO.fld (by assumption) rfl) rfl ?_)
            exact xo_fin rfl
          apply DrawOps.cons
          · intro τ
            first
              | refine xo_not rfl rfl ?_
              | (refine xo_neq rfl rfl rfl rfl ?_)
            first
              | exact xo_fin (congrArg Value.bool h5)
              | exact xo_fin rfl
          apply DrawOps.cons
          · intro τ
            first | refine xo_pickT rfl rfl rfl rfl ?_ | refine xo_pickF rfl rfl rfl rfl ?_
            exact xo_fin rfl
          apply DrawOps.cons
          · intro τ
            refine xo_mv rfl rfl rfl ?_
            exact xo_fin rfl
          apply DrawOps.cons
          · intro τ
            first
              | refine xo_not rfl rfl ?_
              | (refine xo_mv rfl rfl rfl ?_)
            exact xo_fin rfl
          apply DrawOps.cons
          · intro τ
            first
              | refine xo_not rfl rfl ?_
              | (refine xo_mv rfl rfl rfl ?_)
            exact xo_fin rfl
          apply DrawOps.cons
          · intro τ
            first
              | refine xo_not rfl rfl ?_
              | (refine xo_ia T_ rfl rfl rfl rfl rfl ⟨by omega, by omega⟩ rfl ?_)
            exact xo_fin rfl
          apply DrawOps.cons
          · intro τ
            first
              | refine xo_not rfl rfl ?_
              | (refine xo_faR T_ rfl rfl rfl rfl rfl ?_)
            exact xo_fin rfl
          apply DrawOps.cons
          · intro τ
            first
              | refine xo_not rfl rfl ?_
              | (refine xo_loadR0 T_ rfl rfl rfl (by first | assumption | exact RO.fld (by assumption) rfl) rfl ?_)
            exact xo_fin rfl
          apply DrawOps.cons
          · intro τ
            first
              | refine xo_not rfl rfl ?_
              | (refine xo_conv T_ rfl rfl rfl rfl (IntWalk.i64_in _ ⟨by omega, by omega⟩) rfl ?_)
            exact xo_fin rfl
          apply DrawOps.cons
          · intro τ
            first
              | refine xo_not rfl rfl ?_
              | (refine xo_callB (fs := []) (cs := []) rfl rfl rfl within_enters rfl (fun w1 hw1 => within_calls _ _ _ w1) ?_)
            exact xo_fin rfl
          apply DrawOps.cons
          · intro τ
            first
              | refine xo_not rfl rfl ?_
              | (refine xo_notOp rfl rfl rfl ?_)
            first
              | exact xo_fin (congrArg Value.bool h6)
              | exact xo_fin rfl
          apply DrawOps.cons
          · intro τ
            first | refine xo_pickT rfl rfl rfl rfl ?_ | refine xo_pickF rfl rfl rfl rfl ?_
            exact xo_fin rfl
          apply DrawOps.cons
          · intro τ
            refine xo_mv rfl rfl rfl ?_
            exact xo_fin rfl
          apply DrawOps.cons
          · intro τ
            first
              | refine xo_not rfl rfl ?_
              | (refine xo_mv rfl rfl rfl ?_)
            exact xo_fin rfl
          apply DrawOps.cons
          · intro τ
            first
              | refine xo_not rfl rfl ?_
              | (refine xo_mv rfl rfl rfl ?_)
            exact xo_fin rfl
          apply DrawOps.cons
          · intro τ
            first
              | refine xo_not rfl rfl ?_
              | (refine xo_ia T_ rfl rfl rfl rfl rfl ⟨by omega, by omega⟩ rfl ?_)
            exact xo_fin rfl
          apply DrawOps.cons
          · intro τ
            first
              | refine xo_not rfl rfl ?_
              | (refine xo_faR T_ rfl rfl rfl rfl rfl ?_)
            exact xo_fin rfl
          apply DrawOps.cons
          · intro τ
            first
              | refine xo_not rfl rfl ?_
              | (refine xo_loadR0 T_ rfl rfl rfl (by first | assumption | exact RO.fld (by assumption) rfl) rfl ?_)
            exact xo_fin rfl
          apply DrawOps.cons
          · intro τ
            first
              | refine xo_not rfl rfl ?_
              | (refine xo_callB (fs := []) (cs := []) rfl rfl rfl within_enters rfl (fun w1 hw1 => within_calls _ _ _ w1) ?_)
            exact xo_fin rfl
          apply DrawOps.cons
          · intro τ
            first
              | refine xo_not rfl rfl ?_
              | (refine xo_notOp rfl rfl rfl ?_)
            first
              | exact xo_fin (congrArg Value.bool h7)
              | exact xo_fin rfl
          apply DrawOps.cons
          · intro τ
            first | refine xo_pickT rfl rfl rfl rfl ?_ | refine xo_pickF rfl rfl rfl rfl ?_
            exact xo_fin rfl
          exact DrawOps.nil
        · rfl
        with_reducible repeat (first | refine xq_then ?_ | refine xq_blockN ?_ | refine xq_scopeN ?_)
        exact xq_meet _ _ _ () trivial ⟨rfl, rfl, rfl, by rw [badM, hB]; rfl, trivial⟩ (by repeat (first | exact List.Sublist.refl _ | apply List.Sublist.cons_cons | apply List.Sublist.cons | exact List.nil_sublist _))
    with_reducible repeat refine xc_seq ?_
    refine xc_cond rfl (fun hb => ?_) (fun hb => ?_)
    · with_reducible repeat refine xc_seq ?_
      with_reducible refine xc_region ?_
      refine xo_asg rfl rfl rfl ?_
      with_reducible refine xo_nil ?_
      with_reducible repeat (first | refine xq_then ?_ | refine xq_blockN ?_ | refine xq_scopeN ?_)
      with_reducible repeat refine xc_seq ?_
      with_reducible refine xc_ret ?_
      with_reducible repeat (first | refine xq_thenR ?_ | refine xq_blockR ?_ | refine xq_scopeR ?_)
      rw [hb] at hmv
      exact xq_ret1 rfl rfl fun w' hw => ⟨by rw [countF, hmv]; rfl, hw.kx.below⟩
    rw [hb, Bool.not_false, Bool.true_and] at hmv
    with_reducible refine xc_skip ?_
    with_reducible repeat (first | refine xq_then ?_ | refine xq_blockN ?_ | refine xq_scopeN ?_)
    with_reducible repeat refine xc_seq ?_
    with_reducible refine xc_region ?_
    refine xo_mv rfl rfl rfl ?_
    refine xo_add rfl rfl rfl (by omega) rfl ?_
    refine xo_asg rfl rfl rfl ?_
    with_reducible refine xo_nil ?_
    with_reducible repeat (first | refine xq_then ?_ | refine xq_blockN ?_ | refine xq_scopeN ?_)
    refine xq_again _ _ _ _ _ (k + 1) ⟨hlt, fun i hi => ?_, by rw [hmv, hp1]; rfl⟩ (by omega) ⟨rfl, rfl, rfl, trivial⟩ (List.Sublist.refl _)
    by_cases e : i = k
    · subst e
      rw [hx]
      simp only [badM, Bool.or_eq_false_iff, Bool.not_eq_false', inF, Bool.and_eq_true, decide_eq_true_eq] at hb
      exact hb.1.1.1.1.1.1
    · exact h0 i (by omega)
  have hge : ¬ k < m.length := by have := of_decide_eq_false h; omega
  rw [List.drop_of_length_le (by omega), movesL] at hmv
  have hmem := movesL_mem m _ _ hmv
  have hok := all_ok (r := r) (m := m) fun x hx => (hmem x hx).1
  with_reducible refine xc_exit ?_
  with_reducible repeat (first | refine xq_blockX ?_ | refine xq_thenE ?_ | refine xq_blockE rfl ?_ | refine xq_scopeE ?_)
  with_reducible repeat (first | refine xq_then ?_ | refine xq_blockN ?_ | refine xq_scopeN ?_)
  with_reducible repeat refine xc_seq ?_
  with_reducible refine xc_region ?_
  refine xo_asg rfl rfl rfl ?_
  with_reducible refine xo_nil ?_
  with_reducible repeat (first | refine xq_then ?_ | refine xq_blockN ?_ | refine xq_scopeN ?_)
  with_reducible repeat refine xc_seq ?_
  with_reducible refine xc_block ?_
  refine xc_loop (γ := Nat) (fun k => k ≤ m.length ∧ ((m.take k).all fun x => okS (storeF m x.f1)) = true) (fun k => [(1, .slice B m.length c'), (7, .int .i64 (k : Int))]) (fun _ => []) (fun k => m.length - k) 0
    ⟨Nat.zero_le _, by simp⟩ ⟨rfl, rfl, trivial⟩ (List.nil_sublist _) ?_
  rintro k ⟨hk1, hall⟩
  with_reducible repeat refine xc_seq ?_
  with_reducible refine xc_region ?_
  refine xo_mv rfl rfl rfl ?_
  refine xo_mv rfl rfl rfl ?_
  refine xo_len T_ rfl rfl rfl rfl ?_
  refine xo_lss rfl rfl rfl rfl ?_
  with_reducible refine xo_nil ?_
  with_reducible repeat (first | refine xq_then ?_ | refine xq_blockN ?_ | refine xq_scopeN ?_)
  with_reducible repeat refine xc_seq ?_
  refine xc_cond rfl (fun h => ?_) (fun h => ?_)
  · have hlt : k < m.length := by have := of_decide_eq_true h; omega
    obtain ⟨ad, rfl, r1⟩ := mov_at hm k hlt
    have hxm := getD_mem m zMov k hlt
    have hta : ((m.take (k + 1)).all fun x => okS (storeF m x.f1)) = (((m.take k).all fun x => okS (storeF m x.f1)) && okS (storeF m (m.getD k zMov).f1)) := by
      rw [List.take_succ_eq_append_getElem hlt, List.all_append]
      simp [List.getD_eq_getElem?_getD, List.getElem?_eq_getElem hlt]
    generalize m.getD k zMov = x at *
    with_reducible refine xc_skip ?_
    with_reducible repeat (first | refine xq_then ?_ | refine xq_blockN ?_ | refine xq_scopeN ?_)
    with_reducible repeat refine xc_seq ?_
    with_reducible refine xc_block ?_
    with_reducible repeat refine xc_seq ?_
    with_reducible refine xc_region ?_
    refine xo_mv rfl rfl rfl ?_
    refine xo_mv rfl rfl rfl ?_
    refine xo_mv rfl rfl rfl ?_
    refine xo_ia T_ rfl rfl rfl rfl rfl ⟨by omega, by omega⟩ rfl ?_
    refine xo_faR T_ rfl rfl rfl rfl rfl ?_
    refine xo_loadR0 T_ rfl rfl rfl (by first | assumption | exact RO.fld (by assumption) rfl) rfl ?_
    refine xo_callB (fs := []) (cs := []) rfl rfl rfl store_enters rfl (fun w1 hw1 => store_calls _ _ m x.f1 w1 (Kd.C_below hm hw1.kx.below) (fun y hy => (hmem y hy).2.2) (by omega)) ?_
    refine xo_alloc T_ rfl rfl rfl rfl (fun b8 => ?_)
    refine xo_store T_ rfl rfl rfl rfl (by repeat (first | exact List.Mem.head _ | apply List.Mem.tail | apply List.mem_append_right)) rfl rfl rfl rfl (by repeat (first | exact Upd.head | apply Upd.tail | apply Upd.app)) rfl ?_
    with_reducible refine xo_nil ?_
    with_reducible repeat (first | refine xq_then ?_ | refine xq_blockN ?_ | refine xq_scopeN ?_)
    have hbad : okS (storeF m x.f1) = false → countF r m = false := fun h => by
      rw [countF, hmv, Bool.true_and, ← hok, List.all_eq_false]
      exact ⟨x, hxm, by rw [h]; simp⟩
    cases h5 : decide ((storeF m x.f1).d < (storeF m x.f1).b) <;> cases h6 : decide ((storeF m x.f1).l < 0)
    all_goals
      with_reducible repeat refine xc_seq ?_
      with_reducible refine xc_region ?_
      refine xo_fa T_ rfl rfl rfl rfl rfl ?_
      refine xo_load0 T_ rfl rfl rfl (by repeat (first | exact List.Mem.head _ | apply List.Mem.tail | apply List.mem_append_right)) rfl rfl ?_
      refine xo_fa T_ rfl rfl rfl rfl rfl ?_
      refine xo_load0 T_ rfl rfl rfl (by repeat (first | exact List.Mem.head _ | apply List.Mem.tail | apply List.mem_append_right)) rfl rfl ?_
      refine xo_gtr rfl rfl rfl rfl ?_
      refine xo_as (i := 98) rfl (congrArg Value.bool h5) ?_
      refine xo_mv rfl rfl rfl ?_
      first
        | refine xo_not rfl rfl ?_
        | (refine xo_fa T_ rfl rfl rfl rfl rfl ?_)
      first
        | refine xo_not rfl rfl ?_
        | (refine xo_load0 T_ rfl rfl rfl (by repeat (first | exact List.Mem.head _ | apply List.Mem.tail | apply List.mem_append_right)) rfl rfl ?_)
      first
        | refine xo_not rfl rfl ?_
        | (refine xo_lss rfl rfl rfl rfl ?_)
      first | refine xo_as (i := 102) rfl (congrArg Value.bool h6) ?_ | skip
      first | refine xo_pickT rfl rfl rfl rfl ?_ | refine xo_pickF rfl rfl rfl rfl ?_
      with_reducible refine xo_nil ?_
      with_reducible repeat (first | refine xq_then ?_ | refine xq_blockN ?_ | refine xq_scopeN ?_)
      with_reducible repeat refine xc_seq ?_
      first | refine xc_condT rfl ?_ | refine xc_condF rfl ?_
    rotate_left
    iterate 3
      · with_reducible repeat refine xc_seq ?_
        with_reducible refine xc_region ?_
        refine xo_asg rfl rfl rfl ?_
        with_reducible refine xo_nil ?_
        with_reducible repeat (first | refine xq_then ?_ | refine xq_blockN ?_ | refine xq_scopeN ?_)
        with_reducible repeat refine xc_seq ?_
        with_reducible refine xc_ret ?_
        with_reducible repeat (first | refine xq_thenR ?_ | refine xq_blockR ?_ | refine xq_scopeR ?_)
        exact xq_ret1 rfl rfl fun w' hw => ⟨by rw [hbad (by rw [okS, h5, h6]; rfl)], hw.kx.below⟩
    with_reducible refine xc_skip ?_
    with_reducible repeat (first | refine xq_then ?_ | refine xq_blockN ?_ | refine xq_scopeN ?_)
    with_reducible repeat refine xc_seq ?_
    with_reducible refine xc_region ?_
    refine xo_mv rfl rfl rfl ?_
    refine xo_add rfl rfl rfl (by omega) rfl ?_
    refine xo_asg rfl rfl rfl ?_
    with_reducible refine xo_nil ?_
    with_reducible repeat (first | refine xq_then ?_ | refine xq_blockN ?_ | refine xq_scopeN ?_)
    exact xq_again _ _ _ _ _ (k + 1) ⟨hlt, by rw [hta, hall, okS, h5, h6]; rfl⟩ (by omega) ⟨rfl, rfl, trivial⟩ (List.nil_sublist _)
  · have hge : ¬ k < m.length := by have := of_decide_eq_false h; omega
    rw [List.take_of_length_le (by omega), hok] at hall
    with_reducible refine xc_exit ?_
    with_reducible repeat (first | refine xq_blockX ?_ | refine xq_thenE ?_ | refine xq_blockE rfl ?_ | refine xq_scopeE ?_)
    with_reducible repeat (first | refine xq_then ?_ | refine xq_blockN ?_ | refine xq_scopeN ?_)
    with_reducible repeat refine xc_seq ?_
    with_reducible refine xc_region ?_
    refine xo_asg rfl rfl rfl ?_
    with_reducible refine xo_nil ?_
    with_reducible repeat (first | refine xq_then ?_ | refine xq_blockN ?_ | refine xq_scopeN ?_)
    with_reducible repeat refine xc_seq ?_
    with_reducible refine xc_ret ?_
    with_reducible repeat (first | refine xq_thenR ?_ | refine xq_blockR ?_ | refine xq_scopeR ?_)
    exact xq_ret1 rfl rfl fun w' hw => ⟨by rw [countF, hmv, hall]; rfl, hw.kx.below⟩
theorem moves_enters : ∀ args w, (callFunc 47 args).run Tryd.prog w = .ok (.enter 47 args) w := enters_of Tryd.func47 (by kernel_rfl) rfl
end Go.Proofs.YtcmepdamemnbkaaDoor
namespace Go.Proofs.YtcmepdamemnbkaaDoor
open Go.RowKit Go.Proofs.YtcmepdamemnbkaaDoorW.PrintWords
set_option linter.unusedVariables false
set_option linter.unusedSimpArgs false
def inB (r : List RecT) (H : List Int) : List Bool := r.map fun x => decide (x.f0 ∈ H)
end Go.Proofs.YtcmepdamemnbkaaDoor
namespace Go.Proofs.YtcmepdamemnbkaaDoor
open Go.RowKit Go.Proofs.YtcmepdamemnbkaaDoorW.PrintWords
set_option linter.unusedVariables false
set_option linter.unusedSimpArgs false
theorem recF_before : ∀ (r : List RecT) (bs : List Int) (last : Int) (k : Nat), recF bs last r = true → k < r.length → ∀ way ∈ (r.getD k zRec).f2, ∀ n ∈ way, n ∈ bs ∨ ∃ a, a < k ∧ idAt r a = n
  | [], _, _, _, _, hk, _, _, _, _ => absurd hk (by simp)
  | y :: r, bs, last, 0, h, _, way, hw, n, hn => by
    simp only [recF, Bool.and_eq_true] at h
    obtain ⟨_, h1, h2⟩ := h
    rw [waysF, List.all_eq_true] at h1
    have := h1 way hw
    simp only [Bool.and_eq_true] at this
    exact .inl (wayF_mem way _ this.1 n hn)
  | y :: r, bs, last, k + 1, h, hk, way, hw, n, hn => by
    simp only [recF, Bool.and_eq_true] at h
    obtain ⟨_, h1, h2⟩ := h
    rcases recF_before r _ _ k h2 (by simpa using hk) way (by simpa using hw) n hn with h3 | ⟨a, h3, h4⟩
    · rcases mem_insN.1 h3 with rfl | h3
      · exact .inr ⟨0, by omega, rfl⟩
      · exact .inl h3
    · exact .inr ⟨a + 1, by omega, by simpa [idAt] using h4⟩
theorem recorded_before {r : List RecT} (h : recordedF r = true) {k : Nat} (hk : k < r.length) {way : List Int} (hw : way ∈ (r.getD k zRec).f2) {n : Int} (hn : n ∈ way) : ∃ a, a < k ∧ a < r.length ∧ idAt r a = n := by
  simp only [recordedF, Bool.and_eq_true] at h
  rcases recF_before r _ _ k h.1 hk way hw n hn with h1 | ⟨a, h1, h2⟩
  · cases h1
  · exact ⟨a, h1, by omega, h2⟩
def comeL (id : Int) : List Int → List RecT → List Int
  | come, [] => come
  | come, x :: r => comeL id (if fromF id come x && decide (x.f1 = 3) then insN x.f0 come else come) r
def comesF (r : List RecT) (id : Int) : List Int := comeL id [] r
def cmF (r : List RecT) (id : Int) (k : Nat) : List Int := comeL id [] (r.take k)
def condF (r : List RecT) (id : Int) (k : Nat) : Bool := fromF id (cmF r id k) (r.getD k zRec) && decide ((r.getD k zRec).f1 = 3)
theorem comeL_app (id : Int) : ∀ (xs ys : List RecT) (c : List Int), comeL id c (xs ++ ys) = comeL id (comeL id c xs) ys
  | [], _, _ => rfl
  | x :: xs, ys, c => by
    show comeL id _ (xs ++ ys) = comeL id (comeL id _ xs) ys
    exact comeL_app id xs ys _
theorem cmF_succ {r : List RecT} (id : Int) {k : Nat} (hk : k < r.length) : cmF r id (k + 1) = if condF r id k then insN (idAt r k) (cmF r id k) else cmF r id k := by
  have h1 : r.getD k zRec = r[k] := by simp [List.getD_eq_getElem?_getD, List.getElem?_eq_getElem hk]
  rw [cmF, List.take_succ_eq_append_getElem hk, comeL_app, condF, idAt, h1]
  rfl
theorem cmF_mem {r : List RecT} (id : Int) : ∀ (k : Nat), k ≤ r.length → ∀ n, n ∈ cmF r id k ↔ ∃ i, i < k ∧ idAt r i = n ∧ condF r id i = true
  | 0, _, n => by simp [cmF, comeL]
  | k + 1, hk, n => by
    rw [cmF_succ (r := r) (k := k) id (by omega)]
    have ih := cmF_mem (r := r) id k (by omega) n
    by_cases h : condF r id k = true
    · rw [if_pos h, mem_insN, ih]
      constructor
      · rintro (rfl | ⟨i, h1, h2⟩)
        · exact ⟨k, by omega, rfl, h⟩
        · exact ⟨i, by omega, h2⟩
      · rintro ⟨i, h1, h2, h3⟩
        by_cases e : i = k
        · subst e; exact .inl h2.symm
        · exact .inr ⟨i, by omega, h2, h3⟩
    · rw [if_neg h, ih]
      constructor
      · rintro ⟨i, h1, h2⟩
        exact ⟨i, by omega, h2⟩
      · rintro ⟨i, h1, h2, h3⟩
        by_cases e : i = k
        · subst e; exact absurd h3 h
        · exact ⟨i, by omega, h2, h3⟩
theorem comes_at {r : List RecT} (hs : SortedIds r) (id : Int) {k : Nat} (hk : k < r.length) : decide (idAt r k ∈ comesF r id) = condF r id k := by
  have h := cmF_mem id r.length (Nat.le_refl _) (idAt r k)
  rw [cmF, List.take_of_length_le (Nat.le_refl _)] at h
  rw [Bool.eq_iff_iff, decide_eq_true_eq]
  refine h.trans ⟨?_, fun h1 => ⟨k, hk, rfl, h1⟩⟩
  rintro ⟨i, h1, h2, h3⟩
  have := sorted_inj hs h1 hk h2
  subst this
  exact h3
theorem cm_at {r : List RecT} (hs : SortedIds r) (id : Int) {k a : Nat} (hk : k < r.length) (ha : a < k) : decide (idAt r a ∈ cmF r id k) = decide (idAt r a ∈ comesF r id) := by
  rw [comes_at hs id (by omega : a < r.length), Bool.eq_iff_iff, decide_eq_true_eq, cmF_mem id k (by omega)]
  constructor
  · rintro ⟨i, h1, h2, h3⟩
    have := sorted_inj hs (by omega) (by omega) h2
    subst this
    exact h3
  · intro h
    exact ⟨a, ha, rfl, h⟩
theorem fillB_skip {f : Nat → Bool} {n k : Nat} (h : f k = false) : fillB f n (k + 1) = fillB f n k := by
  apply List.ext_getElem?
  intro i
  by_cases hi : i < n
  · rw [fillB_get _ _ _ _ hi, fillB_get _ _ _ _ hi]
    by_cases e : i = k
    · subst e; simp [h]
    · congr 2
      rw [Bool.eq_iff_iff]
      simp only [decide_eq_true_eq]
      omega
  · have h1 : (fillB f n k)[i]? = none := by rw [List.getElem?_eq_none_iff, fillB_len]; omega
    have h2 : (fillB f n (k + 1))[i]? = none := by rw [List.getElem?_eq_none_iff, fillB_len]; omega
    rw [h1, h2]
/-- the row of truths, its k-th one not yet told to the end -/
def partL (f : Nat → Bool) (n k : Nat) (q : Bool) : List Value := ((fillB f n k).map Value.bool).set (0 + (k : Int).toNat * szN 0) (.bool q)
theorem partL_set (f : Nat → Bool) (n k : Nat) (q q' : Bool) : (partL f n k q).set (0 + (k : Int).toNat * szN 0) (.bool q') = partL f n k q' := by rw [partL, List.set_set]; rfl
theorem partL_full (f : Nat → Bool) (n k : Nat) : partL f n k (f k) = (fillB f n (k + 1)).map Value.bool := by
  rw [partL, show 0 + (k : Int).toNat * szN 0 = k by simp [szN], ← List.map_set, fillB_set]
theorem partL_len (f : Nat → Bool) (n k : Nat) (q : Bool) : (partL f n k q).length = n := by rw [partL, List.length_set, List.length_map, fillB_len]
theorem partL_here (f : Nat → Bool) (n k : Nat) (q : Bool) (h : k < n) : (partL f n k q)[0 + (k : Int).toNat * szN 0]? = some (.bool q) := by
  rw [partL, List.getElem?_set_self (fill_lt h)]
theorem partL_at (f : Nat → Bool) (n k a : Nat) (q : Bool) (h : a < k) (hk : k < n) : (partL f n k q)[0 + (a : Int).toNat * szN 0]? = some (.bool (f a)) := by
  rw [partL, List.getElem?_set_ne (by simp [szN]; omega), fill_load (by omega), decide_eq_true h, Bool.true_and]
theorem any_drop {α : Type} (p : α → Bool) (xs : List α) (z : α) (k : Nat) (hk : k < xs.length) : (xs.drop k).any p = (p (xs.getD k z) || (xs.drop (k + 1)).any p) := by rw [drop_at xs z k hk, List.any_cons]
set_option maxHeartbeats 16000000 in
theorem comes_calls (A : Option Addr) (c : Nat) (r : List RecT) (id : Int) (w : World) (hr : Kd.C recK w A r.length r) (hok : recordedF r = true) :
    Calls Tryd.prog 40 #[.slice A r.length c, .int .i64 id] w fun e w' => ∃ b o, e = .returned (.slice (some ⟨b, 0, none⟩) r.length r.length) ∧ Below w.heap.size w w' ∧ w.heap.size ≤ b ∧ w'.heap[b]? = some o ∧ cel ((inB r (comesF r id)).map .bool) 4 o := by
  have hlen := recorded_len hok
  have hsrt := sorted_of hok
  refine x_calls (X := XNone) Tryd.func40 rfl rfl rfl ?_
  with_reducible repeat refine xc_seq ?_
  with_reducible refine xc_region ?_
  refine xo_asg rfl rfl rfl ?_
  with_reducible refine xo_nil ?_
  with_reducible repeat (first | refine xq_then ?_ | refine xq_blockN ?_ | refine xq_scopeN ?_)
  with_reducible repeat refine xc_seq ?_
  with_reducible refine xc_region ?_
  refine xo_mv rfl rfl rfl ?_
  refine xo_len T_ rfl rfl rfl rfl ?_
  refine xo_mks TR_ rfl rfl rfl rfl rfl rfl (by omega) (by omega) rfl (fun b5 => ?_)
  refine xo_asg rfl rfl rfl ?_
  with_reducible refine xo_nil ?_
  with_reducible repeat (first | refine xq_then ?_ | refine xq_blockN ?_ | refine xq_scopeN ?_)
  with_reducible repeat refine xc_seq ?_
  with_reducible refine xc_region ?_
  refine xo_asg rfl rfl rfl ?_
  with_reducible refine xo_nil ?_
  with_reducible repeat (first | refine xq_then ?_ | refine xq_blockN ?_ | refine xq_scopeN ?_)
  with_reducible repeat refine xc_seq ?_
  with_reducible refine xc_block ?_
  refine xc_loop (γ := Nat) (fun k => k ≤ r.length) (fun k => [(0, .slice A r.length c), (1, .int .i64 id), (5, .slice (some ⟨b5, 0, none⟩) r.length r.length), (6, .int .i64 (k : Int))])
    (fun k => [(b5, true, cel ((fillB (fun i => decide (idAt r i ∈ comesF r id)) r.length k).map .bool) 4)]) (fun k => r.length - k) 0 (Nat.zero_le _) ⟨rfl, rfl, rfl, rfl, trivial⟩ (by rw [fillB_zero, List.map_replicate]; exact List.Sublist.refl _) ?_
  intro k hk1
  with_reducible repeat refine xc_seq ?_
  with_reducible refine xc_region ?_
  refine xo_mv rfl rfl rfl ?_
  refine xo_mv rfl rfl rfl ?_
  refine xo_len T_ rfl rfl rfl rfl ?_
  refine xo_lss rfl rfl rfl rfl ?_
  with_reducible refine xo_nil ?_
  with_reducible repeat (first | refine xq_then ?_ | refine xq_blockN ?_ | refine xq_scopeN ?_)
  with_reducible repeat refine xc_seq ?_
  refine xc_cond rfl (fun h => ?_) (fun h => ?_)
  · have hlt : k < r.length := by have := of_decide_eq_true h; omega
    obtain ⟨ad, A2, c2, rfl, r1, hc2, hw2⟩ := rec_at hr k hlt
    have hat := comes_at hsrt id hlt
    rw [condF] at hat
    have hkn : ∀ way ∈ (r.getD k zRec).f2, ∀ n ∈ way, ∃ a, a < k ∧ atF r n = (a : Int) ∧ decide (idAt r a ∈ comesF r id) = decide (n ∈ cmF r id k) := fun way hway n hn => by
      obtain ⟨a, h1, h2, h3⟩ := recorded_before hok hlt hway hn
      obtain ⟨a', h4, h5, h6⟩ := atF_known (recorded_known hok (getD_mem r zRec k hlt) hway hn)
      have := sorted_inj hsrt h4 h2 (h6.trans h3.symm)
      subst this
      exact ⟨a', h1, h5, by rw [← cm_at hsrt id hlt h1, h3]⟩
    have hn2 := hw2.2.1
    generalize r.getD k zRec = x at *
    generalize cmF r id k = come at *
    with_reducible refine xc_skip ?_
    with_reducible repeat (first | refine xq_then ?_ | refine xq_blockN ?_ | refine xq_scopeN ?_)
    with_reducible repeat refine xc_seq ?_
    with_reducible refine xc_block ?_
    with_reducible repeat refine xc_seq ?_
    with_reducible refine xc_region ?_
    refine xo_mv rfl rfl rfl ?_
    refine xo_mv rfl rfl rfl ?_
    refine xo_ia T_ rfl rfl rfl rfl rfl ⟨by omega, by omega⟩ rfl ?_
    refine xo_faR T_ rfl rfl rfl rfl rfl ?_
    refine xo_loadR0 T_ rfl rfl rfl (by first | assumption | exact RO.fld (by assumption) rfl) rfl ?_
    refine xo_neq rfl rfl rfl rfl ?_
    with_reducible refine xo_nil ?_
    with_reducible repeat (first | refine xq_then ?_ | refine xq_blockN ?_ | refine xq_scopeN ?_)
    with_reducible repeat refine xc_seq ?_
    refine xc_cond rfl (fun h3 => ?_) (fun h3 => ?_)
    · have h3 : ¬ x.f1 = 3 := by simpa using h3
      rw [decide_eq_false h3, Bool.and_false] at hat
      with_reducible refine xc_exit ?_
      with_reducible repeat (first | refine xq_blockX ?_ | refine xq_thenE ?_ | refine xq_blockE rfl ?_ | refine xq_scopeE ?_)
      with_reducible repeat (first | refine xq_then ?_ | refine xq_blockN ?_ | refine xq_scopeN ?_)
      with_reducible repeat refine xc_seq ?_
      with_reducible refine xc_region ?_
      refine xo_mv rfl rfl rfl ?_
      refine xo_add rfl rfl rfl (by omega) rfl ?_
      refine xo_asg rfl rfl rfl ?_
      with_reducible refine xo_nil ?_
      with_reducible repeat (first | refine xq_then ?_ | refine xq_blockN ?_ | refine xq_scopeN ?_)
      exact xq_again _ _ _ _ _ (k + 1) (by omega) (by omega) ⟨rfl, rfl, rfl, rfl, trivial⟩ (by rw [fillB_skip (f := fun i => decide (idAt r i ∈ comesF r id)) hat]; exact (by repeat (first | exact List.Sublist.refl _ | apply List.Sublist.cons_cons | apply List.Sublist.cons | exact List.nil_sublist _)))
    have h3 : x.f1 = 3 := by simpa using h3
    rw [decide_eq_true h3, Bool.and_true] at hat
    with_reducible refine xc_skip ?_
    with_reducible repeat (first | refine xq_then ?_ | refine xq_blockN ?_ | refine xq_scopeN ?_)
    with_reducible repeat refine xc_seq ?_
    with_reducible refine xc_region ?_
    refine xo_mv rfl rfl rfl ?_
    refine xo_mv rfl rfl rfl ?_
    refine xo_mv rfl rfl rfl ?_
    refine xo_mv rfl rfl rfl ?_
    refine xo_ia T_ rfl rfl rfl rfl rfl ⟨by omega, by omega⟩ rfl ?_
    refine xo_faR T_ rfl rfl rfl rfl rfl ?_
    refine xo_loadR0 T_ rfl rfl rfl (by first | assumption | exact RO.fld (by assumption) rfl) rfl ?_
    refine xo_mv rfl rfl rfl ?_
    refine xo_eql rfl rfl rfl rfl ?_
    refine xo_ia T_ rfl rfl rfl rfl rfl ⟨by omega, by omega⟩ rfl ?_
    refine xo_storeI T_ (η' := [(b5, true, cel (partL (fun i => decide (idAt r i ∈ comesF r id)) r.length k (decide (x.f0 = id))) 4)]) rfl rfl rfl rfl (by repeat (first | exact List.Mem.head _ | apply List.Mem.tail | apply List.mem_append_right)) rfl rfl (fill_lt hlt) Upd.head rfl ?_
    with_reducible refine xo_nil ?_
    with_reducible repeat (first | refine xq_then ?_ | refine xq_blockN ?_ | refine xq_scopeN ?_)
    with_reducible repeat refine xc_seq ?_
    with_reducible refine xc_region ?_
    refine xo_asg rfl rfl rfl ?_
    with_reducible refine xo_nil ?_
    with_reducible repeat (first | refine xq_then ?_ | refine xq_blockN ?_ | refine xq_scopeN ?_)
    with_reducible repeat refine xc_seq ?_
    with_reducible refine xc_block ?_
    refine xc_loop (γ := Nat × Bool) (fun q => q.1 ≤ x.f2.length ∧ fromF id come x = (q.2 || (x.f2.drop q.1).any (wayP id come)))
      (fun q => [(0, .slice (some ad) r.length c), (1, .int .i64 id), (5, .slice (some ⟨b5, 0, none⟩) r.length r.length), (6, .int .i64 (k : Int)), (7, .int .i64 (q.1 : Int))])
      (fun q => [(b5, true, cel (partL (fun i => decide (idAt r i ∈ comesF r id)) r.length k q.2) 4)]) (fun q => x.f2.length - q.1) (0, decide (x.f0 = id))
      ⟨Nat.zero_le _, rfl⟩ ⟨rfl, rfl, rfl, rfl, rfl, trivial⟩ (by repeat (first | exact List.Sublist.refl _ | apply List.Sublist.cons_cons | apply List.Sublist.cons | exact List.nil_sublist _)) ?_
    rintro ⟨i, an⟩ ⟨hi1, hst⟩
    simp only at hi1 hst ⊢
    with_reducible repeat refine xc_seq ?_
    with_reducible refine xc_region ?_
    refine xo_mv rfl rfl rfl ?_
    refine xo_mv rfl rfl rfl ?_
    refine xo_mv rfl rfl rfl ?_
    refine xo_ia T_ rfl rfl rfl rfl rfl ⟨by omega, by omega⟩ rfl ?_
    refine xo_faR T_ rfl rfl rfl rfl rfl ?_
    refine xo_loadR0 T_ rfl rfl rfl (by first | assumption | exact RO.fld (by assumption) rfl) rfl ?_
    refine xo_len T_ rfl rfl rfl rfl ?_
    refine xo_lss rfl rfl rfl rfl ?_
    with_reducible refine xo_nil ?_
    with_reducible repeat (first | refine xq_then ?_ | refine xq_blockN ?_ | refine xq_scopeN ?_)
    with_reducible repeat refine xc_seq ?_
    refine xc_cond rfl (fun h => ?_) (fun h => ?_)
    · have hil : i < x.f2.length := by have := of_decide_eq_true h; omega
      obtain ⟨ad2, A4, c4, rfl, r3, hc3, hw3⟩ := way_at hw2 i hil
      rw [any_drop _ _ [] _ hil, ← Bool.or_assoc] at hst
      have hkw := hkn _ (getD_mem x.f2 [] i hil)
      generalize x.f2.getD i [] = way at *
      have hn3 := hw3.2.1
      with_reducible refine xc_skip ?_
      with_reducible repeat (first | refine xq_then ?_ | refine xq_blockN ?_ | refine xq_scopeN ?_)
      with_reducible repeat refine xc_seq ?_
      with_reducible refine xc_block ?_
      with_reducible repeat refine xc_seq ?_
      with_reducible refine xc_region ?_
      refine xo_asg rfl rfl rfl ?_
      with_reducible refine xo_nil ?_
      with_reducible repeat (first | refine xq_then ?_ | refine xq_blockN ?_ | refine xq_scopeN ?_)
      with_reducible repeat refine xc_seq ?_
      with_reducible refine xc_block ?_
      refine xc_loop (γ := Nat × Bool) (fun q => q.1 ≤ way.length ∧ (an || wayP id come way) = (q.2 || (way.drop q.1).any fun n => decide (n = id) || decide (n ∈ come)))
        (fun q => [(0, .slice (some ad) r.length c), (1, .int .i64 id), (5, .slice (some ⟨b5, 0, none⟩) r.length r.length), (6, .int .i64 (k : Int)), (7, .int .i64 (i : Int)), (8, .int .i64 (q.1 : Int))])
        (fun q => [(b5, true, cel (partL (fun i => decide (idAt r i ∈ comesF r id)) r.length k q.2) 4)]) (fun q => way.length - q.1) (0, an)
        ⟨Nat.zero_le _, rfl⟩ ⟨rfl, rfl, rfl, rfl, rfl, rfl, trivial⟩ (by repeat (first | exact List.Sublist.refl _ | apply List.Sublist.cons_cons | apply List.Sublist.cons | exact List.nil_sublist _)) ?_
      rintro ⟨j, al⟩ ⟨hj1, hal⟩
      simp only at hj1 hal ⊢
      with_reducible repeat refine xc_seq ?_
      with_reducible refine xc_region ?_
      refine xo_mv rfl rfl rfl ?_
      refine xo_mv rfl rfl rfl ?_
      refine xo_mv rfl rfl rfl ?_
      refine xo_ia T_ rfl rfl rfl rfl rfl ⟨by omega, by omega⟩ rfl ?_
      refine xo_faR T_ rfl rfl rfl rfl rfl ?_
      refine xo_loadR0 T_ rfl rfl rfl (by first | assumption | exact RO.fld (by assumption) rfl) rfl ?_
      refine xo_mv rfl rfl rfl ?_
      refine xo_ia T_ rfl rfl rfl rfl rfl ⟨by omega, by omega⟩ rfl ?_
      refine xo_loadR0 T_ rfl rfl rfl (by first | assumption | exact RO.fld (by assumption) rfl) rfl ?_
      refine xo_len T_ rfl rfl rfl rfl ?_
      refine xo_lss rfl rfl rfl rfl ?_
      with_reducible refine xo_nil ?_
      with_reducible repeat (first | refine xq_then ?_ | refine xq_blockN ?_ | refine xq_scopeN ?_)
      with_reducible repeat refine xc_seq ?_
      refine xc_cond rfl (fun h => ?_) (fun h => ?_)
      · have hjl : j < way.length := by have := of_decide_eq_true h; omega
        obtain ⟨ad4, rfl, r4⟩ := int_at hw3 j hjl
        rw [any_drop _ _ 0 _ hjl] at hal
        obtain ⟨a, ha1, ha2, ha3⟩ := hkw _ (getD_mem way 0 j hjl)
        generalize way.getD j 0 = n at *
        with_reducible refine xc_skip ?_
        with_reducible repeat (first | refine xq_then ?_ | refine xq_blockN ?_ | refine xq_scopeN ?_)
        with_reducible repeat refine xc_seq ?_
        with_reducible refine xc_block ?_
        with_reducible repeat refine xc_seq ?_
        with_reducible refine xc_region ?_
        refine xo_mv rfl rfl rfl ?_
        refine xo_mv rfl rfl rfl ?_
        refine xo_ia T_ rfl rfl rfl rfl rfl ⟨by omega, by omega⟩ rfl ?_
        refine xo_faR T_ rfl rfl rfl rfl rfl ?_
        refine xo_loadR0 T_ rfl rfl rfl (by first | assumption | exact RO.fld (by assumption) rfl) rfl ?_
        refine xo_mv rfl rfl rfl ?_
        refine xo_ia T_ rfl rfl rfl rfl rfl ⟨by omega, by omega⟩ rfl ?_
        refine xo_loadR0 T_ rfl rfl rfl (by first | assumption | exact RO.fld (by assumption) rfl) rfl ?_
        refine xo_mv rfl rfl rfl ?_
        refine xo_ia T_ rfl rfl rfl rfl rfl ⟨by omega, by omega⟩ rfl ?_
        refine xo_loadR0 T_ rfl rfl rfl (by first | assumption | exact RO.fld (by assumption) rfl) rfl ?_
        refine xo_asg rfl rfl rfl ?_
        with_reducible refine xo_nil ?_
        with_reducible repeat (first | refine xq_then ?_ | refine xq_blockN ?_ | refine xq_scopeN ?_)
        cases hb : al
        · subst hb
          cases hb2 : decide (n = id)
          · rw [hb2] at hal
            with_reducible repeat refine xc_seq ?_
            with_reducible refine xc_region ?_
            refine xo_mv rfl rfl rfl ?_
            refine xo_mv rfl rfl rfl ?_
            refine xo_mv rfl rfl rfl ?_
            refine xo_mv rfl rfl rfl ?_
            refine xo_ia T_ rfl rfl rfl rfl rfl ⟨by omega, by omega⟩ rfl ?_
            refine xo_loadI T_ rfl rfl rfl (by repeat (first | exact List.Mem.head _ | apply List.Mem.tail | apply List.mem_append_right)) (partL_here _ _ _ _ hlt) rfl ?_
            refine xo_mv rfl rfl rfl ?_
            first
              | refine xo_not rfl rfl ?_
              | (refine xo_mv rfl rfl rfl ?_)
            first
              | refine xo_not rfl rfl ?_
              | (refine xo_mv rfl rfl rfl ?_)
            first
              | refine xo_not rfl rfl ?_
              | (refine xo_eql rfl rfl rfl rfl ?_)
            refine xo_as (i := 78) rfl (congrArg Value.bool hb2) ?_
            first | refine xo_pickT rfl rfl rfl rfl ?_ | refine xo_pickF rfl rfl rfl rfl ?_
            refine xo_mv rfl rfl rfl ?_
            first
              | refine xo_not rfl rfl ?_
              | (refine xo_mv rfl rfl rfl ?_)
            first
              | refine xo_not rfl rfl ?_
              | (refine xo_mv rfl rfl rfl ?_)
            first
              | refine xo_not rfl rfl ?_
              | (refine xo_mv rfl rfl rfl ?_)
            first
              | refine xo_not rfl rfl ?_
              | (refine xo_callB (v := .int .i64 (a : Int)) (fs := []) (cs := []) rfl rfl rfl at_enters rfl (fun w1 hw1 => by rw [← ha2]; exact at_calls _ _ _ _ w1 (Kd.C_below hr hw1.kx.below)) ?_)
            first
              | refine xo_not rfl rfl ?_
              | (refine xo_ia T_ rfl rfl rfl rfl rfl ⟨by omega, by omega⟩ rfl ?_)
            first
              | refine xo_not rfl rfl ?_
              | (refine xo_loadI T_ rfl rfl rfl (by repeat (first | exact List.Mem.head _ | apply List.Mem.tail | apply List.mem_append_right)) (by rw [partL_at _ _ _ _ _ ha1 hlt, ha3]) rfl ?_)
            first | refine xo_pickT rfl rfl rfl rfl ?_ | refine xo_pickF rfl rfl rfl rfl ?_
            refine xo_ia T_ rfl rfl rfl rfl rfl ⟨by omega, by omega⟩ rfl ?_
            refine xo_storeI T_ (η' := [(b5, true, cel (partL (fun i => decide (idAt r i ∈ comesF r id)) r.length k (decide (n ∈ come))) 4)]) rfl rfl rfl rfl (by repeat (first | exact List.Mem.head _ | apply List.Mem.tail | apply List.mem_append_right)) rfl rfl (by rw [partL_len]; simpa [szN] using hlt) (by rw [partL_set]; exact Upd.head) rfl ?_
            with_reducible refine xo_nil ?_
            with_reducible repeat (first | refine xq_then ?_ | refine xq_blockN ?_ | refine xq_scopeN ?_)
            with_reducible repeat refine xc_seq ?_
            with_reducible refine xc_region ?_
            refine xo_mv rfl rfl rfl ?_
            refine xo_add rfl rfl rfl (by omega) rfl ?_
            refine xo_asg rfl rfl rfl ?_
            with_reducible refine xo_nil ?_
            with_reducible repeat (first | refine xq_then ?_ | refine xq_blockN ?_ | refine xq_scopeN ?_)
            exact xq_again _ _ _ _ _ (j + 1, decide (n ∈ come)) ⟨by omega, by rw [hal]; simp⟩ (by first | omega | (simp only; omega)) ⟨rfl, rfl, rfl, rfl, rfl, rfl, trivial⟩ (by repeat (first | exact List.Sublist.refl _ | apply List.Sublist.cons_cons | apply List.Sublist.cons | exact List.nil_sublist _))
          · rw [hb2] at hal
            with_reducible repeat refine xc_seq ?_
            with_reducible refine xc_region ?_
            refine xo_mv rfl rfl rfl ?_
            refine xo_mv rfl rfl rfl ?_
            refine xo_mv rfl rfl rfl ?_
            refine xo_mv rfl rfl rfl ?_
            refine xo_ia T_ rfl rfl rfl rfl rfl ⟨by omega, by omega⟩ rfl ?_
            refine xo_loadI T_ rfl rfl rfl (by repeat (first | exact List.Mem.head _ | apply List.Mem.tail | apply List.mem_append_right)) (partL_here _ _ _ _ hlt) rfl ?_
            refine xo_mv rfl rfl rfl ?_
            first
              | refine xo_not rfl rfl ?_
              | (refine xo_mv rfl rfl rfl ?_)
            first
              | refine xo_not rfl rfl ?_
              | (refine xo_mv rfl rfl rfl ?_)
            first
              | refine xo_not rfl rfl ?_
              | (refine xo_eql rfl rfl rfl rfl ?_)
            refine xo_as (i := 78) rfl (congrArg Value.bool hb2) ?_
            first | refine xo_pickT rfl rfl rfl rfl ?_ | refine xo_pickF rfl rfl rfl rfl ?_
            refine xo_mv rfl rfl rfl ?_
            first
              | refine xo_not rfl rfl ?_
              | (refine xo_mv rfl rfl rfl ?_)
            first
              | refine xo_not rfl rfl ?_
              | (refine xo_mv rfl rfl rfl ?_)
            first
              | refine xo_not rfl rfl ?_
              | (refine xo_mv rfl rfl rfl ?_)
            first
              | refine xo_not rfl rfl ?_
              | (skip)
            first
              | refine xo_not rfl rfl ?_
              | (refine xo_ia T_ rfl rfl rfl rfl rfl ⟨by omega, by omega⟩ rfl ?_)
            first
              | refine xo_not rfl rfl ?_
              | (skip)
            first | refine xo_pickT rfl rfl rfl rfl ?_ | refine xo_pickF rfl rfl rfl rfl ?_
            refine xo_ia T_ rfl rfl rfl rfl rfl ⟨by omega, by omega⟩ rfl ?_
            refine xo_storeI T_ (η' := [(b5, true, cel (partL (fun i => decide (idAt r i ∈ comesF r id)) r.length k true) 4)]) rfl rfl rfl rfl (by repeat (first | exact List.Mem.head _ | apply List.Mem.tail | apply List.mem_append_right)) rfl rfl (by rw [partL_len]; simpa [szN] using hlt) (by rw [partL_set]; exact Upd.head) rfl ?_
            with_reducible refine xo_nil ?_
            with_reducible repeat (first | refine xq_then ?_ | refine xq_blockN ?_ | refine xq_scopeN ?_)
            with_reducible repeat refine xc_seq ?_
            with_reducible refine xc_region ?_
            refine xo_mv rfl rfl rfl ?_
            refine xo_add rfl rfl rfl (by omega) rfl ?_
            refine xo_asg rfl rfl rfl ?_
            with_reducible refine xo_nil ?_
            with_reducible repeat (first | refine xq_then ?_ | refine xq_blockN ?_ | refine xq_scopeN ?_)
            exact xq_again _ _ _ _ _ (j + 1, true) ⟨by omega, by rw [hal]; simp⟩ (by first | omega | (simp only; omega)) ⟨rfl, rfl, rfl, rfl, rfl, rfl, trivial⟩ (by repeat (first | exact List.Sublist.refl _ | apply List.Sublist.cons_cons | apply List.Sublist.cons | exact List.nil_sublist _))
        · subst hb
          with_reducible repeat refine xc_seq ?_
          with_reducible refine xc_region ?_
          refine xo_mv rfl rfl rfl ?_
          refine xo_mv rfl rfl rfl ?_
          refine xo_mv rfl rfl rfl ?_
          refine xo_mv rfl rfl rfl ?_
          refine xo_ia T_ rfl rfl rfl rfl rfl ⟨by omega, by omega⟩ rfl ?_
          refine xo_loadI T_ rfl rfl rfl (by repeat (first | exact List.Mem.head _ | apply List.Mem.tail | apply List.mem_append_right)) (partL_here _ _ _ _ hlt) rfl ?_
          refine xo_mv rfl rfl rfl ?_
          first
            | refine xo_not rfl rfl ?_
            | (refine xo_mv rfl rfl rfl ?_)
          first
            | refine xo_not rfl rfl ?_
            | (refine xo_mv rfl rfl rfl ?_)
          first
            | refine xo_not rfl rfl ?_
            | (refine xo_eql rfl rfl rfl rfl ?_)
          first | refine xo_pickT rfl rfl rfl rfl ?_ | refine xo_pickF rfl rfl rfl rfl ?_
          refine xo_mv rfl rfl rfl ?_
          first
            | refine xo_not rfl rfl ?_
            | (refine xo_mv rfl rfl rfl ?_)
          first
            | refine xo_not rfl rfl ?_
            | (refine xo_mv rfl rfl rfl ?_)
          first
            | refine xo_not rfl rfl ?_
            | (refine xo_mv rfl rfl rfl ?_)
          first
            | refine xo_not rfl rfl ?_
            | (skip)
          first
            | refine xo_not rfl rfl ?_
            | (refine xo_ia T_ rfl rfl rfl rfl rfl ⟨by omega, by omega⟩ rfl ?_)
          first
            | refine xo_not rfl rfl ?_
            | (skip)
          first | refine xo_pickT rfl rfl rfl rfl ?_ | refine xo_pickF rfl rfl rfl rfl ?_
          refine xo_ia T_ rfl rfl rfl rfl rfl ⟨by omega, by omega⟩ rfl ?_
          refine xo_storeI T_ (η' := [(b5, true, cel (partL (fun i => decide (idAt r i ∈ comesF r id)) r.length k true) 4)]) rfl rfl rfl rfl (by repeat (first | exact List.Mem.head _ | apply List.Mem.tail | apply List.mem_append_right)) rfl rfl (by rw [partL_len]; simpa [szN] using hlt) (by rw [partL_set]; exact Upd.head) rfl ?_
          with_reducible refine xo_nil ?_
          with_reducible repeat (first | refine xq_then ?_ | refine xq_blockN ?_ | refine xq_scopeN ?_)
          with_reducible repeat refine xc_seq ?_
          with_reducible refine xc_region ?_
          refine xo_mv rfl rfl rfl ?_
          refine xo_add rfl rfl rfl (by omega) rfl ?_
          refine xo_asg rfl rfl rfl ?_
          with_reducible refine xo_nil ?_
          with_reducible repeat (first | refine xq_then ?_ | refine xq_blockN ?_ | refine xq_scopeN ?_)
          exact xq_again _ _ _ _ _ (j + 1, true) ⟨by omega, by rw [hal]; simp⟩ (by first | omega | (simp only; omega)) ⟨rfl, rfl, rfl, rfl, rfl, rfl, trivial⟩ (by repeat (first | exact List.Sublist.refl _ | apply List.Sublist.cons_cons | apply List.Sublist.cons | exact List.nil_sublist _))
      · have hge : ¬ j < way.length := by have := of_decide_eq_false h; omega
        rw [List.drop_of_length_le (by omega), List.any_nil, Bool.or_false] at hal
        with_reducible refine xc_exit ?_
        with_reducible repeat (first | refine xq_blockX ?_ | refine xq_thenE ?_ | refine xq_blockE rfl ?_ | refine xq_scopeE ?_)
        with_reducible repeat (first | refine xq_then ?_ | refine xq_blockN ?_ | refine xq_scopeN ?_)
        with_reducible repeat refine xc_seq ?_
        with_reducible refine xc_region ?_
        refine xo_mv rfl rfl rfl ?_
        refine xo_add rfl rfl rfl (by omega) rfl ?_
        refine xo_asg rfl rfl rfl ?_
        with_reducible refine xo_nil ?_
        with_reducible repeat (first | refine xq_then ?_ | refine xq_blockN ?_ | refine xq_scopeN ?_)
        exact xq_again _ _ _ _ _ (i + 1, al) ⟨by omega, by rw [hst, hal]⟩ (by first | omega | (simp only; omega)) ⟨rfl, rfl, rfl, rfl, rfl, trivial⟩ (by repeat (first | exact List.Sublist.refl _ | apply List.Sublist.cons_cons | apply List.Sublist.cons | exact List.nil_sublist _))
    · have hge : ¬ i < x.f2.length := by have := of_decide_eq_false h; omega
      rw [List.drop_of_length_le (by omega), List.any_nil, Bool.or_false] at hst
      rw [hst] at hat
      with_reducible refine xc_exit ?_
      with_reducible repeat (first | refine xq_blockX ?_ | refine xq_thenE ?_ | refine xq_blockE rfl ?_ | refine xq_scopeE ?_)
      with_reducible repeat (first | refine xq_then ?_ | refine xq_blockN ?_ | refine xq_scopeN ?_)
      with_reducible repeat refine xc_seq ?_
      with_reducible refine xc_region ?_
      refine xo_mv rfl rfl rfl ?_
      refine xo_add rfl rfl rfl (by omega) rfl ?_
      refine xo_asg rfl rfl rfl ?_
      with_reducible refine xo_nil ?_
      with_reducible repeat (first | refine xq_then ?_ | refine xq_blockN ?_ | refine xq_scopeN ?_)
      exact xq_again _ _ _ _ _ (k + 1) (by omega) (by omega) ⟨rfl, rfl, rfl, rfl, trivial⟩ (by rw [← partL_full]; simp only [hat]; exact (by repeat (first | exact List.Sublist.refl _ | apply List.Sublist.cons_cons | apply List.Sublist.cons | exact List.nil_sublist _)))
  · have hge : ¬ k < r.length := by have := of_decide_eq_false h; omega
    have hkk : k = r.length := by omega
    subst hkk
    with_reducible refine xc_exit ?_
    with_reducible repeat (first | refine xq_blockX ?_ | refine xq_thenE ?_ | refine xq_blockE rfl ?_ | refine xq_scopeE ?_)
    with_reducible repeat (first | refine xq_then ?_ | refine xq_blockN ?_ | refine xq_scopeN ?_)
    with_reducible repeat refine xc_seq ?_
    with_reducible refine xc_region ?_
    refine xo_mv rfl rfl rfl ?_
    refine xo_asg rfl rfl rfl ?_
    with_reducible refine xo_nil ?_
    with_reducible repeat (first | refine xq_then ?_ | refine xq_blockN ?_ | refine xq_scopeN ?_)
    with_reducible repeat refine xc_seq ?_
    with_reducible refine xc_ret ?_
    with_reducible repeat (first | refine xq_thenR ?_ | refine xq_blockR ?_ | refine xq_scopeR ?_)
    refine xq_ret1 rfl rfl fun w' hw => ?_
    obtain ⟨o, h1, h2⟩ := hw.bl _ (List.Mem.head _)
    refine ⟨b5, o, rfl, hw.kx.below, hw.own (List.Mem.head _), h1, ?_⟩
    rw [inB, ← fill_all (fun i => decide (i ∈ comesF r id))]
    exact h2
theorem comes_enters : ∀ args w, (callFunc 40 args).run Tryd.prog w = .ok (.enter 40 args) w := enters_of Tryd.func40 (by kernel_rfl) rfl
end Go.Proofs.YtcmepdamemnbkaaDoor
namespace Go.Proofs.YtcmepdamemnbkaaDoor
open Go.Shelf Go.RowKit
set_option maxRecDepth 100000
def ren189 : Ren := ⟨fun n => bif Nat.beq n 125 then 85 else bif Nat.beq n 128 then 96 else bif Nat.beq n 129 then 97 else bif Nat.beq n 189 then 72 else bif Nat.beq n 215 then 98 else bif Nat.beq n 216 then 93 else bif Nat.beq n 257 then 84 else bif Nat.beq n 294 then 87 else bif Nat.beq n 295 then 88 else bif Nat.beq n 296 then 89 else bif Nat.beq n 297 then 90 else bif Nat.beq n 298 then 91 else bif Nat.beq n 299 then 92 else bif Nat.beq n 300 then 94 else bif Nat.beq n 301 then 95 else bif Nat.beq n 328 then 99 else bif Nat.beq n 329 then 100 else bif Nat.beq n 330 then 101 else bif Nat.beq n 331 then 102 else bif Nat.beq n 332 then 103 else bif Nat.beq n 343 then 104 else n, fun n => bif Nat.beq n 0 then 0 else bif Nat.beq n 3 then 3 else bif Nat.beq n 4 then 4 else bif Nat.beq n 5 then 5 else bif Nat.beq n 9 then 9 else bif Nat.beq n 28 then 33 else bif Nat.beq n 46 then 126 else bif Nat.beq n 51 then 59 else bif Nat.beq n 53 then 138 else bif Nat.beq n 131 then 65 else bif Nat.beq n 182 then 129 else bif Nat.beq n 183 then 130 else bif Nat.beq n 218 then 139 else bif Nat.beq n 222 then 143 else bif Nat.beq n 228 then 145 else bif Nat.beq n 229 then 146 else n, fun n => n⟩
theorem lays189 : Lays.n189 Tryd.prog ren189 where
  mixed := T_.mixed
  f125 := by kernel_rfl
  f128 := by kernel_rfl
  f129 := by kernel_rfl
  f189 := by kernel_rfl
  f215 := by kernel_rfl
  f216 := by kernel_rfl
  f257 := by kernel_rfl
  f294 := by kernel_rfl
  f295 := by kernel_rfl
  f296 := by kernel_rfl
  f297 := by kernel_rfl
  f298 := by kernel_rfl
  f299 := by kernel_rfl
  f300 := by kernel_rfl
  f301 := by kernel_rfl
  f328 := by kernel_rfl
  f329 := by kernel_rfl
  f330 := by kernel_rfl
  f331 := by kernel_rfl
  f332 := by kernel_rfl
  f343 := by kernel_rfl
  t0 := by kernel_rfl
  a0 := fun w => by kernel_rfl
  z0 := fun w => by kernel_rfl
  v0 := fun w => by kernel_rfl
  t3 := by kernel_rfl
  a3 := fun w => by kernel_rfl
  z3 := fun w => by kernel_rfl
  v3 := fun w => by kernel_rfl
  t4 := by kernel_rfl
  a4 := fun w => by kernel_rfl
  z4 := fun w => by kernel_rfl
  v4 := fun w => by kernel_rfl
  t5 := by kernel_rfl
  a5 := fun w => by kernel_rfl
  z5 := fun w => by kernel_rfl
  v5 := fun w => by kernel_rfl
  t9 := by kernel_rfl
  a9 := fun w => by kernel_rfl
  z9 := fun w => by kernel_rfl
  v9 := fun w => by kernel_rfl
  t28 := by kernel_rfl
  a28 := fun w => by kernel_rfl
  z28 := fun w => by kernel_rfl
  v28 := fun w => by kernel_rfl
  t46 := by kernel_rfl
  a46 := fun w => by kernel_rfl
  z46 := fun w => by kernel_rfl
  v46 := fun w => by kernel_rfl
  t51 := by kernel_rfl
  a51 := fun w => by kernel_rfl
  z51 := fun w => by kernel_rfl
  v51 := fun w => by kernel_rfl
  t53 := by kernel_rfl
  a53 := fun w => by kernel_rfl
  z53 := fun w => by kernel_rfl
  v53 := fun w => by kernel_rfl
  t131 := by kernel_rfl
  a131 := fun w => by kernel_rfl
  z131 := fun w => by kernel_rfl
  v131 := fun w => by kernel_rfl
  t182 := by kernel_rfl
  a182 := fun w => by kernel_rfl
  z182 := fun w => by kernel_rfl
  v182 := fun w => by kernel_rfl
  t183 := by kernel_rfl
  a183 := fun w => by kernel_rfl
  z183 := fun w => by kernel_rfl
  v183 := fun w => by kernel_rfl
  t218 := by kernel_rfl
  a218 := fun w => by kernel_rfl
  z218 := fun w => by kernel_rfl
  v218 := fun w => by kernel_rfl
  t222 := by kernel_rfl
  a222 := fun w => by kernel_rfl
  z222 := fun w => by kernel_rfl
  v222 := fun w => by kernel_rfl
  t228 := by kernel_rfl
  a228 := fun w => by kernel_rfl
  z228 := fun w => by kernel_rfl
  v228 := fun w => by kernel_rfl
  t229 := by kernel_rfl
  a229 := fun w => by kernel_rfl
  z229 := fun w => by kernel_rfl
  v229 := fun w => by kernel_rfl
end Go.Proofs.YtcmepdamemnbkaaDoor
