/- origin.delays: an iterator over all lists of delays, each in memory of its own; slices.Clone, slices.Backward. / origin: how far all rooms are from one another, as cells; gates as edges; how many lists of delays there are. / origin.open: its last region, drawn: two rows are appended to, in any order that their operations allow. / origin: the table of kinds, what is right and what is said by a mark -/
import Derived.Test.YtommeljlfkmpjaaDoorPkLawOriginTells3
set_option linter.unusedVariables false
set_option linter.unusedSimpArgs false
namespace Go.Proofs.YtommeljlfkmpjaaDoor
open Go.RowKit Go.Proofs.YtommeljlfkmpjaaDoorW.PrintWords
theorem add_blk (a : Addr) (i : Nat) : (a.add i).block = a.block := by unfold Addr.add; split <;> rfl
theorem RO.blk {w w' : World} {p : Addr} {cs : List Value} (h : RO w XNone p cs) (e : w'.heap[p.block]? = w.heap[p.block]?) : RO w' XNone p cs := fun j v hj => by
 refine ⟨?_, fun q => q⟩
 have h1 := (h j v hj).1
 have h2 : (p.add j).block = p.block := add_blk p j
 unfold World.cell? at h1 ⊢
 rw [h2, e]
 rw [h2] at h1
 exact h1
theorem RO.wr {w : World} {X : Nat → Prop} {p : Addr} {cs : List Value} (h : RO w XNone p cs) (hX : ¬ X p.block) : RO w X p cs := fun j v hj => ⟨(h j v hj).1, by rw [add_blk]; exact hX⟩
def RowOf {α : Type} (V : α → List Value) (sz : Nat) (z : α) (w : World) (A : Option Addr) (xs : List α) : Prop := ∀ k, k < xs.length → ∃ ad, A = some ad ∧ RO w XNone (ad.add ((k : Int).toNat * szN sz)) (V (xs.getD k z))
def holdsA (K : Nat → Prop) (A : Option Addr) : Prop := ∀ ad, A = some ad → K ad.block
theorem RowOf.keep {α : Type} {V : α → List Value} {sz : Nat} {z : α} {w w' : World} {A : Option Addr} {xs : List α} (h : RowOf V sz z w A xs) (K : Nat → Prop) (hK : 0 < xs.length → holdsA K A) (e : ∀ k, K k → w'.heap[k]? = w.heap[k]?) : RowOf V sz z w' A xs := fun k hk => by
 obtain ⟨ad, e1, h1⟩ := h k hk
 exact ⟨ad, e1, h1.blk (by rw [add_blk]; exact e _ (hK (by omega) ad e1))⟩
theorem RowOf.below {α : Type} {V : α → List Value} {sz : Nat} {z : α} {w w' : World} {A : Option Addr} {xs : List α} (h : RowOf V sz z w A xs) (hb : Below w.heap.size w w') : RowOf V sz z w' A xs := fun k hk => by
 obtain ⟨ad, e1, h1⟩ := h k hk
 exact ⟨ad, e1, fun j v hj => ⟨(Kx.of_below (X := XNone) hb).cell (h1 j v hj).1 (fun q => q), fun q => q⟩⟩
theorem gat_row {w : World} {A : Option Addr} {gs : List GatT} (h : Kd.C gatK w A gs.length gs) : RowOf gatV 4 zGat w A gs := fun k hk => gat_at h k hk
theorem mar_row {w : World} {A : Option Addr} {ms : List MarT} (h : Kd.C marK w A ms.length ms) : RowOf marV 7 zMar w A ms := fun k hk => mar_at h k hk
theorem x_iterM {P : Program} {g : Nat} {fn : Func} {c : Code} {cs : List Value} {m : Nat} {W : World} {R : Ending → World → Prop} {X : Nat → Prop} {η : Hp} {l : Nat} (hf : P.funcs[g]? = some fn) (hb : fn.body = some c) {N : Nat} (hn : fn.ntmps = N) (hl : Nat.ble (cs.length + 1) N = true) (hw : WOK W X η W)
  (h : XC P none m N [] W X (bodyPostM Fence.wide m P fn R) (argS 0 (.func (.yield l) #[] #[] :: cs)) η c) : CallsIn Fence.wide m P g (#[.func (.yield l) #[] #[]] ++ cs.toArray) W R := by
 subst hn
 have := callsIn_of_wp_marks (F := Fence.wide) (n := m) (args := (.func (.yield l) #[] #[] :: cs).toArray) hf hb trivial (h _ W (SOK.args _ _ (by simpa using Nat.le_of_ble_eq_true hl)) hw) rfl
 simpa using this
theorem nilS_eq (x y : Operand) (p : Addr) (n c : Nat) (w : World) : (eqGuard .eql 34 x y (.slice (some p) n c) (.slice none 0 0)).run Tryd.prog w = .ok () w ∧ (binOp .eql 34 (.slice (some p) n c) (.slice none 0 0)).run Tryd.prog w = .ok (.bool false) w := by
 have h := run_equal_slice_nil (P := Tryd.prog) w 34 3 (some p) n c Tryd.underlying34
 refine ⟨by go_simp, ?_⟩
 simp [binOp, h]
theorem cloneI_enters : ∀ args w, (callFunc 85 args).run Tryd.prog w = .ok (.enter 85 args) w := enters_of Tryd.func85 (by kernel_rfl) rfl
theorem cloneI_calls (B : Nat) (l : List Int) (n : Nat) (w : World) (hn : n = l.length) (hl : n ≤ 1000) (hB : RO w XNone ⟨B, 0, none⟩ (l.map (.int .i64))) :
  Calls Tryd.prog 85 #[.slice (some ⟨B, 0, none⟩) n n] w fun e w' => ∃ b cap, e = .returned (.slice (some ⟨b, 0, none⟩) n cap) ∧ w.heap.size ≤ b ∧ (∃ o, w'.heap[b]? = some o ∧ orow 3 1 n cap (l.map (.int .i64)) o) ∧ Below w.heap.size w w' := by
 refine x_calls (X := XNone) Tryd.func85 rfl rfl rfl ?_
 with_reducible ((repeat apply xc_seq); apply xcR)
 refine xoA ?_
 with_reducible (apply xo_nil; (repeat first | apply xqT | apply xqB | apply xqS); (repeat apply xc_seq); apply xcR)
 refine xoM ?_
 refine xo_eqlV rfl rfl rfl (nilS_eq _ _ _ _ _) rfl ?_
 with_reducible (apply xo_nil; (repeat first | apply xqT | apply xqB | apply xqS); (repeat apply xc_seq))
 refine xc_condF rfl ?_
 with_reducible (apply xc_skip; (repeat first | apply xqT | apply xqB | apply xqS); (repeat apply xc_seq); apply xcR)
 refine xo_bs0 T_ 1 rfl rfl rfl rfl (fun b5 => ?_)
 refine xoM ?_
 refine xo_appE TR_ (news := l.map (.int .i64)) rfl rfl rfl rfl rfl rfl rfl rfl (by simp [hn]) (fun q => by cases q) (fun p hp w1 hw1 j u hj => by cases hp; exact hw1.kx.cell (hB j u hj).1 (fun q => q)) (by simp [Value.oneCell']) (by omega) rfl rfl (fun b7 cap => ?_)
 refine xoA ?_
 with_reducible (apply xo_nil; (repeat first | apply xqT | apply xqB | apply xqS); (repeat apply xc_seq); apply xc_ret; (repeat (first | apply xq_thenR | apply xq_blockR | apply xq_scopeR)))
 exact xq_ret1 rfl rfl fun w' hw => ⟨b7, cap, rfl, hw.own (List.Mem.head _), hw.bl _ (List.Mem.head _), hw.kx.below⟩
def encB (x : Nat × GatT) : List Value := [.int .i64 (x.1 : Int), .agg (gatV x.2).toArray]
def nextB (gs : List GatT) (pre : List (Nat × GatT)) (x : Nat × GatT) : Prop := pre.length < gs.length ∧ x = (gs.length - 1 - pre.length, gs.getD (gs.length - 1 - pre.length) zGat)
theorem backward_enters : ∀ args w, (callFunc 101 args).run Tryd.prog w = .ok (.enter 101 args) w := enters_of Tryd.func101 (by kernel_rfl) rfl
set_option maxHeartbeats 8000000 in
theorem backward_seq (n : Nat) (gs : List GatT) (A : Option Addr) (c : Nat) (b1 : Nat) (K : Nat → Prop) (w : World) (hg6 : gs.length ≤ 6) (hA : RowOf gatV 4 zGat w A gs) (h1 : RO w XNone ⟨b1, 0, none⟩ [.slice A gs.length c]) (hKlt : ∀ k, K k → k < w.heap.size) (hK1 : K b1) (hKA : 0 < gs.length → holdsA K A) :
  SeqO n Tryd.prog 101 [.pointer (some ⟨b1, 0, none⟩)] encB (fun _ => []) (nextB gs) (fun xs => xs.length = gs.length) K w := by
 intro l J Jx W hbW aJ aJx hJ0 hy
 have hAW := hA.below hbW
 have h1W : RO W XNone ⟨b1, 0, none⟩ [.slice A gs.length c] := fun j v hj => ⟨(Kx.of_below (X := XNone) hbW).cell (h1 j v hj).1 (fun q => q), fun q => q⟩
 have hKW : ∀ k, K k → k < W.heap.size := fun k hk => Nat.lt_of_lt_of_le (hKlt k hk) hbW.size
 clear hA h1 hbW
 refine x_iter Tryd.func101 rfl rfl rfl (WOK.start XNone W) ?_
 with_reducible ((repeat apply xc_seq); apply xcR)
 refine xo_loadR0 T_ rfl rfl rfl h1W rfl ?_
 refine xo_len T_ rfl rfl rfl rfl ?_
 refine xo_sub rfl rfl rfl (by omega) rfl ?_
 refine xoA ?_
 with_reducible (apply xo_nil; (repeat first | apply xqT | apply xqB | apply xqS); (repeat apply xc_seq); apply xc_block)
 have hX0 : ∀ b, ¬ XW ([] : Hp) b := fun b ⟨e, he, _⟩ => by cases he
 refine xc_loopJ (γ := List (Nat × GatT)) (fun pre => pre.length ≤ gs.length) (fun pre => [(0, .func (.yield l) #[] #[]), (1, .pointer (some ⟨b1, 0, none⟩)), (3, .int .i64 ((gs.length : Int) - 1 - (pre.length : Int)))]) (fun _ => [])
  (fun pre V => ∃ O, IterRel J K W O pre V) (fun pre => gs.length - pre.length) [] (Nat.zero_le _) ⟨rfl, rfl, by simp [slot, putS], trivial⟩
  (fun V hV => ⟨⟨(fun e he => by cases he), List.nodup_nil⟩, ?_⟩) ?_
 ·obtain ⟨O, h, _⟩ := (IterRel.start (K := K) hJ0).step aJ hKW (fun i q => q.elim) hV (fun e he => by cases he)
  exact ⟨O, h⟩
 rintro pre hpl V hbok ⟨O, hJ⟩
 have hAV := hAW.keep K hKA hJ.2.1
 have h1V := h1W.blk (hJ.2.1 _ hK1)
 with_reducible ((repeat apply xc_seq); apply xcR)
 refine xoM ?_
 refine xo_geq rfl rfl rfl rfl ?_
 with_reducible (apply xo_nil; (repeat first | apply xqT | apply xqB | apply xqS); (repeat apply xc_seq))
 refine xc_cond rfl (fun h => ?_) (fun h => ?_)
 ·have hlt : pre.length < gs.length := by have := of_decide_eq_true h; omega
  obtain ⟨ad, rfl, hR⟩ := hAV (gs.length - 1 - pre.length) (by omega)
  have e1 : ((gs.length : Int) - 1 - (pre.length : Int)) = ((gs.length - 1 - pre.length : Nat) : Int) := by omega
  with_reducible (apply xc_skip; (repeat first | apply xqT | apply xqB | apply xqS))
  refine xc_slots [(0, .func (.yield l) #[] #[]), (1, .pointer (some ⟨b1, 0, none⟩)), (3, .int .i64 ((gs.length - 1 - pre.length : Nat) : Int))] ⟨rfl, rfl, by rw [← e1]; rfl, trivial⟩ ?_
  with_reducible ((repeat apply xc_seq); apply xc_block; (repeat apply xc_seq); apply xcR)
  refine xoM ?_
  refine xoM ?_
  refine xo_loadR0 T_ rfl rfl rfl (h1V.wr (hX0 _)) rfl ?_
  refine xoM ?_
  refine xo_ia T_ rfl rfl rfl rfl rfl ⟨by omega, by omega⟩ rfl ?_
  refine xo_loadRN T_ rfl rfl rfl (hR.wr (hX0 _)) rfl rfl ?_
  refine xo_yieldO (K := K) (W := W) (O := O) (gs.length - 1 - pre.length, gs.getD (gs.length - 1 - pre.length) zGat) [] rfl rfl rfl rfl aJ hKW hy hJ (fun i q => absurd q (hX0 i)) ⟨hlt, rfl⟩ (List.nil_sublist _) (fun e he => by cases he) (fun O' V' hr' _ _ => ?_) (fun O' V' hx' _ _ => ?_)
  rotate_left
  ·refine xo_notOp rfl rfl rfl ?_
   with_reducible (apply xo_nil; (repeat first | apply xqT | apply xqB | apply xqS))
   refine xc_condT rfl ?_
   with_reducible (apply xc_ret; (repeat (first | apply xq_thenR | apply xq_blockR | apply xq_scopeR)))
   exact xq_ret0 rfl fun w2 hw2 => ⟨⟨_, rfl⟩, .inr ⟨O', _, aJx O' O' _ V' w2 hx' (hw2.kx.mono fun i q => absurd q (hX0 i)) (fun i q => .inl q)⟩⟩
  refine xo_notOp rfl rfl rfl ?_
  with_reducible (apply xo_nil; (repeat first | apply xqT | apply xqB | apply xqS); (repeat apply xc_seq))
  refine xc_condF rfl ?_
  with_reducible (apply xc_skip; (repeat first | apply xqT | apply xqB | apply xqS); (repeat apply xc_seq); apply xcR)
  refine xoM ?_
  refine xo_sub rfl rfl rfl (by omega) rfl ?_
  refine xoA ?_
  with_reducible (apply xo_nil; (repeat first | apply xqT | apply xqB | apply xqS))
  refine xq_againJ _ _ _ _ _ _ (pre ++ [(gs.length - 1 - pre.length, gs.getD (gs.length - 1 - pre.length) zGat)]) (by simp; omega) (by simp; omega) ⟨rfl, rfl, ?_, trivial⟩ (fun w1 hw1 => ⟨hw1.bok (List.nil_sublist _), ?_⟩)
  ·simp [slot, putS]
   omega
  ·obtain ⟨O2, h2, _⟩ := hr'.step aJ hKW (fun i q => absurd q (hX0 i)) (hw1.sub (List.nil_sublist _)) (fun e he => by cases he)
   exact ⟨O2, h2⟩
 ·have hge : pre.length = gs.length := by have := of_decide_eq_false h; omega
  with_reducible (apply xc_exit; (repeat (first | apply xq_blockX | apply xq_thenE | refine xq_blockE rfl ?_ | apply xq_scopeE)))
  refine xq_end0 rfl fun w2 hw2 => ⟨⟨_, rfl⟩, .inl ?_⟩
  obtain ⟨O2, h2, _⟩ := hJ.step aJ hKW (fun i q => absurd q (hX0 i)) (hw2.sub (List.nil_sublist _)) (fun e he => by cases he)
  exact ⟨O2, pre, hge, h2.1⟩
theorem backwardF_calls (A : Option Addr) (n c : Nat) (w : World) : Calls Tryd.prog 86 #[.slice A n c] w fun e w' => ∃ b, e = .returned (.func (.func 101) #[] #[.pointer (some ⟨b, 0, none⟩)]) ∧ w.heap.size ≤ b ∧ w'.heap[b]? = some (.cells #[.slice A n c] 22 (0, 0)) ∧ Below w.heap.size w w' := by
 refine x_calls (X := XNone) Tryd.func86 rfl rfl rfl ?_
 with_reducible ((repeat apply xc_seq); apply xcR)
 refine xo_box rfl rfl rfl rfl (fun b1 => ?_)
 refine xoA ?_
 with_reducible (apply xo_nil; (repeat first | apply xqT | apply xqB | apply xqS); (repeat apply xc_seq); apply xcR)
 refine xo_mkf rfl rfl rfl rfl ?_
 refine xoA ?_
 with_reducible (apply xo_nil; (repeat first | apply xqT | apply xqB | apply xqS); (repeat apply xc_seq); apply xc_ret; (repeat (first | apply xq_thenR | apply xq_blockR | apply xq_scopeR)))
 exact xq_ret1 rfl rfl fun w' hw => ⟨b1, rfl, hw.own (List.Mem.head _), hw.obj (wr := true) (cs := [.slice A n c]) (List.Mem.head _), hw.kx.below⟩
theorem backwardF_enters : ∀ args w, (callFunc 86 args).run Tryd.prog w = .ok (.enter 86 args) w := enters_of Tryd.func86 (by kernel_rfl) rfl
abbrev DelT := (Nat × Nat) × List Int
def encD (x : DelT) : List Value := [.slice (some ⟨x.1.1, 0, none⟩) x.2.length x.1.2]
def haD (x : DelT) : Hp := [(x.1.1, true, orow 3 1 x.2.length x.1.2 (x.2.map (.int .i64)))]
def nextL (gs : List GatT) (pre : List DelT) (x : DelT) : Prop := ∃ rest, allD gs = pre.map (·.2) ++ x.2 :: rest
def marksH (Ds : List Nat) : Hp := Ds.map fun D => (D, true, hdef)
def GatesOK (gs : List GatT) : Prop := gs.length ≤ 6 ∧ ∀ g ∈ gs, 0 ≤ g.f2.f0 ∧ g.f2.f0 ≤ g.f2.f1 ∧ g.f2.f1 ≤ 60
def nowL (gs : List GatT) (k : Nat) : List Int := (leastD gs).take k ++ List.replicate (gs.length - k) 0
theorem leastD_len (gs : List GatT) : (leastD gs).length = gs.length := by simp [leastD]
theorem nowL_len (gs : List GatT) (k : Nat) (hk : k ≤ gs.length) : (nowL gs k).length = gs.length := by simp [nowL, leastD_len]; omega
theorem leastD_at (gs : List GatT) (k : Nat) (hk : k < gs.length) : (leastD gs)[k]? = some (gs.getD k zGat).f2.f0 := by
 simp [leastD, List.getD_eq_getElem?_getD, List.getElem?_eq_getElem hk]
theorem nowL_set (gs : List GatT) (k : Nat) (hk : k < gs.length) : (nowL gs k).set k (gs.getD k zGat).f2.f0 = nowL gs (k + 1) := by
 have h1 : ((leastD gs).take k).length = k := by simp [leastD_len]; omega
 have h2 : gs.length - k = (gs.length - (k + 1)) + 1 := by omega
 unfold nowL
 rw [List.set_append_right _ _ (by omega), h1, Nat.sub_self, h2, List.replicate_succ, List.set_cons_zero, List.take_add_one, leastD_at gs k hk]
 simp
theorem nowL_end (gs : List GatT) : nowL gs gs.length = leastD gs := by
 unfold nowL
 rw [Nat.sub_self, List.take_of_length_le (by rw [leastD_len]; exact Nat.le_refl _)]
 simp
def backL (gs : List GatT) (now : List Int) (p : Nat) : List Int := now.take (gs.length - p) ++ (leastD gs).drop (gs.length - p)
theorem backL_len (gs : List GatT) (now : List Int) (p : Nat) (hn : now.length = gs.length) : (backL gs now p).length = gs.length := by simp [backL, leastD_len, hn]
theorem backL_at (gs : List GatT) (now : List Int) (p : Nat) (hn : now.length = gs.length) (hp : p < gs.length) : (backL gs now p)[gs.length - 1 - p]? = some (now.getD (gs.length - 1 - p) 0) := by
 unfold backL
 rw [List.getElem?_append_left (by simp [hn]; omega), List.getElem?_take, if_pos (by omega)]
 simp [List.getD_eq_getElem?_getD, List.getElem?_eq_getElem (show gs.length - 1 - p < now.length by omega)]
theorem backL_set (gs : List GatT) (now : List Int) (p : Nat) (v : Int) (hn : now.length = gs.length) (hp : p < gs.length) : (backL gs now p).set (gs.length - 1 - p) v = now.take (gs.length - 1 - p) ++ v :: (leastD gs).drop (gs.length - p) := by
 unfold backL
 have h1 : gs.length - p = (gs.length - 1 - p) + 1 := by omega
 rw [List.set_append_left _ _ (by simp [hn]; omega)]
 rw [show now.take (gs.length - p) = now.take (gs.length - 1 - p) ++ [now.getD (gs.length - 1 - p) 0] by
  rw [h1, List.take_add_one]
  simp [List.getD_eq_getElem?_getD, List.getElem?_eq_getElem (show gs.length - 1 - p < now.length by omega)]]
 rw [List.set_append_right _ _ (by simp [hn]; omega)]
 have h3 : gs.length - 1 - p - min (gs.length - 1 - p) gs.length = 0 := by omega
 simp [hn, h3]
theorem backL_succ (gs : List GatT) (now : List Int) (p : Nat) (hn : now.length = gs.length) (hp : p < gs.length) : (backL gs now p).set (gs.length - 1 - p) (gs.getD (gs.length - 1 - p) zGat).f2.f0 = backL gs now (p + 1) := by
 rw [backL_set gs now p _ hn hp]
 unfold backL
 have h1 : gs.length - (p + 1) = gs.length - 1 - p := by omega
 rw [h1]
 congr 1
 have h2 : (leastD gs).length = gs.length := leastD_len gs
 rw [List.drop_eq_getElem_cons (show gs.length - 1 - p < (leastD gs).length by omega), show gs.length - p = gs.length - 1 - p + 1 by omega]
 congr 1
 have := leastD_at gs (gs.length - 1 - p) (by omega)
 rw [List.getElem?_eq_getElem (by omega)] at this
 exact (Option.some.inj this).symm
theorem split_at {α : Type} (xs : List α) (z : α) (k : Nat) (hk : k < xs.length) : xs.drop k = xs.getD k z :: xs.drop (k + 1) := drop_at xs z k hk
theorem nextD_back {gs : List GatT} {now : List Int} {p : Nat} (hn : now.length = gs.length) (hp : p < gs.length) (h : nextD (gs.drop (gs.length - p)) (now.drop (gs.length - p)) = none) (hlt : now.getD (gs.length - 1 - p) 0 < (gs.getD (gs.length - 1 - p) zGat).f2.f1) :
  nextD gs now = some ((backL gs now p).set (gs.length - 1 - p) (now.getD (gs.length - 1 - p) 0 + 1)) := by
 rw [backL_set gs now p _ hn hp]
 have h1 : gs.length - p = gs.length - 1 - p + 1 := by omega
 have h2 := nextD_app (g1 := gs.take (gs.length - 1 - p)) (l1 := now.take (gs.length - 1 - p)) (g2 := gs.drop (gs.length - 1 - p)) (l2 := now.drop (gs.length - 1 - p)) (by simp [hn]) (r := (now.getD (gs.length - 1 - p) 0 + 1) :: leastD (gs.drop (gs.length - p))) (by
  rw [split_at gs zGat _ (by omega), split_at now 0 _ (by omega), ← h1]
  exact nextD_some_cons h hlt)
 rw [List.take_append_drop, List.take_append_drop] at h2
 rw [h2]
 simp [leastD, List.map_drop]
theorem nextD_back2 {gs : List GatT} {now : List Int} {p : Nat} (hn : now.length = gs.length) (hp : p < gs.length) (h : nextD (gs.drop (gs.length - p)) (now.drop (gs.length - p)) = none) (hlt : ¬ now.getD (gs.length - 1 - p) 0 < (gs.getD (gs.length - 1 - p) zGat).f2.f1) :
  nextD (gs.drop (gs.length - (p + 1))) (now.drop (gs.length - (p + 1))) = none := by
 have h1 : gs.length - p = gs.length - 1 - p + 1 := by omega
 rw [show gs.length - (p + 1) = gs.length - 1 - p by omega, split_at gs zGat _ (by omega), split_at now 0 _ (by omega), ← h1]
 exact nextD_none_cons h hlt
theorem delays1_enters : ∀ args w, (callFunc 84 args).run Tryd.prog w = .ok (.enter 84 args) w := enters_of Tryd.func84 (by kernel_rfl) rfl
theorem map_set_int (l : List Int) (k : Nat) (v : Int) : (l.map (Value.int .i64)).set k (.int .i64 v) = (l.set k v).map (.int .i64) := by rw [List.map_set]
theorem map_rep0 (n : Nat) : List.replicate n (Value.int .i64 0) = (List.replicate n (0 : Int)).map (.int .i64) := by simp
set_option maxHeartbeats 20000000 in
theorem delays_seq (n : Nat) (R E : Int) (gs : List GatT) (A B : Option Addr) (c m c2 : Nat) (b1 : Nat) (K : Nat → Prop) (w : World) (hg : GatesOK gs) (hA : RowOf gatV 4 zGat w A gs) (h1 : RO w XNone ⟨b1, 0, none⟩ (scnV R A gs.length c E B m c2)) (hKlt : ∀ k, K k → k < w.heap.size) (hK1 : K b1) (hKA : 0 < gs.length → holdsA K A) :
  SeqO n Tryd.prog 84 [.pointer (some ⟨b1, 0, none⟩)] encD haD (nextL gs) (fun xs => xs.map (·.2) = allD gs) K w := by
 obtain ⟨hg6, hgo⟩ := hg
 have hgle : ∀ g ∈ gs, g.f2.f0 ≤ g.f2.f1 := fun g hm => (hgo g hm).2.1
 intro l J Jx W hbW aJ aJx hJ0 hy
 have hAW := hA.below hbW
 have h1W : RO W XNone ⟨b1, 0, none⟩ (scnV R A gs.length c E B m c2) := fun j v hj => ⟨(Kx.of_below (X := XNone) hbW).cell (h1 j v hj).1 (fun q => q), fun q => q⟩
 have hKW : ∀ k, K k → k < W.heap.size := fun k hk => Nat.lt_of_lt_of_le (hKlt k hk) hbW.size
 clear hA h1 hbW
 refine x_iterM Tryd.func84 rfl rfl rfl (WOK.start XNone W) ?_
 with_reducible (apply xc_scope; (repeat apply xc_seq); apply xcR)
 refine xo_faR T_ rfl rfl rfl rfl rfl ?_
 refine xo_loadR0 T_ rfl rfl rfl (h1W.fld (j := 1) rfl) rfl ?_
 refine xo_len T_ rfl rfl rfl rfl ?_
 refine xo_mks TR_ (m := gs.length) rfl rfl rfl rfl rfl rfl (by omega) (by omega) rfl (fun b11 => ?_)
 refine xo_alloc T_ rfl rfl rfl rfl (fun b3 => ?_)
 refine xo_store T_ rfl rfl rfl rfl (by repeat first | exact mH | apply mT | apply mA) rfl rfl rfl rfl (by repeat first | exact Upd.head | apply Upd.tail | apply Upd.app) rfl ?_
 with_reducible (apply xo_nil; (repeat first | apply xqT | apply xqB | apply xqS); (repeat apply xc_seq); apply xcR)
 refine xo_faR T_ rfl rfl rfl rfl rfl ?_
 refine xo_loadR0 T_ rfl rfl rfl (h1W.fld (j := 1) rfl) rfl ?_
 refine xo_len T_ rfl rfl rfl rfl ?_
 refine xoM ?_
 with_reducible (apply xo_nil; (repeat first | apply xqT | apply xqB | apply xqS); (repeat apply xc_seq); apply xc_block)
 refine xc_loop (γ := Nat) (fun k => k ≤ gs.length) (fun k => [(0, .func (.yield l) #[] #[]), (1, .pointer (some ⟨b1, 0, none⟩)), (3, .pointer (some ⟨b3, 0, none⟩)), (13, .slice A gs.length c), (14, .int .i64 (gs.length : Int)), (15, .int .i64 (k : Int))])
  (fun k => [(b3, true, cel [.slice (some ⟨b11, 0, none⟩) gs.length gs.length] 34), (b11, true, cel ((nowL gs k).map (.int .i64)) 3)]) (fun k => gs.length - k) 0 (Nat.zero_le _) ⟨rfl, rfl, rfl, rfl, rfl, rfl, trivial⟩ (by rw [map_rep0]; simp only [nowL, List.take_zero, List.nil_append, Nat.sub_zero]; exact (by repeat (first | exact List.Sublist.refl _ | apply List.Sublist.cons_cons | apply List.Sublist.cons | exact List.nil_sublist _))) ?_
 intro k hk
 with_reducible ((repeat apply xc_seq); apply xcR)
 refine xo_lss rfl rfl rfl rfl ?_
 with_reducible (apply xo_nil; (repeat first | apply xqT | apply xqB | apply xqS); (repeat apply xc_seq))
 refine xc_cond rfl (fun h => ?_) (fun h => ?_)
 ·have hlt : k < gs.length := by have := of_decide_eq_true h; omega
  obtain ⟨ad, rfl, hR⟩ := hAW k hlt
  have hset := nowL_set gs k hlt
  have hlen := nowL_len gs k (by omega)
  generalize gs.getD k zGat = g at hR hset
  with_reducible (apply xc_skip; (repeat first | apply xqT | apply xqB | apply xqS); (repeat apply xc_seq); apply xc_block; (repeat apply xc_seq); apply xcR)
  refine xoM ?_
  refine xo_ia T_ rfl rfl rfl rfl rfl ⟨by omega, by omega⟩ rfl ?_
  refine xo_loadRN T_ rfl rfl rfl (by assumption) rfl rfl ?_
  refine xo_alloc T_ rfl rfl rfl rfl (fun b5 => ?_)
  refine xoA ?_
  refine xo_store T_ rfl rfl rfl rfl (by repeat first | exact mH | apply mT | apply mA) rfl rfl rfl rfl (by repeat first | exact Upd.head | apply Upd.tail | apply Upd.app) rfl ?_
  with_reducible (apply xo_nil; (repeat first | apply xqT | apply xqB | apply xqS); (repeat apply xc_seq); apply xcR)
  refine xo_load0 T_ rfl rfl rfl (by repeat first | exact mH | apply mT | apply mA) rfl rfl ?_
  refine xoM ?_
  refine xo_fa T_ rfl rfl rfl rfl rfl ?_
  refine xo_fa T_ rfl rfl rfl rfl rfl ?_
  refine xo_load0 T_ rfl rfl rfl (by repeat first | exact mH | apply mT | apply mA) rfl rfl ?_
  refine xo_ia T_ rfl rfl rfl rfl rfl ⟨by omega, by omega⟩ rfl ?_
  refine xo_storeI T_ (k := (k : Int).toNat * szN 0) rfl rfl rfl rfl (by repeat first | exact mH | apply mT | apply mA) rfl rfl (by simp [szN, hlen]; omega) (by repeat first | exact Upd.head | apply Upd.tail | apply Upd.app) rfl ?_
  with_reducible (apply xo_nil; (repeat first | apply xqT | apply xqB | apply xqS); (repeat apply xc_seq); apply xcR)
  refine xo_add rfl rfl rfl (by omega) rfl ?_
  refine xoM ?_
  with_reducible (apply xo_nil; (repeat first | apply xqT | apply xqB | apply xqS))
  exact xq_again _ _ _ _ _ (k + 1) (by omega) (by omega) ⟨rfl, rfl, rfl, rfl, rfl, rfl, trivial⟩ (by
   rw [← hset, ← map_set_int, show 0 + (k : Int).toNat * szN 0 = k by simp [szN]]
   exact (by repeat (first | exact List.Sublist.refl _ | apply List.Sublist.cons_cons | apply List.Sublist.cons | exact List.nil_sublist _)))
 have hge : k = gs.length := by have := of_decide_eq_false h; omega
 subst hge
 rw [nowL_end]
 with_reducible (apply xc_exit; (repeat (first | apply xq_blockX | apply xq_thenE | refine xq_blockE rfl ?_ | apply xq_scopeE)); (repeat first | apply xqT | apply xqB | apply xqS); (repeat apply xc_seq); apply xc_label; (repeat first | apply xqT | apply xqB | apply xqS); (repeat apply xc_seq); apply xc_block)
 have hbn : ∀ i, ¬ XNone i := fun i q => q
 let H3 : List Nat → List Int → Hp := fun Ds now => marksH Ds ++ [(b3, true, cel [.slice (some ⟨b11, 0, none⟩) gs.length gs.length] 34), (b11, true, cel (now.map (.int .i64)) 3)]
 have hH3s : ∀ Ds (L : List Int) k v, H3 Ds (L.set k v) = marksH Ds ++ [(b3, true, cel [.slice (some ⟨b11, 0, none⟩) gs.length gs.length] 34), (b11, true, cel ((L.map (.int .i64)).set k (.int .i64 v)) 3)] := fun Ds L k v => by rw [map_set_int]
 have hH3w : ∀ Ds now, ∀ e ∈ H3 Ds now, e.2.1 = true := by
  intro Ds now e he
  rcases List.mem_append.1 he with he | he
  ·obtain ⟨D, _, rfl⟩ := List.mem_map.1 he; rfl
  ·simp only [List.mem_cons, List.not_mem_nil, or_false] at he
   rcases he with rfl | rfl <;> rfl
 refine xc_loopM (γ := List DelT × List Nat × List Int) (fun g => allD gs = g.1.map (·.2) ++ tailD gs g.2.2 ∧ okD gs g.2.2) (fun g => [(0, .func (.yield l) #[] #[]), (1, .pointer (some ⟨b1, 0, none⟩)), (3, .pointer (some ⟨b3, 0, none⟩))])
  (fun g => H3 g.2.1 g.2.2) (fun g => g.2.1.map mark_) (fun g V => ∃ O, IterRel J K W O g.1 V ∧ ∀ i, XW (H3 g.2.1 g.2.2) i → O i ∧ W.heap.size ≤ i) (fun g => (tailD gs g.2.2).length) ([], [], leastD gs) ⟨by rw [tailD_least hgle]; rfl, least_ok hgle⟩ rfl ⟨rfl, rfl, rfl, trivial⟩ (fun V hV => ⟨hV.bok (List.Sublist.refl _), ?_⟩) ?_
 ·obtain ⟨O, h2, h3, _⟩ := (IterRel.start (K := K) hJ0).step aJ hKW (fun i q => q.elim) hV (hH3w [] (leastD gs))
  exact ⟨O, h2, fun i ⟨e, he, _, hi⟩ => hi ▸ h3 e he⟩
 rintro ⟨pre, Ds, now⟩ ⟨hall, hok⟩ V hbok ⟨O, hJ, hO⟩
 simp only at hall hok hbok hJ hO ⊢
 have hlen : now.length = gs.length := okD_len hok
 have hall' := hall
 rw [tailD_step hgle hok] at hall'
 have hT : ∀ b cap, nextL gs pre ((b, cap), now) := fun b cap => ⟨_, hall'⟩
 with_reducible ((repeat apply xc_seq); apply xcR)
 refine xoM ?_
 refine xo_load0 T_ rfl rfl rfl (by repeat first | exact mH | apply mT | apply mA) rfl rfl ?_
 refine xo_call (fs := []) (cs := []) rfl rfl rfl cloneI_enters rfl (fun w1 hw1 => (cloneI_calls b11 now gs.length w1 hlen.symm (by omega) (hw1.ro (wr := true) (t := 3) (by repeat first | exact mH | apply mT | apply mA))).mono ?_)
 rintro e w2 ⟨b, cap, rfl, hb1, ⟨o, ho, hφ⟩, hb⟩
 refine ⟨_, _, rfl, hw1.more hb hb1 ho hφ, ?_⟩
 clear hb ho hφ hb1 hw1
 refine xo_yieldO (K := K) (W := W) (O := O) (enc := encD) (HA := haD) ((b, cap), now) (H3 Ds now) rfl rfl (by simp only [encD, hlen]; rfl) rfl aJ hKW hy hJ hO (hT b cap) (by simp only [haD, hlen]; exact List.Sublist.refl _) ?_ (fun O' V' hr' hb' hO' => ?_) (fun O' V' hx' hb' hO' => ?_)
 ·intro e he
  rcases List.mem_cons.1 he with rfl | he
  ·rfl
  ·exact hH3w Ds now e he
 rotate_left
 ·with_reducible apply xo_nil
  with_reducible (repeat first | apply xqT | apply xqB | apply xqS)
  refine xc_condF rfl ?_
  with_reducible (apply xc_exit; (repeat (first | apply xq_blockX | apply xq_thenE | refine xq_blockE rfl ?_ | apply xq_scopeE)); (repeat first | apply xqT | apply xqB | apply xqS))
  refine xq_ofMn Ds (xq_end0 rfl fun w2 hw2 => ⟨⟨_, rfl⟩, .inr ⟨O', _, aJx O' O' _ V' w2 hx' (hw2.kx.mono hO') (fun i q => .inl q)⟩⟩)
 with_reducible (apply xo_nil; (repeat first | apply xqT | apply xqB | apply xqS); (repeat apply xc_seq))
 refine xc_condT rfl ?_
 with_reducible (apply xc_skip; (repeat first | apply xqT | apply xqB | apply xqS); (repeat apply xc_seq); apply xc_block)
 have hAV' := hAW.keep K hKA hr'.2.1
 have h1V' := h1W.blk (hr'.2.1 _ hK1)
 have hnX : ∀ k, K k → ¬ XW (H3 Ds now) k := fun k hk q => absurd (hKW k hk) (Nat.not_lt.2 (hO' k q).2)
 with_reducible ((repeat apply xc_seq); apply xcR)
 refine xo_faR T_ rfl rfl rfl rfl rfl ?_
 refine xo_loadR0 T_ rfl rfl rfl ((h1V'.wr (hnX _ hK1)).fld (j := 1) rfl) rfl ?_
 refine xo_call (fs := []) (cs := []) rfl rfl rfl backwardF_enters rfl (fun w1 hw1 => (backwardF_calls A gs.length c w1).mono ?_)
 rintro e w2 ⟨bb, rfl, hb1, ho, hb⟩
 refine ⟨_, _, rfl, hw1.more (φ := cel [.slice A gs.length c] 22) hb hb1 ho rfl, ?_⟩
 clear hb ho hb1 hw1
 with_reducible (apply xo_nil; (repeat first | apply xqT | apply xqB | apply xqS))
 refine xc_know (φ := ∀ e ∈ H3 Ds now, e.1 ≠ bb) (fun w1 hw1 e he q => ?_) fun hbb => ?_
 ·have := hw1.nd
  simp only [List.map_cons, List.nodup_cons] at this
  exact this.1 (List.mem_map.2 ⟨e, he, q⟩)
 with_reducible ((repeat apply xc_seq); apply xc_block)
 have hxw : ∀ Ls (e : Nat × Bool × HP), e ∈ H3 Ds Ls → ∃ e' ∈ H3 Ds now, e'.1 = e.1 := by
  intro Ls e he
  rcases List.mem_append.1 he with he | he
  ·exact ⟨e, List.mem_append_left _ he, rfl⟩
  ·simp only [List.mem_cons, List.not_mem_nil, or_false] at he
   rcases he with rfl | rfl
   ·exact ⟨_, List.mem_append_right _ (List.Mem.head _), rfl⟩
   ·exact ⟨_, List.mem_append_right _ (List.Mem.tail _ (List.Mem.head _)), rfl⟩
 have hWl : ∀ Ls (e : Nat × Bool × HP), e ∈ H3 Ds Ls → W.heap.size ≤ e.1 := fun Ls e he => by
  obtain ⟨e', he', q⟩ := hxw Ls e he
  rw [← q]
  exact (hO' e'.1 ⟨e', he', hH3w Ds now e' he', rfl⟩).2
 have hback0 : backL gs now 0 = now := by
  unfold backL
  rw [Nat.sub_zero, List.take_of_length_le (by omega), List.drop_of_length_le (by rw [leastD_len]; exact Nat.le_refl _), List.append_nil]
 refine xc_rangeO (α := Nat × GatT) (β := Nat) (γ := Unit) (enc := encB) (HA := fun _ => []) (T := nextB gs) (S := fun xs => xs.length = gs.length) rfl backward_enters rfl (fun x => rfl)
  (fun k => K k ∨ k = bb) (fun w1 hw1 k hk => ?_) (fun w1 hw1 => ?_) (fun p _ => nextD (gs.drop (gs.length - p.length)) (now.drop (gs.length - p.length)) = none ∧ p.length ≤ gs.length) (fun p _ => H3 Ds (backL gs now p.length)) () ⟨?_, Nat.zero_le _⟩ ?_
  (fun p _ _ e he => ?_) (fun p _ _ e he _ hk => ?_) (fun c p _ => c = .exit 3 ∧ ∃ l, nextD gs now = some l) (fun c p _ => H3 Ds ((nextD gs now).getD [])) (fun c p _ _ e he => ?_)
  (fun x y => [(1, .pointer (some ⟨b1, 0, none⟩)), (3, .pointer (some ⟨b3, 0, none⟩)), (6, .int .i64 (x.1 : Int)), (7, .pointer (some ⟨y, 0, none⟩))]) (fun x y => [(y, true, cel (gatV x.2) 57)]) (fun x y e he => ?_) (fun l' x V0 => ?_) (fun l' p x y g V0 hC hT2 hw0 => ?_) (fun D xs g hS hC => ?_) (fun D c p g hCx => ?_)
 ·rcases hk with hk | hk
  ·exact Nat.lt_of_lt_of_le (hKW k hk) (Nat.le_trans hr'.2.2 hw1.kx.size)
  ·subst hk
   exact hw1.lt (e := (k, true, cel [.slice A gs.length c] 22)) (List.Mem.head _)
 ·refine backward_seq _ gs A c bb _ w1 hg6 (hAV'.keep K hKA fun k hk => hw1.kx.block k (Nat.lt_of_lt_of_le (hKW k hk) hr'.2.2) (hnX k hk)) (hw1.ro (wr := true) (t := 22) (List.Mem.head _)) ?_ (.inr rfl) (fun h0 ad e => .inl (hKA h0 ad e))
  intro k hk
  rcases hk with hk | hk
  ·exact Nat.lt_of_lt_of_le (hKW k hk) (Nat.le_trans hr'.2.2 hw1.kx.size)
  ·subst hk
   exact hw1.lt (e := (k, true, cel [.slice A gs.length c] 22)) (List.Mem.head _)
 ·rw [List.length_nil, Nat.sub_zero, List.drop_of_length_le (Nat.le_refl _)]
  rfl
 ·rw [List.length_nil, hback0]
  exact List.sublist_cons_self _ _
 ·obtain ⟨e', he', q⟩ := hxw _ e he
  exact .inr ⟨e', List.mem_cons_of_mem _ he', q⟩
 ·rcases hk with hk | hk
  ·exact absurd (hKW _ hk) (Nat.not_lt.2 (hWl _ e he))
  ·obtain ⟨e', he', q⟩ := hxw _ e he
   exact hbb e' he' (q.trans hk)
 ·obtain ⟨e', he', q⟩ := hxw _ e he
  exact .inr ⟨e', List.mem_cons_of_mem _ he', q⟩
 ·simp only [List.mem_cons, List.not_mem_nil, or_false] at he
  subst he
  exact ⟨rfl, fun o ho => by rw [show o = _ from ho]; rfl⟩
 ·with_reducible repeat apply xc_seq
  with_reducible apply xcR
  refine xoA ?_
  with_reducible (apply xo_nil; (repeat first | apply xqT | apply xqB | apply xqS); (repeat apply xc_seq); apply xcR)
  refine xo_alloc T_ rfl rfl rfl rfl (fun b7 => ?_)
  refine xo_store T_ rfl rfl rfl rfl (by repeat first | exact mH | apply mT | apply mA) rfl rfl rfl rfl (by repeat first | exact Upd.head | apply Upd.tail | apply Upd.app) rfl ?_
  with_reducible (apply xo_nil; (repeat first | apply xqT | apply xqB | apply xqS))
  exact fun a w1 ha hw1 => ⟨b7, ha.sub ⟨rfl, rfl, rfl, rfl, trivial⟩, hw1⟩
 ·obtain ⟨hC1, hC2⟩ := hC
  obtain ⟨hlt, rfl⟩ := hT2
  have hbl := backL_len gs now p.length hlen
  have hba := backL_at gs now p.length hlen hlt
  have hb1' := fun h => nextD_back hlen hlt hC1 h
  have hb2' := fun h => nextD_back2 hlen hlt hC1 h
  have hbs := backL_succ gs now p.length hlen hlt
  have hbd := okD_at hok (gs.length - 1 - p.length) (by omega)
  have hgd := hgo _ (getD_mem gs zGat (gs.length - 1 - p.length) (by omega))
  generalize gs.getD (gs.length - 1 - p.length) zGat = g at hb1' hb2' hbs hbd hgd
  have hil : gs.length - 1 - p.length < gs.length := by omega
  generalize gs.length - 1 - p.length = i at hba hb1' hb2' hbs hbd hil
  generalize now.getD i 0 = v at hba hb1' hb2' hbd
  have hi0 : 0 + (i : Int).toNat * szN 0 = i := by simp [szN]
  with_reducible ((repeat apply xc_seq); apply xc_block; (repeat apply xc_seq))
  apply xc_drawN
  ·exact T_.mixed
  ·rfl
  ·rfl
  ·rfl
  ·rfl
  ·apply DrawOps.cons
   ·intro τ
    refine xo_load0 T_ rfl rfl rfl (by repeat first | exact mH | apply mT | apply mA) rfl rfl ?_
    exact xo_fin rfl
   apply DrawOps.cons
   ·intro τ
    refine xoM ?_
    exact xo_fin rfl
   apply DrawOps.cons
   ·intro τ
    refine xo_ia T_ rfl rfl rfl rfl rfl ⟨by omega, by omega⟩ rfl ?_
    exact xo_fin rfl
   apply DrawOps.cons
   ·intro τ
    refine xo_loadI T_ (k := (i : Int).toNat * szN 0) (v := .int .i64 v) rfl rfl rfl (by repeat first | exact mH | apply mT | apply mA) (by rw [hi0, List.getElem?_map, hba]; rfl) rfl ?_
    exact xo_fin rfl
   apply DrawOps.cons
   ·intro τ
    refine xo_fa T_ rfl rfl rfl rfl rfl ?_
    exact xo_fin rfl
   apply DrawOps.cons
   ·intro τ
    refine xo_fa T_ rfl rfl rfl rfl rfl ?_
    exact xo_fin rfl
   apply DrawOps.cons
   ·intro τ
    refine xo_load0 T_ rfl rfl rfl (by repeat first | exact mH | apply mT | apply mA) rfl rfl ?_
    exact xo_fin rfl
   apply DrawOps.cons
   ·intro τ
    refine xo_lss rfl rfl rfl rfl ?_
    exact xo_fin rfl
   exact DrawOps.nil
  ·rfl
  with_reducible ((repeat first | apply xqT | apply xqB | apply xqS); (repeat apply xc_seq))
  refine xc_cond rfl (fun h => ?_) (fun h => ?_)
  ·have hv := of_decide_eq_true h
   have hn := hb1' hv
   with_reducible ((repeat apply xc_seq); apply xcR)
   refine xo_load0 T_ rfl rfl rfl (by repeat first | exact mH | apply mT | apply mA) rfl rfl ?_
   refine xoM ?_
   refine xo_ia T_ rfl rfl rfl rfl rfl ⟨by omega, by omega⟩ rfl ?_
   refine xo_loadI T_ (k := (i : Int).toNat * szN 0) (v := .int .i64 v) rfl rfl rfl (by repeat first | exact mH | apply mT | apply mA) (by rw [hi0, List.getElem?_map, hba]; rfl) rfl ?_
   refine xo_add rfl rfl rfl (by omega) rfl ?_
   refine xo_ia T_ rfl rfl rfl rfl rfl ⟨by omega, by omega⟩ rfl ?_
   refine xo_storeI T_ (k := (i : Int).toNat * szN 0) rfl rfl rfl rfl (by repeat first | exact mH | apply mT | apply mA) rfl rfl (by rw [hi0, List.length_map, hbl]; exact hil) (by repeat first | exact Upd.head | apply Upd.tail | apply Upd.app) rfl ?_
   with_reducible (apply xo_nil; (repeat first | apply xqT | apply xqB | apply xqS); apply xc_exit; (repeat (first | apply xq_blockX | apply xq_thenE | refine xq_blockE rfl ?_ | apply xq_scopeE)))
   intro a w1 ha hw1
   refine ⟨(), ⟨rfl, _, hn⟩, ?_⟩
   rw [hn, Option.getD_some, hH3s]
   rw [hi0] at hw1
   exact hw1.sub (List.sublist_cons_self _ _)
  ·have hv := of_decide_eq_false h
   have hn := hb2' hv
   with_reducible (apply xc_skip; (repeat first | apply xqT | apply xqB | apply xqS); (repeat apply xc_seq); apply xcR)
   refine xo_load0 T_ rfl rfl rfl (by repeat first | exact mH | apply mT | apply mA) rfl rfl ?_
   refine xoM ?_
   refine xo_fa T_ rfl rfl rfl rfl rfl ?_
   refine xo_fa T_ rfl rfl rfl rfl rfl ?_
   refine xo_load0 T_ rfl rfl rfl (by repeat first | exact mH | apply mT | apply mA) rfl rfl ?_
   refine xo_ia T_ rfl rfl rfl rfl rfl ⟨by omega, by omega⟩ rfl ?_
   refine xo_storeI T_ (k := (i : Int).toNat * szN 0) rfl rfl rfl rfl (by repeat first | exact mH | apply mT | apply mA) rfl rfl (by rw [hi0, List.length_map, hbl]; exact hil) (by repeat first | exact Upd.head | apply Upd.tail | apply Upd.app) rfl ?_
   with_reducible (apply xo_nil; (repeat first | apply xqT | apply xqB | apply xqS))
   intro a w1 ha hw1
   refine ⟨(), ⟨by rw [List.length_append]; exact hn, by simp; omega⟩, ?_⟩
   rw [List.length_append, List.length_singleton, ← hbs, hH3s]
   rw [hi0] at hw1
   exact hw1.sub (List.sublist_cons_self _ _)
 ·obtain ⟨hC1, hC2⟩ := hC
  have hnn : nextD gs now = none := by simpa [hS] using hC1
  rw [hnn] at hall'
  with_reducible ((repeat first | apply xqT | apply xqB | apply xqS); (repeat apply xc_seq); apply xc_ret; (repeat (first | apply xq_thenR | apply xq_blockR | apply xq_scopeR)))
  refine xq_ofM (D :: Ds) (xq_ret0 rfl fun w2 hw2 => ⟨⟨_, rfl⟩, .inl ?_⟩)
  obtain ⟨O2, h2, _⟩ := hr'.step aJ hKW hO' (hw2.sub (List.nil_sublist _)) (fun e he => by cases he)
  exact ⟨O2, _, by rw [hall']; simp, h2.1⟩
 ·obtain ⟨rfl, now', hnn⟩ := hCx
  rw [hnn] at hall' ⊢
  rw [Option.getD_some]
  have htl : (tailD gs now).length = (tailD gs now').length + 1 := by rw [tailD_step hgle hok, hnn]; rfl
  with_reducible (apply xc_exit; (repeat (first | apply xq_blockX | apply xq_thenE | refine xq_blockE rfl ?_ | apply xq_scopeE)); (repeat first | apply xqT | apply xqB | apply xqS))
  refine xq_againM (γ := List DelT × List Nat × List Int) _ _ _ _ _ _ _ (pre ++ [((b, cap), now)], D :: Ds, now') ⟨by simpa using hall', next_ok hgle hok hnn⟩ (by simp only; omega) rfl ⟨rfl, rfl, rfl, trivial⟩ (fun w1 hw1 => ⟨hw1.bok (List.Sublist.refl _), ?_⟩)
  obtain ⟨O2, h2, h3, _⟩ := hr'.step aJ hKW hO' hw1 (hH3w (D :: Ds) now')
  exact ⟨O2, h2, fun i ⟨e, he, _, hi⟩ => hi ▸ h3 e he⟩
theorem delays_calls (sv : List Value) (w : World) : Calls Tryd.prog 57 #[.agg sv.toArray] w fun e w' => ∃ b, e = .returned (.func (.func 84) #[] #[.pointer (some ⟨b, 0, none⟩)]) ∧ w.heap.size ≤ b ∧ w'.heap[b]? = some (.cells sv.toArray 25 (0, 0)) ∧ Below w.heap.size w w' := by
 refine x_calls (X := XNone) Tryd.func57 rfl rfl rfl ?_
 with_reducible ((repeat apply xc_seq); apply xcR)
 refine xo_box rfl rfl rfl rfl (fun b1 => ?_)
 refine xoA ?_
 with_reducible (apply xo_nil; (repeat first | apply xqT | apply xqB | apply xqS); (repeat apply xc_seq); apply xcR)
 refine xo_mkf rfl rfl rfl rfl ?_
 refine xoA ?_
 with_reducible (apply xo_nil; (repeat first | apply xqT | apply xqB | apply xqS); (repeat apply xc_seq); apply xc_ret; (repeat (first | apply xq_thenR | apply xq_blockR | apply xq_scopeR)))
 exact xq_ret1 rfl rfl fun w' hw => ⟨b1, rfl, hw.own (List.Mem.head _), hw.obj (wr := true) (List.Mem.head _), hw.kx.below⟩
theorem delays_enters : ∀ args w, (callFunc 57 args).run Tryd.prog w = .ok (.enter 57 args) w := enters_of Tryd.func57 (by kernel_rfl) rfl
def matV (F : Nat → Nat → Int) : List Value := (List.range 36).map fun i => .int .i64 (F (i / 6) (i % 6))
theorem matV_len (F : Nat → Nat → Int) : (matV F).length = 36 := by simp [matV]
theorem matV_at (F : Nat → Nat → Int) {a b : Nat} (ha : a < 6) (hb : b < 6) : (matV F)[6 * a + b]? = some (.int .i64 (F a b)) := by
 unfold matV
 rw [List.getElem?_map, List.getElem?_range (by omega)]
 have h1 : (6 * a + b) / 6 = a := by omega
 have h2 : (6 * a + b) % 6 = b := by omega
 simp [h1, h2]
theorem matV_set (F : Nat → Nat → Int) {a b : Nat} (ha : a < 6) (hb : b < 6) (v : Int) : (matV F).set (6 * a + b) (.int .i64 v) = matV (updM F a b v) := by
 refine List.ext_getElem? fun i => ?_
 unfold matV
 rw [List.getElem?_set]
 simp only [List.getElem?_map, List.length_map, List.length_range]
 by_cases hi : i < 36
 ·rw [List.getElem?_range hi]
  by_cases e : 6 * a + b = i
  ·rw [if_pos e, if_pos (by omega)]
   have h1 : i / 6 = a := by omega
   have h2 : i % 6 = b := by omega
   simp [updM, h1, h2]
  ·rw [if_neg e]
   have : ¬ (i / 6 = a ∧ i % 6 = b) := fun q => e (by omega)
   simp [updM, this]
 ·rw [List.getElem?_eq_none (by simp; omega), if_neg (by omega)]
  rfl
theorem matV_congr {F G : Nat → Nat → Int} (h : ∀ a b, a < 6 → b < 6 → F a b = G a b) : matV F = matV G := by
 unfold matV
 refine List.map_congr_left fun i hi => ?_
 have := List.mem_range.1 hi
 rw [h _ _ (by omega) (by omega)]
theorem matV_zero : matV (fun _ _ => 0) = List.replicate 36 (.int .i64 0) := by
 refine List.ext_getElem? fun i => ?_
 unfold matV
 by_cases hi : i < 36
 ·rw [List.getElem?_map, List.getElem?_range hi, List.getElem?_replicate, if_pos hi]; rfl
 ·rw [List.getElem?_eq_none (by simp; omega), List.getElem?_eq_none (by simp; omega)]
theorem matV_one (F : Nat → Nat → Int) : ∀ u ∈ matV F, u.oneCell' = true := fun u hu => by
 obtain ⟨i, _, rfl⟩ := List.mem_map.1 hu
 rfl
section
variable {P : Program} {ro : Option Nat} {n N : Nat} {ds : List Deferred} {w0 : World} {X : Nat → Prop} {Q : Exit → Act → World → Prop} {σ : Slots} {η : Hp} {ops rest : List Oper} {d : Option Tmp} {ty : TypeId} {pos : String} {aft : Array Edge} {g : Option (Nat × Bool)}
theorem matIx {a b : Nat} : 0 + (a : Int).toNat * szN 6 + (b : Int).toNat * szN 0 = 6 * a + b := by
 have h1 : szN 6 = 6 := rfl
 have h2 : szN 0 = 1 := rfl
 rw [h1, h2]
 omega
theorem matIxG {x y : Int} : 0 + x.toNat * szN 6 + y.toNat * szN 0 = 6 * x.toNat + y.toNat := by
 have h1 : szN 6 = 6 := rfl
 have h2 : szN 0 = 1 := rfl
 rw [h1, h2]
 omega
theorem xo_loadM (T : Tys P) {t : TypeId} {x : Operand} {bM a b o : Nat} {wr : Bool} {F : Nat → Nat → Int} {te : TypeId} (hg : gS ops σ g = some true) (ht : look t T.tk = some 0) (hx : ev σ x = some (.pointer (some ⟨bM, o, none⟩))) (ho : o = 6 * a + b) (ha : a < 6) (hb : b < 6)
  (hm : (bM, wr, cel (matV F) te) ∈ η) (hN : dstOK N d = true) (h : XO P ro n N ds w0 X Q ops (putS d (.int .i64 (F a b)) σ) η rest) : XO P ro n N ds w0 X Q ops σ η (⟨d, .load t x, ty, pos, aft, g⟩ :: rest) :=
 xo_load0 T hg ht hx hm (by rw [nth_eq, ho]; exact matV_at F ha hb) hN h
theorem xo_storeM (T : Tys P) {t : TypeId} {p x : Operand} {bM a b o : Nat} {F : Nat → Nat → Int} {te : TypeId} {v : Int} {η' : Hp} (hg : gS ops σ g = some true) (ht : look t T.tk = some 0) (hp : ev σ p = some (.pointer (some ⟨bM, o, none⟩))) (hx : ev σ x = some (.int .i64 v)) (ho : o = 6 * a + b) (ha : a < 6) (hb : b < 6)
  (hm : (bM, true, cel (matV F) te) ∈ η) (hU : Upd bM (cel (matV (updM F a b v)) te) η η') (hN : dstOK N d = true) (h : XO P ro n N ds w0 X Q ops (putS d undef σ) η' rest) : XO P ro n N ds w0 X Q ops σ η (⟨d, .store t p x, ty, pos, aft, g⟩ :: rest) :=
 xo_storeL T hg ht hp hx hm rfl rfl (by rw [ho, matV_len]; omega) (by rw [ho, matV_set F ha hb]; exact hU) hN h
theorem xo_perm {η' : Hp} (hp : List.Perm η η') (h : XO P ro n N ds w0 X Q ops σ η' rest) : XO P ro n N ds w0 X Q ops σ η rest := fun a w ha hw => h a w ha (hw.perm hp)
end
def edgeL (g : GatT) (x : Int) : Edge3 := (g.f0.toNat, g.f1.toNat, x)
def edgesL (gs : List GatT) (l : List Int) : List Edge3 := gs.zipWith edgeL l
def nvr : Int := 1073741824
def farM (R : Nat) (gs : List GatT) (l : List Int) : Nat → Nat → Int := fwM R (gatesM (edgesL gs l) (startM nvr)) R
structure GatesR (R : Int) (gs : List GatT) : Prop where
 len : gs.length ≤ 6
 ok : ∀ g ∈ gs, (0 ≤ g.f0 ∧ g.f0 < R) ∧ (0 ≤ g.f1 ∧ g.f1 < R) ∧ g.f0 ≠ g.f1 ∧ 0 ≤ g.f2.f0 ∧ g.f2.f0 ≤ g.f2.f1 ∧ g.f2.f1 ≤ 60 ∧ g.f2.f1 ≤ g.f2.f0 + 2
theorem GatesR.gates {R : Int} {gs : List GatT} (h : GatesR R gs) : GatesOK gs := ⟨h.len, fun g hg => ⟨(h.ok g hg).2.2.2.1, (h.ok g hg).2.2.2.2.1, (h.ok g hg).2.2.2.2.2.1⟩⟩
theorem gateF_ok {R : Int} {g : GatT} (h : gateF R g = true) : (0 ≤ g.f0 ∧ g.f0 < R) ∧ (0 ≤ g.f1 ∧ g.f1 < R) ∧ g.f0 ≠ g.f1 ∧ 0 ≤ g.f2.f0 ∧ g.f2.f0 ≤ g.f2.f1 ∧ g.f2.f1 ≤ 60 ∧ g.f2.f1 ≤ g.f2.f0 + 2 := by
 simp only [gateF, inF, Bool.and_eq_true, decide_eq_true_eq, Bool.not_eq_true', decide_eq_false_iff_not] at h
 omega
theorem okD_pos {gs : List GatT} {l : List Int} (h : okD gs l) (hg : ∀ g ∈ gs, 0 ≤ g.f2.f0) : ∀ e ∈ edgesL gs l, 0 ≤ e.2.2 := by
 induction gs generalizing l with
 | nil => intro e he; simp [edgesL] at he
 | cons g gs ih =>
  cases l with
  | nil => exact h.elim
  | cons x l =>
   intro e he
   simp only [edgesL, List.zipWith_cons_cons, List.mem_cons] at he
   rcases he with rfl | he
   ·have := hg g List.mem_cons_self; have := h.1; simp [edgeL]; omega
   ·exact ih h.2 (fun q hq => hg q (List.mem_cons_of_mem _ hq)) e he
theorem edges_from {gs : List GatT} {l : List Int} : ∀ e ∈ edgesL gs l, ∃ g ∈ gs, e.1 = g.f0.toNat ∧ e.2.1 = g.f1.toNat := by
 induction gs generalizing l with
 | nil => intro e he; simp [edgesL] at he
 | cons g gs ih =>
  cases l with
  | nil => intro e he; simp [edgesL] at he
  | cons x l =>
   intro e he
   simp only [edgesL, List.zipWith_cons_cons, List.mem_cons] at he
   rcases he with rfl | he
   ·exact ⟨g, List.mem_cons_self, rfl, rfl⟩
   ·obtain ⟨q, h1, h2⟩ := ih e he
    exact ⟨q, List.mem_cons_of_mem _ h1, h2⟩
theorem edges_ne {R : Int} {gs : List GatT} (h : GatesR R gs) (l : List Int) : ∀ e ∈ edgesL gs l, e.1 ≠ e.2.1 := fun e he => by
 obtain ⟨g, hg, h1, h2⟩ := edges_from e he
 have := h.ok g hg
 rw [h1, h2]
 omega
theorem start_sym (N : Int) : ∀ a b, startM N a b = startM N b a := fun a b => by
 unfold startM
 by_cases e : a = b
 ·rw [if_pos e, if_pos e.symm]
 ·rw [if_neg e, if_neg (fun q => e q.symm)]
theorem gates_sound {R : Int} {gs : List GatT} {l : List Int} (h : GatesR R gs) (hl : okD gs l) : SoundM (edgesL gs l) nvr (gatesM (edgesL gs l) (startM nvr)) :=
 (gatesM_ok (okD_pos hl fun g hg => (h.ok g hg).2.2.2.1) (edges_ne h l) _ _ (fun _ q => q) (SoundM.start (by decide)) (start_sym nvr)).1
theorem edgesL_take {gs : List GatT} {l : List Int} (hl : l.length = gs.length) {k : Nat} (hk : k < gs.length) : (edgesL gs l).take (k + 1) = (edgesL gs l).take k ++ [edgeL (gs.getD k zGat) (l.getD k 0)] := by
 have h1 : (edgesL gs l)[k]? = some (edgeL (gs.getD k zGat) (l.getD k 0)) := by
  simp [edgesL, List.getElem?_zipWith, List.getD_eq_getElem?_getD, List.getElem?_eq_getElem hk, List.getElem?_eq_getElem (show k < l.length by omega)]
 rw [List.take_add_one, h1]
 rfl
theorem gatesM_take {gs : List GatT} {l : List Int} (hl : l.length = gs.length) {k : Nat} (hk : k < gs.length) (F : Nat → Nat → Int) : gatesM ((edgesL gs l).take (k + 1)) F = gateM (gatesM ((edgesL gs l).take k) F) (edgeL (gs.getD k zGat) (l.getD k 0)) := by
 rw [edgesL_take hl hk, gatesM, List.foldl_append]
 rfl
theorem edgesL_len {gs : List GatT} {l : List Int} (hl : l.length = gs.length) : (edgesL gs l).length = gs.length := by simp [edgesL, hl]
def iniM (a b : Nat) : Nat → Nat → Int := fun x y => if x < a ∨ (x = a ∧ y < b) then startM nvr x y else 0
theorem iniM_next (a b : Nat) : iniM a (b + 1) = updM (iniM a b) a b (startM nvr a b) := by
 funext x y
 unfold iniM updM
 by_cases h : x = a ∧ y = b
 ·rw [if_pos h, h.1, h.2, if_pos (by omega)]
 ·rw [if_neg h]
  show _ = if x < a ∨ (x = a ∧ y < b) then startM nvr x y else 0
  by_cases h2 : x < a ∨ (x = a ∧ y < b)
  ·rw [if_pos h2, if_pos (by omega)]
  ·rw [if_neg h2, if_neg (by omega)]
theorem updM_twice (F : Nat → Nat → Int) (a b : Nat) (u v : Int) : updM (updM F a b u) a b v = updM F a b v := by
 funext x y
 unfold updM
 split <;> rfl
theorem iniM_row (a : Nat) : matV (iniM a 6) = matV (iniM (a + 1) 0) := matV_congr fun x y hx hy => by
 unfold iniM
 by_cases h : x ≤ a
 ·rw [if_pos (by omega), if_pos (by omega)]
 ·rw [if_neg (by omega), if_neg (by omega)]
theorem iniM_end : matV (iniM 6 0) = matV (startM nvr) := matV_congr fun x y hx hy => by
 unfold iniM
 rw [if_pos (by omega)]
theorem iniM_zero : matV (iniM 0 0) = List.replicate 36 (.int .i64 0) := by
 rw [← matV_zero]
 exact matV_congr fun x y hx hy => by
  unfold iniM
  rw [if_neg (by omega)]
theorem upL_len : ∀ (n : Nat) (lo : Int), (upL lo n).length = n
 | 0, _ => rfl
 | n + 1, lo => by simp [upL, upL_len n (lo + 1)]
theorem allD_len : ∀ {gs : List GatT}, (∀ g ∈ gs, g.f2.f1 ≤ g.f2.f0 + 2) → (allD gs).length ≤ 3 ^ gs.length
 | [], _ => by simp [allD]
 | g :: gs, h => by
  have ih := allD_len (gs := gs) fun q hq => h q (List.mem_cons_of_mem _ hq)
  have hg := h g List.mem_cons_self
  have key : ∀ (us : List Int), (us.flatMap fun x => (allD gs).map (x :: ·)).length = us.length * (allD gs).length := by
   intro us
   induction us with
   | nil => simp
   | cons u us ih => simp [List.flatMap_cons, ih, Nat.add_mul, Nat.add_comm]
  rw [allD, key, upL_len, List.length_cons, Nat.pow_succ]
  have h3 : (g.f2.f1 - g.f2.f0 + 1).toNat ≤ 3 := by omega
  calc (g.f2.f1 - g.f2.f0 + 1).toNat * (allD gs).length ≤ 3 * 3 ^ gs.length := Nat.mul_le_mul h3 ih
   _ = 3 ^ gs.length * 3 := Nat.mul_comm _ _
theorem allD_few {R : Int} {gs : List GatT} (h : GatesR R gs) : (allD gs).length ≤ 729 :=
 Nat.le_trans (allD_len fun g hg => (h.ok g hg).2.2.2.2.2.2) (Nat.le_trans (Nat.pow_le_pow_right (by omega) h.len) (by decide))
theorem allD_ok : ∀ {gs : List GatT}, ∀ l ∈ allD gs, okD gs l
 | [], l, h => by
  simp only [allD, List.mem_singleton] at h
  subst h
  trivial
 | g :: gs, l, h => by
  simp only [allD, List.mem_flatMap, List.mem_map] at h
  obtain ⟨x, hx, r, hr, rfl⟩ := h
  refine ⟨?_, allD_ok r hr⟩
  have key : ∀ (n : Nat) (lo x : Int), x ∈ upL lo n → lo ≤ x ∧ x < lo + n := by
   intro n
   induction n with
   | zero => intro lo x h; simp [upL] at h
   | succ n ih =>
    intro lo x h
    rcases List.mem_cons.1 h with rfl | h
    ·omega
    ·have := ih _ _ h; omega
  have := key _ _ _ hx
  omega
theorem allD_ne {gs : List GatT} (h : ∀ g ∈ gs, g.f2.f0 ≤ g.f2.f1) : allD gs ≠ [] := by
 rw [← tailD_least h, tailD_step h (least_ok h)]
 simp
inductive GS where
 | s0 (q : Option Nat)
 | s1 (q : Option Nat) (b : Nat)
 | s2 (q : Option Nat) (b : Nat) (pf : Nat × Nat)
 | s3 (q : Nat) (b : Nat) (pf pw : Nat × Nat)
 | s4 (q : Nat) (b : Nat) (pf pw : Nat × Nat)
 | s5 (q : Nat) (b : Nat) (pf pw : Nat × Nat)
def GS.q : GS → Nat
 | .s0 q | .s1 q _ | .s2 q _ _ => q.getD 0
 | .s3 q _ _ _ | .s4 q _ _ _ | .s5 q _ _ _ => q
def GS.b : GS → Nat
 | .s0 _ => 0
 | .s1 _ b | .s2 _ b _ => b
 | .s3 _ b _ _ | .s4 _ b _ _ | .s5 _ b _ _ => b
def GS.pf : GS → Nat × Nat
 | .s0 _ | .s1 _ _ => (0, 0)
 | .s2 _ _ p => p
 | .s3 _ _ p _ | .s4 _ _ p _ | .s5 _ _ p _ => p
def GS.pw : GS → Nat × Nat
 | .s0 _ | .s1 _ _ | .s2 _ _ _ => (0, 0)
 | .s3 _ _ _ p | .s4 _ _ _ p | .s5 _ _ _ p => p
def okS : List Nat → GS → Prop
 | L, .s0 q => 7 ∉ L ∧ 8 ∉ L ∧ 15 ∉ L ∧ 18 ∉ L ∧ 21 ∉ L ∧ (14 ∈ L ↔ q.isSome = true)
 | L, .s1 q _ => 7 ∈ L ∧ 8 ∉ L ∧ 15 ∉ L ∧ 18 ∉ L ∧ 21 ∉ L ∧ (14 ∈ L ↔ q.isSome = true)
 | L, .s2 q _ _ => 7 ∈ L ∧ 8 ∈ L ∧ 15 ∉ L ∧ 18 ∉ L ∧ 21 ∉ L ∧ (14 ∈ L ↔ q.isSome = true)
 | L, .s3 _ _ _ _ => 7 ∈ L ∧ 8 ∈ L ∧ 15 ∈ L ∧ 18 ∉ L ∧ 21 ∉ L ∧ 14 ∈ L
 | L, .s4 _ _ _ _ => (∀ j, j ∈ [5, 7, 8, 12, 14, 15, 18] → j ∈ L) ∧ 21 ∉ L
 | L, .s5 _ _ _ _ => (∀ j, j ∈ [5, 7, 8, 12, 14, 15, 18, 21] → j ∈ L) ∧ True
theorem mem_ne {i m : Nat} {L : List Nat} (h : m ≠ i) : m ∈ i :: L ↔ m ∈ L := ⟨fun q => (List.mem_cons.1 q).resolve_left h, List.mem_cons_of_mem _⟩
theorem okS_pure {L : List Nat} {g : GS} {i : Nat} (hi : 7 ≠ i ∧ 8 ≠ i ∧ 15 ≠ i ∧ 18 ≠ i ∧ 21 ≠ i ∧ 14 ≠ i) (h : okS L g) : okS (i :: L) g := by
 obtain ⟨h1, h2, h3, h4, h5, h6⟩ := hi
 cases g with
 | s0 q => simp only [okS] at h ⊢; rw [mem_ne h1, mem_ne h2, mem_ne h3, mem_ne h4, mem_ne h5, mem_ne h6]; exact h
 | s1 q b => simp only [okS] at h ⊢; rw [mem_ne h1, mem_ne h2, mem_ne h3, mem_ne h4, mem_ne h5, mem_ne h6]; exact h
 | s2 q b pf => simp only [okS] at h ⊢; rw [mem_ne h1, mem_ne h2, mem_ne h3, mem_ne h4, mem_ne h5, mem_ne h6]; exact h
 | s3 q b pf pw => simp only [okS] at h ⊢; rw [mem_ne h1, mem_ne h2, mem_ne h3, mem_ne h4, mem_ne h5, mem_ne h6]; exact h
 | s4 q b pf pw => simp only [okS] at h ⊢; rw [mem_ne h5]; exact ⟨fun j hj => List.mem_cons_of_mem _ (h.1 j hj), h.2⟩
 | s5 q b pf pw => exact ⟨fun j hj => List.mem_cons_of_mem _ (h.1 j hj), trivial⟩
def siteV (sv : List Value) (vf vw : Value) : List Value := sv ++ [vf, vw]
def qP (te : TypeId) (ev : Value) : Option Nat → Hp
 | none => []
 | some b => [(b, true, cel [ev] te)]
def vsS (bs : Nat) (v0f v0w ev mv : Value) (k : Nat) (g : GS) : List Value :=
 let p : Value := .pointer (some ⟨bs, 0, none⟩)
 [p, p, p, p, .pointer (some ⟨bs, 0 + 4, none⟩), v0f, mv, .slice (some ⟨g.b, 0, none⟩) 1 1, valR (some g.pf) (k + 1), p, p, .pointer (some ⟨bs, 0 + 5, none⟩), v0w, ev, .slice (some ⟨g.q, 0, none⟩) 1 1, valR (some g.pw) (k + 1), p, .pointer (some ⟨bs, 0 + 4, none⟩), undef, p, .pointer (some ⟨bs, 0 + 5, none⟩), undef]
theorem vsS_same {bs : Nat} {v0f v0w ev mv : Value} {k : Nat} {L : List Nat} {g g' : GS} (h7 : 7 ∈ L → g'.b = g.b) (h8 : 8 ∈ L → g'.pf = g.pf) (h14 : 14 ∈ L → g'.q = g.q) (h15 : 15 ∈ L → g'.pw = g.pw) : ∀ j ∈ L, nth j (vsS bs v0f v0w ev mv k g') = nth j (vsS bs v0f v0w ev mv k g) := by
 intro j hj
 rcases j with _ | _ | _ | _ | _ | _ | _ | _ | _ | _ | _ | _ | _ | _ | _ | _ | _ | _ | _ | _ | _ | _ | j
 all_goals first
  | rfl
  | (simp only [vsS, nth, h7 hj]; done)
  | (simp only [vsS, nth, h8 hj]; done)
  | (simp only [vsS, nth, h14 hj]; done)
  | (simp only [vsS, nth, h15 hj]; done)
def hS (bM b5 bs : Nat) (sv : List Value) (v0f v0w ev : Value) (rf rw_ : RowR) (k : Nat) (fs ws M : List Value) (ζ : Hp) : GS → Hp :=
 let core := fun (vf vw : Value) => ((bM, true, cel M 102) :: (b5, true, cel [.pointer (some ⟨bs, 0, none⟩)] 62) :: (bs, true, cel (siteV sv vf vw) 83) :: ζ : Hp)
 fun g => match g with
 | .s0 q => qP 34 ev q ++ (hpR 102 36 rf k fs ++ (hpR 34 1 rw_ k ws ++ core v0f v0w))
 | .s1 q b => (b, true, cel M 102) :: (qP 34 ev q ++ (hpR 102 36 rf k fs ++ (hpR 34 1 rw_ k ws ++ core v0f v0w)))
 | .s2 q _ pf => qP 34 ev q ++ (hpR 34 1 rw_ k ws ++ (hpR 102 36 (some pf) (k + 1) (fs ++ M) ++ core v0f v0w))
 | .s3 _ _ pf pw => hpR 34 1 (some pw) (k + 1) (ws ++ [ev]) ++ (hpR 102 36 (some pf) (k + 1) (fs ++ M) ++ core v0f v0w)
 | .s4 _ _ pf pw => hpR 34 1 (some pw) (k + 1) (ws ++ [ev]) ++ (hpR 102 36 (some pf) (k + 1) (fs ++ M) ++ core (valR (some pf) (k + 1)) v0w)
 | .s5 _ _ pf pw => hpR 34 1 (some pw) (k + 1) (ws ++ [ev]) ++ (hpR 102 36 (some pf) (k + 1) (fs ++ M) ++ core (valR (some pf) (k + 1)) (valR (some pw) (k + 1)))
theorem fill_mat (F : Nat → Nat → Int) : fillL ((List.range 1).map fun i => (i * 36, 36)) ((List.range (1 * 36)).map fun i => (Value.agg (List.replicate 36 (Value.int .i64 0)).toArray).cells[i % (Value.agg (List.replicate 36 (Value.int .i64 0)).toArray).cells.size]!) [(0, .agg (matV F).toArray)] = some (matV F) := rfl
def rightK (k : Int) : Nat := if k ≤ 0 then 62 else if k ≤ 3 then 63 else if k ≤ 5 then 69 else 72
def saysK (k : Int) : Nat := if k ≤ 1 then 64 else if k ≤ 2 then 67 else if k ≤ 3 then 68 else if k ≤ 4 then 70 else if k ≤ 5 then 71 else 73
def fnV (k : Nat) : Value := .func (.func k) #[] #[]
def kindsV : List Value := [fnV (rightK 0), .nilFunc, fnV (rightK 1), fnV (saysK 1), fnV (rightK 2), fnV (saysK 2), fnV (rightK 3), fnV (saysK 3), fnV (rightK 4), fnV (saysK 4), fnV (rightK 5), fnV (saysK 5), fnV (rightK 6), fnV (saysK 6)]
theorem six {φ : Int → Prop} {k : Int} (h : 1 ≤ k ∧ k ≤ 6) (h1 : φ 1) (h2 : φ 2) (h3 : φ 3) (h4 : φ 4) (h5 : φ 5) (h6 : φ 6) : φ k := by
 rcases (show k = 1 ∨ k = 2 ∨ k = 3 ∨ k = 4 ∨ k = 5 ∨ k = 6 by omega) with rfl | rfl | rfl | rfl | rfl | rfl <;> assumption
theorem kinds_built (w : World) : (Instr.build 93 #[(0, .agg #[fnV (rightK 0), .nilFunc]), (1, .agg #[fnV (rightK 1), fnV (saysK 1)]), (2, .agg #[fnV (rightK 2), fnV (saysK 2)]), (3, .agg #[fnV (rightK 3), fnV (saysK 3)]), (4, .agg #[fnV (rightK 4), fnV (saysK 4)]), (5, .agg #[fnV (rightK 5), fnV (saysK 5)]), (6, .agg #[fnV (rightK 6), fnV (saysK 6)])]).run Tryd.prog w = .ok (.agg kindsV.toArray) w := by
 go_simp
 rfl
theorem kinds_ix {k : Int} (h : 1 ≤ k ∧ k ≤ 6) (w : World) : (Instr.index 93 (.agg kindsV.toArray) (.int .u8 k)).run Tryd.prog w = .ok (.agg #[fnV (rightK k), fnV (saysK k)]) w := by
 refine six (φ := fun k => (Instr.index 93 (.agg kindsV.toArray) (.int .u8 k)).run Tryd.prog w = .ok (.agg #[fnV (rightK k), fnV (saysK k)]) w) h ?_ ?_ ?_ ?_ ?_ ?_
 all_goals
  unfold Instr.index kindsV
  have h1 : ∀ w, (isAgg 92).run Tryd.prog w = .ok true w := (T_.htk (92, 2) (look_mem rfl)).1
  have h2 : ∀ w, (sizeOf 92).run Tryd.prog w = .ok 2 w := (T_.htk (92, 2) (look_mem rfl)).2
  have h3 : ∀ w, (underlying 93).run Tryd.prog w = .ok (.array 7 92) w := run_underlying Tryd.underlying93
  simp [asIntOf, h3, h2, part, h1]
theorem kinds_f0 (u v : Value) (w : World) : (Instr.field 92 (.agg #[u, v]) 0).run Tryd.prog w = .ok u w := by
 unfold Instr.field
 simp [run_underlying Tryd.underlying92, part, asAgg, go_sem, (T_.htk (89, 0) (look_mem rfl)).1]
theorem kindsV_says {k : Int} (h : 1 ≤ k ∧ k ≤ 6) : nth (0 + k.toNat * szN 2 + 1) kindsV = some (fnV (saysK k)) := six (φ := fun k => nth (0 + k.toNat * szN 2 + 1) kindsV = some (fnV (saysK k))) h rfl rfl rfl rfl rfl rfl
set_option maxHeartbeats 4000000 in
theorem kinds_calls (w : World) : Calls Tryd.prog 44 #[] w fun e w' => e = .returned (.agg kindsV.toArray) ∧ Below w.heap.size w w' := by
 refine x_calls (X := XNone) (vs := []) Tryd.func44 rfl rfl rfl ?_
 with_reducible ((repeat apply xc_seq); apply xcR)
 refine xo_alloc T_ rfl rfl rfl rfl (fun b0 => ?_)
 with_reducible (apply xo_nil; (repeat first | apply xqT | apply xqB | apply xqS); (repeat apply xc_seq); apply xcR)
 refine xo_build TB_ rfl rfl rfl rfl rfl ?_
 refine xo_build TB_ rfl rfl rfl rfl rfl ?_
 refine xo_build TB_ rfl rfl rfl rfl rfl ?_
 refine xo_build TB_ rfl rfl rfl rfl rfl ?_
 refine xo_build TB_ rfl rfl rfl rfl rfl ?_
 refine xo_build TB_ rfl rfl rfl rfl rfl ?_
 refine xo_build TB_ rfl rfl rfl rfl rfl ?_
 refine xo_buildV rfl rfl kinds_built rfl ?_
 refine xo_store T_ rfl rfl rfl rfl (by repeat first | exact mH | apply mT | apply mA) rfl rfl rfl rfl (by repeat first | exact Upd.head | apply Upd.tail | apply Upd.app) rfl ?_
 with_reducible (apply xo_nil; (repeat first | apply xqT | apply xqB | apply xqS); (repeat apply xc_seq); apply xc_ret; (repeat (first | apply xq_thenR | apply xq_blockR | apply xq_scopeR)))
 exact xq_retC T_ rfl rfl rfl (by repeat first | exact mH | apply mT | apply mA) rfl fun w' hw => ⟨rfl, hw.kx.below⟩
theorem kinds_enters : ∀ args w, (callFunc 44 args).run Tryd.prog w = .ok (.enter 44 args) w := enters_of Tryd.func44 (by kernel_rfl) rfl
theorem in2_calls {w0 : World} {X : Nat → Prop} {η : Hp} {w : World} (hw : WOK w0 X η w) (lo hi x y : Int) {b : Nat} {wr : Bool} {t : TypeId} (hm : (b, wr, cel [.int .i64 x, .int .i64 y] t) ∈ η) :
  Calls Tryd.prog 38 #[.int .i64 lo, .int .i64 hi, .slice (some ⟨b, 0, none⟩) 2 2] w fun e w' => e = .returned (.bool (inF lo hi x && inF lo hi y)) ∧ Below w.heap.size w w' := by
 have e : (!([x, y].any fun x => decide (x < lo) || decide (hi < x))) = (inF lo hi x && inF lo hi y) := by
  unfold inF
  rw [Bool.eq_iff_iff]
  simp <;> omega
 rw [← e]
 exact origin_in.calls lo hi (some ⟨b, 0, none⟩) 2 [x, y] _ w (C_cel hw (xs := [x, y]) hm (by simp)) (by simp) rfl
def ordF (lo hi : Int) (s : SpaT) : Bool := inF lo hi s.f0 && inF lo hi s.f1 && decide (s.f0 ≤ s.f1)
set_option maxHeartbeats 4000000 in
theorem ordered_calls (lo hi : Int) (s : SpaT) (w : World) : Calls Tryd.prog 43 #[.int .i64 lo, .int .i64 hi, .agg (spaV s).toArray] w fun e w' => e = .returned (.bool (ordF lo hi s)) ∧ Below w.heap.size w w' := by
 refine x_calls (X := XNone) Tryd.func43 rfl rfl rfl ?_
 with_reducible ((repeat apply xc_seq); apply xcR)
 refine xo_box rfl rfl rfl rfl (fun b5 => ?_)
 refine xoA ?_
 with_reducible (apply xo_nil; (repeat first | apply xqT | apply xqB | apply xqS))
 unfold ordF
 cases h : (inF lo hi s.f0 && inF lo hi s.f1)
 all_goals
  with_reducible ((repeat apply xc_seq); apply xcR)
  refine xoM ?_
  refine xoM ?_
  refine xo_fa T_ rfl rfl rfl rfl rfl ?_
  refine xo_load0 T_ rfl rfl rfl (by repeat first | exact mH | apply mT | apply mA) rfl rfl ?_
  refine xo_fa T_ rfl rfl rfl rfl rfl ?_
  refine xo_load0 T_ rfl rfl rfl (by repeat first | exact mH | apply mT | apply mA) rfl rfl ?_
  refine xo_bs2 T_ rfl rfl rfl rfl rfl rfl rfl rfl rfl rfl (fun b13 => ?_)
  refine xo_callB (fs := []) (cs := []) rfl rfl rfl in_enters rfl (fun w1 hw1 => in2_calls hw1 lo hi s.f0 s.f1 (by repeat first | exact mH | apply mT | apply mA)) ?_
  refine xo_as (i := 14) rfl (congrArg Value.bool h) ?_
  refine xoM ?_
  (first | refine xoN ?_ | refine xo_fa T_ rfl rfl rfl rfl rfl ?_)
  (first | refine xoN ?_ | refine xo_load0 T_ rfl rfl rfl (by repeat first | exact mH | apply mT | apply mA) rfl rfl ?_)
  (first | refine xoN ?_ | refine xo_fa T_ rfl rfl rfl rfl rfl ?_)
  (first | refine xoN ?_ | refine xo_load0 T_ rfl rfl rfl (by repeat first | exact mH | apply mT | apply mA) rfl rfl ?_)
  (first | refine xoN ?_ | refine xo_leq rfl rfl rfl rfl ?_)
  first | refine xo_pickT rfl rfl rfl rfl ?_ | refine xo_pickF rfl rfl rfl rfl ?_
  refine xoA ?_
  with_reducible (apply xo_nil; (repeat first | apply xqT | apply xqB | apply xqS); (repeat apply xc_seq); apply xc_ret; (repeat (first | apply xq_thenR | apply xq_blockR | apply xq_scopeR)))
  exact (xq_ret1 rfl rfl fun w' hw => ⟨rfl, hw.kx.below⟩)
theorem ordered_enters : ∀ args w, (callFunc 43 args).run Tryd.prog w = .ok (.enter 43 args) w := enters_of Tryd.func43 (by kernel_rfl) rfl
set_option maxHeartbeats 4000000 in
theorem timed_calls (sv : Value) (m : MarT) (w : World) : Calls Tryd.prog 63 #[sv, .agg (marV m).toArray] w fun e w' => e = .returned (.bool (timedF m)) ∧ Below w.heap.size w w' := by
 refine x_calls (X := XNone) Tryd.func63 rfl rfl rfl ?_
 with_reducible ((repeat apply xc_seq); apply xcR)
 refine xo_box rfl rfl rfl rfl (fun b2 => ?_)
 refine xo_box rfl rfl rfl rfl (fun b3 => ?_)
 refine xoA ?_
 with_reducible (apply xo_nil; (repeat first | apply xqT | apply xqB | apply xqS))
 unfold timedF
 cases h : ordF 0 600 m.f4
 ·have h' := h
  unfold ordF at h'
  rw [h']
  with_reducible ((repeat apply xc_seq); apply xcR)
  refine xo_fa T_ rfl rfl rfl rfl rfl ?_
  refine xo_loadN T_ rfl rfl rfl (by repeat first | exact mH | apply mT | apply mA) rfl rfl ?_
  refine xo_callB (fs := []) (cs := []) rfl rfl rfl ordered_enters rfl (fun w1 hw1 => ordered_calls 0 600 m.f4 w1) ?_
  refine xo_as (i := 7) rfl (congrArg Value.bool h) ?_
  refine xoM ?_
  (first | refine xoN ?_ | refine xo_fa T_ rfl rfl rfl rfl rfl ?_)
  (first | refine xoN ?_ | refine xo_load0 T_ rfl rfl rfl (by repeat first | exact mH | apply mT | apply mA) rfl rfl ?_)
  (first | refine xoN ?_ | refine xo_eql rfl rfl rfl rfl ?_)
  first | refine xo_pickT rfl rfl rfl rfl ?_ | refine xo_pickF rfl rfl rfl rfl ?_
  refine xoM ?_
  (first | refine xoN ?_ | refine xo_fa T_ rfl rfl rfl rfl rfl ?_)
  (first | refine xoN ?_ | refine xo_load0 T_ rfl rfl rfl (by repeat first | exact mH | apply mT | apply mA) rfl rfl ?_)
  (first | refine xoN ?_ | refine xo_eql rfl rfl rfl rfl ?_)
  first | refine xo_pickT rfl rfl rfl rfl ?_ | refine xo_pickF rfl rfl rfl rfl ?_
  refine xoA ?_
  with_reducible (apply xo_nil; (repeat first | apply xqT | apply xqB | apply xqS); (repeat apply xc_seq); apply xc_ret; (repeat (first | apply xq_thenR | apply xq_blockR | apply xq_scopeR)))
  exact (xq_ret1 rfl rfl fun w' hw => ⟨rfl, hw.kx.below⟩)
 ·have h' := h
  unfold ordF at h'
  rw [h']
  cases h2 : decide (m.f3 = 0)
  all_goals
   with_reducible ((repeat apply xc_seq); apply xcR)
   refine xo_fa T_ rfl rfl rfl rfl rfl ?_
   refine xo_loadN T_ rfl rfl rfl (by repeat first | exact mH | apply mT | apply mA) rfl rfl ?_
   refine xo_callB (fs := []) (cs := []) rfl rfl rfl ordered_enters rfl (fun w1 hw1 => ordered_calls 0 600 m.f4 w1) ?_
   refine xo_as (i := 7) rfl (congrArg Value.bool h) ?_
   refine xoM ?_
   (first | refine xoN ?_ | refine xo_fa T_ rfl rfl rfl rfl rfl ?_)
   (first | refine xoN ?_ | refine xo_load0 T_ rfl rfl rfl (by repeat first | exact mH | apply mT | apply mA) rfl rfl ?_)
   (first | refine xoN ?_ | refine xo_eql rfl rfl rfl rfl ?_)
   refine xo_as (i := 11) rfl (congrArg Value.bool h2) ?_
   first | refine xo_pickT rfl rfl rfl rfl ?_ | refine xo_pickF rfl rfl rfl rfl ?_
   refine xoM ?_
   (first | refine xoN ?_ | refine xo_fa T_ rfl rfl rfl rfl rfl ?_)
   (first | refine xoN ?_ | refine xo_load0 T_ rfl rfl rfl (by repeat first | exact mH | apply mT | apply mA) rfl rfl ?_)
   (first | refine xoN ?_ | refine xo_eql rfl rfl rfl rfl ?_)
   first | refine xo_pickT rfl rfl rfl rfl ?_ | refine xo_pickF rfl rfl rfl rfl ?_
   refine xoA ?_
   with_reducible (apply xo_nil; (repeat first | apply xqT | apply xqB | apply xqS); (repeat apply xc_seq); apply xc_ret; (repeat (first | apply xq_thenR | apply xq_blockR | apply xq_scopeR)))
   exact (xq_ret1 rfl rfl fun w' hw => ⟨rfl, hw.kx.below⟩)
set_option maxHeartbeats 4000000 in
theorem lasting_calls (sv : Value) (m : MarT) (w : World) : Calls Tryd.prog 69 #[sv, .agg (marV m).toArray] w fun e w' => e = .returned (.bool (lastingF m)) ∧ Below w.heap.size w w' := by
 refine x_calls (X := XNone) Tryd.func69 rfl rfl rfl ?_
 with_reducible ((repeat apply xc_seq); apply xcR)
 refine xo_box rfl rfl rfl rfl (fun b2 => ?_)
 refine xo_box rfl rfl rfl rfl (fun b3 => ?_)
 refine xoA ?_
 with_reducible (apply xo_nil; (repeat first | apply xqT | apply xqB | apply xqS))
 unfold lastingF
 cases h : inF 0 600 m.f5
 ·with_reducible repeat apply xc_seq
  with_reducible apply xcR
  refine xo_fa T_ rfl rfl rfl rfl rfl ?_
  refine xo_load0 T_ rfl rfl rfl (by repeat first | exact mH | apply mT | apply mA) rfl rfl ?_
  refine xo_bs1 T_ rfl rfl rfl rfl rfl rfl rfl rfl (fun b7 => ?_)
  refine xo_callB (fs := []) (cs := []) rfl rfl rfl in_enters rfl (fun w1 hw1 => in_calls hw1 0 600 m.f5 (by repeat first | exact mH | apply mT | apply mA)) ?_
  refine xo_as (i := 8) rfl (congrArg Value.bool h) ?_
  refine xoM ?_
  (first | refine xoN ?_ | refine xo_fa T_ rfl rfl rfl rfl rfl ?_)
  (first | refine xoN ?_ | refine xo_load0 T_ rfl rfl rfl (by repeat first | exact mH | apply mT | apply mA) rfl rfl ?_)
  (first | refine xoN ?_ | refine xo_eql rfl rfl rfl rfl ?_)
  first | refine xo_pickT rfl rfl rfl rfl ?_ | refine xo_pickF rfl rfl rfl rfl ?_
  refine xoM ?_
  (first | refine xoN ?_ | refine xo_fa T_ rfl rfl rfl rfl rfl ?_)
  (first | refine xoN ?_ | refine xo_loadN T_ rfl rfl rfl (by repeat first | exact mH | apply mT | apply mA) rfl rfl ?_)
  (first | refine xoN ?_ | refine xo_build TB_ rfl rfl rfl rfl rfl ?_)
  (first | refine xoN ?_ | refine xo_eqlV rfl rfl rfl (spa_eq _ _ m.f4.f0 m.f4.f1 0 0) rfl ?_)
  first | refine xo_pickT rfl rfl rfl rfl ?_ | refine xo_pickF rfl rfl rfl rfl ?_
  refine xoA ?_
  with_reducible (apply xo_nil; (repeat first | apply xqT | apply xqB | apply xqS); (repeat apply xc_seq); apply xc_ret; (repeat (first | apply xq_thenR | apply xq_blockR | apply xq_scopeR)))
  exact (xq_ret1 rfl rfl fun w' hw => ⟨rfl, hw.kx.below⟩)
 ·cases h2 : decide (m.f3 = 0)
  all_goals
   with_reducible ((repeat apply xc_seq); apply xcR)
   refine xo_fa T_ rfl rfl rfl rfl rfl ?_
   refine xo_load0 T_ rfl rfl rfl (by repeat first | exact mH | apply mT | apply mA) rfl rfl ?_
   refine xo_bs1 T_ rfl rfl rfl rfl rfl rfl rfl rfl (fun b7 => ?_)
   refine xo_callB (fs := []) (cs := []) rfl rfl rfl in_enters rfl (fun w1 hw1 => in_calls hw1 0 600 m.f5 (by repeat first | exact mH | apply mT | apply mA)) ?_
   refine xo_as (i := 8) rfl (congrArg Value.bool h) ?_
   refine xoM ?_
   (first | refine xoN ?_ | refine xo_fa T_ rfl rfl rfl rfl rfl ?_)
   (first | refine xoN ?_ | refine xo_load0 T_ rfl rfl rfl (by repeat first | exact mH | apply mT | apply mA) rfl rfl ?_)
   (first | refine xoN ?_ | refine xo_eql rfl rfl rfl rfl ?_)
   refine xo_as (i := 12) rfl (congrArg Value.bool h2) ?_
   first | refine xo_pickT rfl rfl rfl rfl ?_ | refine xo_pickF rfl rfl rfl rfl ?_
   refine xoM ?_
   (first | refine xoN ?_ | refine xo_fa T_ rfl rfl rfl rfl rfl ?_)
   (first | refine xoN ?_ | refine xo_loadN T_ rfl rfl rfl (by repeat first | exact mH | apply mT | apply mA) rfl rfl ?_)
   (first | refine xoN ?_ | refine xo_build TB_ rfl rfl rfl rfl rfl ?_)
   (first | refine xoN ?_ | refine xo_eqlV rfl rfl rfl (spa_eq _ _ m.f4.f0 m.f4.f1 0 0) rfl ?_)
   first | refine xo_pickT rfl rfl rfl rfl ?_ | refine xo_pickF rfl rfl rfl rfl ?_
   refine xoA ?_
   with_reducible (apply xo_nil; (repeat first | apply xqT | apply xqB | apply xqS); (repeat apply xc_seq); apply xc_ret; (repeat (first | apply xq_thenR | apply xq_blockR | apply xq_scopeR)))
   exact (xq_ret1 rfl rfl fun w' hw => ⟨rfl, hw.kx.below⟩)
set_option maxHeartbeats 4000000 in
theorem before7_calls (R E : Int) (A B : Option Addr) (n c n2 c2 : Nat) (m : MarT) (w : World) (hR : 1 ≤ R ∧ R ≤ 6) : Calls Tryd.prog 72 #[.agg (scnV R A n c E B n2 c2).toArray, .agg (marV m).toArray] w fun e w' => e = .returned (.bool (beforeF R m)) ∧ Below w.heap.size w w' := by
 refine x_calls (X := XNone) Tryd.func72 rfl rfl rfl ?_
 with_reducible ((repeat apply xc_seq); apply xcR)
 refine xo_box rfl rfl rfl rfl (fun b2 => ?_)
 refine xo_box rfl rfl rfl rfl (fun b3 => ?_)
 refine xoA ?_
 with_reducible (apply xo_nil; (repeat first | apply xqT | apply xqB | apply xqS))
 unfold beforeF
 cases h : inF 0 (R - 1) m.f3
 ·with_reducible repeat apply xc_seq
  with_reducible apply xcR
  refine xo_fa T_ rfl rfl rfl rfl rfl ?_
  refine xo_load0 T_ rfl rfl rfl (by repeat first | exact mH | apply mT | apply mA) rfl rfl ?_
  refine xo_sub rfl rfl rfl (by omega) rfl ?_
  refine xo_fa T_ rfl rfl rfl rfl rfl ?_
  refine xo_load0 T_ rfl rfl rfl (by repeat first | exact mH | apply mT | apply mA) rfl rfl ?_
  refine xo_bs1 T_ rfl rfl rfl rfl rfl rfl rfl rfl (fun b10 => ?_)
  refine xo_callB (fs := []) (cs := []) rfl rfl rfl in_enters rfl (fun w1 hw1 => in_calls hw1 0 (R - 1) m.f3 (by repeat first | exact mH | apply mT | apply mA)) ?_
  refine xo_as (i := 11) rfl (congrArg Value.bool h) ?_
  refine xoM ?_
  (first | refine xoN ?_ | refine xo_fa T_ rfl rfl rfl rfl rfl ?_)
  (first | refine xoN ?_ | refine xo_load0 T_ rfl rfl rfl (by repeat first | exact mH | apply mT | apply mA) rfl rfl ?_)
  (first | refine xoN ?_ | refine xo_fa T_ rfl rfl rfl rfl rfl ?_)
  (first | refine xoN ?_ | refine xo_load0 T_ rfl rfl rfl (by repeat first | exact mH | apply mT | apply mA) rfl rfl ?_)
  (first | refine xoN ?_ | refine xo_neq rfl rfl rfl rfl ?_)
  first | refine xo_pickT rfl rfl rfl rfl ?_ | refine xo_pickF rfl rfl rfl rfl ?_
  refine xoM ?_
  (first | refine xoN ?_ | refine xo_fa T_ rfl rfl rfl rfl rfl ?_)
  (first | refine xoN ?_ | refine xo_load0 T_ rfl rfl rfl (by repeat first | exact mH | apply mT | apply mA) rfl rfl ?_)
  (first | refine xoN ?_ | refine xo_eql rfl rfl rfl rfl ?_)
  first | refine xo_pickT rfl rfl rfl rfl ?_ | refine xo_pickF rfl rfl rfl rfl ?_
  refine xoM ?_
  (first | refine xoN ?_ | refine xo_fa T_ rfl rfl rfl rfl rfl ?_)
  (first | refine xoN ?_ | refine xo_loadN T_ rfl rfl rfl (by repeat first | exact mH | apply mT | apply mA) rfl rfl ?_)
  (first | refine xoN ?_ | refine xo_build TB_ rfl rfl rfl rfl rfl ?_)
  (first | refine xoN ?_ | refine xo_eqlV rfl rfl rfl (spa_eq _ _ m.f4.f0 m.f4.f1 0 0) rfl ?_)
  first | refine xo_pickT rfl rfl rfl rfl ?_ | refine xo_pickF rfl rfl rfl rfl ?_
  refine xoA ?_
  with_reducible (apply xo_nil; (repeat first | apply xqT | apply xqB | apply xqS); (repeat apply xc_seq); apply xc_ret; (repeat (first | apply xq_thenR | apply xq_blockR | apply xq_scopeR)))
  exact (xq_ret1 rfl rfl fun w' hw => ⟨rfl, hw.kx.below⟩)
 ·cases h2 : (!decide (m.f3 = m.f2))
  ·with_reducible repeat apply xc_seq
   with_reducible apply xcR
   refine xo_fa T_ rfl rfl rfl rfl rfl ?_
   refine xo_load0 T_ rfl rfl rfl (by repeat first | exact mH | apply mT | apply mA) rfl rfl ?_
   refine xo_sub rfl rfl rfl (by omega) rfl ?_
   refine xo_fa T_ rfl rfl rfl rfl rfl ?_
   refine xo_load0 T_ rfl rfl rfl (by repeat first | exact mH | apply mT | apply mA) rfl rfl ?_
   refine xo_bs1 T_ rfl rfl rfl rfl rfl rfl rfl rfl (fun b10 => ?_)
   refine xo_callB (fs := []) (cs := []) rfl rfl rfl in_enters rfl (fun w1 hw1 => in_calls hw1 0 (R - 1) m.f3 (by repeat first | exact mH | apply mT | apply mA)) ?_
   refine xo_as (i := 11) rfl (congrArg Value.bool h) ?_
   refine xoM ?_
   (first | refine xoN ?_ | refine xo_fa T_ rfl rfl rfl rfl rfl ?_)
   (first | refine xoN ?_ | refine xo_load0 T_ rfl rfl rfl (by repeat first | exact mH | apply mT | apply mA) rfl rfl ?_)
   (first | refine xoN ?_ | refine xo_fa T_ rfl rfl rfl rfl rfl ?_)
   (first | refine xoN ?_ | refine xo_load0 T_ rfl rfl rfl (by repeat first | exact mH | apply mT | apply mA) rfl rfl ?_)
   (first | refine xoN ?_ | refine xo_neq rfl rfl rfl rfl ?_)
   refine xo_as (i := 17) rfl (congrArg Value.bool h2) ?_
   first | refine xo_pickT rfl rfl rfl rfl ?_ | refine xo_pickF rfl rfl rfl rfl ?_
   refine xoM ?_
   (first | refine xoN ?_ | refine xo_fa T_ rfl rfl rfl rfl rfl ?_)
   (first | refine xoN ?_ | refine xo_load0 T_ rfl rfl rfl (by repeat first | exact mH | apply mT | apply mA) rfl rfl ?_)
   (first | refine xoN ?_ | refine xo_eql rfl rfl rfl rfl ?_)
   first | refine xo_pickT rfl rfl rfl rfl ?_ | refine xo_pickF rfl rfl rfl rfl ?_
   refine xoM ?_
   (first | refine xoN ?_ | refine xo_fa T_ rfl rfl rfl rfl rfl ?_)
   (first | refine xoN ?_ | refine xo_loadN T_ rfl rfl rfl (by repeat first | exact mH | apply mT | apply mA) rfl rfl ?_)
   (first | refine xoN ?_ | refine xo_build TB_ rfl rfl rfl rfl rfl ?_)
   (first | refine xoN ?_ | refine xo_eqlV rfl rfl rfl (spa_eq _ _ m.f4.f0 m.f4.f1 0 0) rfl ?_)
   first | refine xo_pickT rfl rfl rfl rfl ?_ | refine xo_pickF rfl rfl rfl rfl ?_
   refine xoA ?_
   with_reducible (apply xo_nil; (repeat first | apply xqT | apply xqB | apply xqS); (repeat apply xc_seq); apply xc_ret; (repeat (first | apply xq_thenR | apply xq_blockR | apply xq_scopeR)))
   exact (xq_ret1 rfl rfl fun w' hw => ⟨rfl, hw.kx.below⟩)
  ·cases h3 : decide (m.f5 = 0)
   all_goals
    with_reducible ((repeat apply xc_seq); apply xcR)
    refine xo_fa T_ rfl rfl rfl rfl rfl ?_
    refine xo_load0 T_ rfl rfl rfl (by repeat first | exact mH | apply mT | apply mA) rfl rfl ?_
    refine xo_sub rfl rfl rfl (by omega) rfl ?_
    refine xo_fa T_ rfl rfl rfl rfl rfl ?_
    refine xo_load0 T_ rfl rfl rfl (by repeat first | exact mH | apply mT | apply mA) rfl rfl ?_
    refine xo_bs1 T_ rfl rfl rfl rfl rfl rfl rfl rfl (fun b10 => ?_)
    refine xo_callB (fs := []) (cs := []) rfl rfl rfl in_enters rfl (fun w1 hw1 => in_calls hw1 0 (R - 1) m.f3 (by repeat first | exact mH | apply mT | apply mA)) ?_
    refine xo_as (i := 11) rfl (congrArg Value.bool h) ?_
    refine xoM ?_
    (first | refine xoN ?_ | refine xo_fa T_ rfl rfl rfl rfl rfl ?_)
    (first | refine xoN ?_ | refine xo_load0 T_ rfl rfl rfl (by repeat first | exact mH | apply mT | apply mA) rfl rfl ?_)
    (first | refine xoN ?_ | refine xo_fa T_ rfl rfl rfl rfl rfl ?_)
    (first | refine xoN ?_ | refine xo_load0 T_ rfl rfl rfl (by repeat first | exact mH | apply mT | apply mA) rfl rfl ?_)
    (first | refine xoN ?_ | refine xo_neq rfl rfl rfl rfl ?_)
    refine xo_as (i := 17) rfl (congrArg Value.bool h2) ?_
    first | refine xo_pickT rfl rfl rfl rfl ?_ | refine xo_pickF rfl rfl rfl rfl ?_
    refine xoM ?_
    (first | refine xoN ?_ | refine xo_fa T_ rfl rfl rfl rfl rfl ?_)
    (first | refine xoN ?_ | refine xo_load0 T_ rfl rfl rfl (by repeat first | exact mH | apply mT | apply mA) rfl rfl ?_)
    (first | refine xoN ?_ | refine xo_eql rfl rfl rfl rfl ?_)
    refine xo_as (i := 22) rfl (congrArg Value.bool h3) ?_
    first | refine xo_pickT rfl rfl rfl rfl ?_ | refine xo_pickF rfl rfl rfl rfl ?_
    refine xoM ?_
    (first | refine xoN ?_ | refine xo_fa T_ rfl rfl rfl rfl rfl ?_)
    (first | refine xoN ?_ | refine xo_loadN T_ rfl rfl rfl (by repeat first | exact mH | apply mT | apply mA) rfl rfl ?_)
    (first | refine xoN ?_ | refine xo_build TB_ rfl rfl rfl rfl rfl ?_)
    (first | refine xoN ?_ | refine xo_eqlV rfl rfl rfl (spa_eq _ _ m.f4.f0 m.f4.f1 0 0) rfl ?_)
    first | refine xo_pickT rfl rfl rfl rfl ?_ | refine xo_pickF rfl rfl rfl rfl ?_
    refine xoA ?_
    with_reducible (apply xo_nil; (repeat first | apply xqT | apply xqB | apply xqS); (repeat apply xc_seq); apply xc_ret; (repeat (first | apply xq_thenR | apply xq_blockR | apply xq_scopeR)))
    exact (xq_ret1 rfl rfl fun w' hw => ⟨rfl, hw.kx.below⟩)
theorem right_calls (R E : Int) (A B : Option Addr) (n c n2 c2 : Nat) (m : MarT) (w : World) (hR : 1 ≤ R ∧ R ≤ 6) (hk : 1 ≤ m.f1 ∧ m.f1 ≤ 6) : Calls Tryd.prog (rightK m.f1) #[.agg (scnV R A n c E B n2 c2).toArray, .agg (marV m).toArray] w fun e w' => e = .returned (.bool (kindF R m)) ∧ Below w.heap.size w w' := by
 unfold rightK kindF
 rw [if_neg (by omega)]
 by_cases h1 : m.f1 ≤ 3
 ·rw [if_pos h1, if_pos h1]; exact timed_calls _ m w
 rw [if_neg h1, if_neg h1]
 by_cases h2 : m.f1 ≤ 5
 ·rw [if_pos h2, if_pos h2]; exact lasting_calls _ m w
 ·rw [if_neg h2, if_neg h2]; exact before7_calls R E A B n c n2 c2 m w hR
theorem timed_enters : ∀ args w, (callFunc 63 args).run Tryd.prog w = .ok (.enter 63 args) w := enters_of Tryd.func63 (by kernel_rfl) rfl
theorem lasting_enters : ∀ args w, (callFunc 69 args).run Tryd.prog w = .ok (.enter 69 args) w := enters_of Tryd.func69 (by kernel_rfl) rfl
theorem kinds2_enters : ∀ args w, (callFunc 64 args).run Tryd.prog w = .ok (.enter 64 args) w := enters_of Tryd.func64 (by kernel_rfl) rfl
theorem kinds3_enters : ∀ args w, (callFunc 67 args).run Tryd.prog w = .ok (.enter 67 args) w := enters_of Tryd.func67 (by kernel_rfl) rfl
theorem kinds4_enters : ∀ args w, (callFunc 68 args).run Tryd.prog w = .ok (.enter 68 args) w := enters_of Tryd.func68 (by kernel_rfl) rfl
theorem kinds5_enters : ∀ args w, (callFunc 70 args).run Tryd.prog w = .ok (.enter 70 args) w := enters_of Tryd.func70 (by kernel_rfl) rfl
theorem kinds6_enters : ∀ args w, (callFunc 71 args).run Tryd.prog w = .ok (.enter 71 args) w := enters_of Tryd.func71 (by kernel_rfl) rfl
theorem kinds7_enters : ∀ args w, (callFunc 72 args).run Tryd.prog w = .ok (.enter 72 args) w := enters_of Tryd.func72 (by kernel_rfl) rfl
theorem kinds8_enters : ∀ args w, (callFunc 73 args).run Tryd.prog w = .ok (.enter 73 args) w := enters_of Tryd.func73 (by kernel_rfl) rfl
theorem right_enters {k : Int} (h : 1 ≤ k ∧ k ≤ 6) : ∀ args w, (callFunc (rightK k) args).run Tryd.prog w = .ok (.enter (rightK k) args) w := six (φ := fun k => ∀ args w, (callFunc (rightK k) args).run Tryd.prog w = .ok (.enter (rightK k) args) w) h timed_enters timed_enters timed_enters lasting_enters lasting_enters kinds7_enters
theorem says_enters {k : Int} (h : 1 ≤ k ∧ k ≤ 6) : ∀ args w, (callFunc (saysK k) args).run Tryd.prog w = .ok (.enter (saysK k) args) w := six (φ := fun k => ∀ args w, (callFunc (saysK k) args).run Tryd.prog w = .ok (.enter (saysK k) args) w) h kinds2_enters kinds3_enters kinds4_enters kinds5_enters kinds6_enters kinds8_enters
structure MarkOK (m : MarT) : Prop where
 kind : 1 ≤ m.f1 ∧ m.f1 ≤ 6
 room : 0 ≤ m.f2 ∧ m.f2 ≤ 5
 other : 0 ≤ m.f3 ∧ m.f3 ≤ 5
 lo : 0 ≤ m.f4.f0 ∧ m.f4.f0 ≤ 600
 hi : 0 ≤ m.f4.f1 ∧ m.f4.f1 ≤ 600
 long : 0 ≤ m.f5 ∧ m.f5 ≤ 600
def saysF (E : Int) (r : Nat → Int) (m : MarT) : SpaT :=
 if m.f1 ≤ 1 then comF (afterF (m.f4.f0 - 1) (r m.f2.toNat)) (untilF m.f4.f1 (r m.f2.toNat))
 else if m.f1 ≤ 2 then afterF m.f4.f0 (r m.f2.toNat)
 else if m.f1 ≤ 3 then untilF m.f4.f1 (r m.f2.toNat)
 else if m.f1 ≤ 4 then untilF (E - m.f5) (r m.f2.toNat)
 else if m.f1 ≤ 5 then afterF (E - m.f5) (r m.f2.toNat)
 else if r m.f2.toNat < r m.f3.toNat then ⟨-1073741824, 1073741824⟩ else nowhereF
def SureR (r : Nat → Int) : Prop := ∀ i, i < 6 → Sure (r i)
set_option maxHeartbeats 8000000 in
theorem says2_calls (R E : Int) (A B : Option Addr) (n c n2 c2 : Nat) (r : Nat → Int) (m : MarT) (w : World) (hm : MarkOK m) (hE : 0 ≤ E ∧ E ≤ 600) (hr : SureR r) (hglob : GlobO w) :
  Calls Tryd.prog 64 #[.agg (scnV R A n c E B n2 c2).toArray, .agg (marV m).toArray, .agg (rowV r).toArray] w fun e w' => e = .returned (.agg (spaV (comF (afterF (m.f4.f0 - 1) (r m.f2.toNat)) (untilF m.f4.f1 (r m.f2.toNat)))).toArray) ∧ Below w.heap.size w w' := by
 obtain ⟨⟨k1, k2⟩, ⟨q1, q2⟩, ⟨q3, q4⟩, ⟨q5, q6⟩, ⟨q7, q8⟩, ⟨q9, q10⟩⟩ := hm
 have hs := hr m.f2.toNat (by omega)
 refine x_calls (X := XNone) Tryd.func64 rfl rfl rfl ?_
 with_reducible ((repeat apply xc_seq); apply xcR)
 refine xo_box rfl rfl rfl rfl (fun b3 => ?_)
 refine xo_box rfl rfl rfl rfl (fun b4 => ?_)
 refine xo_box rfl rfl rfl rfl (fun b5 => ?_)
 refine xo_alloc T_ rfl rfl rfl rfl (fun b6 => ?_)
 with_reducible (apply xo_nil; (repeat first | apply xqT | apply xqB | apply xqS); (repeat apply xc_seq))
 apply xc_drawE (fun g => [(17, .slice (some ⟨(g.getD 0 gv0).b, 0, none⟩) 1 1)]) (fun (η0 : Hp) g => match g with | [] => (η0) | a0 :: [] => ((a0.b, true, cel (spaV (untilF m.f4.f1 (r m.f2.toNat))) 55) :: η0) | a0 :: a1 :: _ => ((a0.b, true, cel (spaV (untilF m.f4.f1 (r m.f2.toNat))) 55) :: (b6, true, cel (spaV (comF (afterF (m.f4.f0 - 1) (r m.f2.toNat)) (untilF m.f4.f1 (r m.f2.toNat)))) 55) :: (b5, true, cel (rowV r) 101) :: (b4, true, cel (marV m) 60) :: (b3, true, cel (scnV R A n c E B n2 c2) 25) :: [])) (fun _ => True) [0, 0, 0, 0, 0, 0, 0, 0, 0, 0, 0, 0, 0, 0, 0, 0, 0, 1, 1, 2] [17, 19] [[16], [18, 18, 0, 1, 2, 3, 4, 5, 6, 7, 8, 9, 10, 11, 12, 13, 14, 15, 16, 17, 18]] (by trivial)
 apply SameLen.cons
 apply SameLen.cons
 apply SameLen.cons
 apply SameLen.cons
 apply SameLen.cons
 apply SameLen.cons
 apply SameLen.cons
 apply SameLen.cons
 apply SameLen.cons
 apply SameLen.cons
 apply SameLen.cons
 apply SameLen.cons
 apply SameLen.cons
 apply SameLen.cons
 apply SameLen.cons
 apply SameLen.cons
 apply SameLen.cons
 apply SameLen.cons (c := undef)
 apply SameLen.cons
 apply SameLen.cons
 exact SameLen.nil
 rotate_left 19
 case hH0 => rfl
 case hmix => exact T_.mixed
 case hbind => rfl
 case hdeps => rfl
 case hdist => rfl
 case hfresh => rfl
 case hE => rfl
 case hEn => decide
 ·refine DrawE.pure 0 1 rfl (.inr (by decide)) (fun L g hg hd => Nat.zero_le _) (fun g hlo hhi hF τ => ?_) ?_
  ·rcases g with _ | ⟨a0, _ | ⟨a1, _ | ⟨a2, g⟩⟩⟩ <;> first | (simp only [lenC, lenN] at hlo hhi; omega) | (refine ⟨_, rfl, ?_⟩; refine xo_fa T_ rfl rfl rfl rfl rfl ?_; exact xo_fin rfl)
  refine DrawE.pure 0 1 rfl (.inr (by decide)) (fun L g hg hd => Nat.zero_le _) (fun g hlo hhi hF τ => ?_) ?_
  ·rcases g with _ | ⟨a0, _ | ⟨a1, _ | ⟨a2, g⟩⟩⟩ <;> first | (simp only [lenC, lenN] at hlo hhi; omega) | (refine ⟨_, rfl, ?_⟩; refine xo_fa T_ rfl rfl rfl rfl rfl ?_; exact xo_fin rfl)
  refine DrawE.pure 0 1 rfl (.inr (by decide)) (fun L g hg hd => Nat.zero_le _) (fun g hlo hhi hF τ => ?_) ?_
  ·rcases g with _ | ⟨a0, _ | ⟨a1, _ | ⟨a2, g⟩⟩⟩ <;> first | (simp only [lenC, lenN] at hlo hhi; omega) | (refine ⟨_, rfl, ?_⟩; refine xo_load0 T_ rfl rfl rfl (by repeat first | exact mH | apply mT | apply mA) rfl rfl ?_; exact xo_fin rfl)
  refine DrawE.pure 0 1 rfl (.inr (by decide)) (fun L g hg hd => Nat.zero_le _) (fun g hlo hhi hF τ => ?_) ?_
  ·rcases g with _ | ⟨a0, _ | ⟨a1, _ | ⟨a2, g⟩⟩⟩ <;> first | (simp only [lenC, lenN] at hlo hhi; omega) | (refine ⟨_, rfl, ?_⟩; refine xo_sub rfl rfl rfl (by omega) rfl ?_; exact xo_fin rfl)
  refine DrawE.pure 0 1 rfl (.inr (by decide)) (fun L g hg hd => Nat.zero_le _) (fun g hlo hhi hF τ => ?_) ?_
  ·rcases g with _ | ⟨a0, _ | ⟨a1, _ | ⟨a2, g⟩⟩⟩ <;> first | (simp only [lenC, lenN] at hlo hhi; omega) | (refine ⟨_, rfl, ?_⟩; refine xo_fa T_ rfl rfl rfl rfl rfl ?_; exact xo_fin rfl)
  refine DrawE.pure 0 1 rfl (.inr (by decide)) (fun L g hg hd => Nat.zero_le _) (fun g hlo hhi hF τ => ?_) ?_
  ·rcases g with _ | ⟨a0, _ | ⟨a1, _ | ⟨a2, g⟩⟩⟩ <;> first | (simp only [lenC, lenN] at hlo hhi; omega) | (refine ⟨_, rfl, ?_⟩; refine xo_load0 T_ rfl rfl rfl (by repeat first | exact mH | apply mT | apply mA) rfl rfl ?_; exact xo_fin rfl)
  refine DrawE.pure 0 1 rfl (.inr (by decide)) (fun L g hg hd => Nat.zero_le _) (fun g hlo hhi hF τ => ?_) ?_
  ·rcases g with _ | ⟨a0, _ | ⟨a1, _ | ⟨a2, g⟩⟩⟩ <;> first | (simp only [lenC, lenN] at hlo hhi; omega) | (refine ⟨_, rfl, ?_⟩; refine xo_iaL T_ rfl Tryd.underlying101 rfl rfl rfl ⟨by omega, by omega⟩ rfl ?_; exact xo_fin rfl)
  refine DrawE.pure 0 1 rfl (.inr (by decide)) (fun L g hg hd => Nat.zero_le _) (fun g hlo hhi hF τ => ?_) ?_
  ·rcases g with _ | ⟨a0, _ | ⟨a1, _ | ⟨a2, g⟩⟩⟩ <;> first | (simp only [lenC, lenN] at hlo hhi; omega) | (refine ⟨_, rfl, ?_⟩; refine xo_load0 T_ rfl rfl rfl (by repeat first | exact mH | apply mT | apply mA) (rowV_at r ⟨by omega, by omega⟩) rfl ?_; exact xo_fin rfl)
  refine DrawE.pure 0 1 rfl (.inr (by decide)) (fun L g hg hd => Nat.zero_le _) (fun g hlo hhi hF τ => ?_) ?_
  ·rcases g with _ | ⟨a0, _ | ⟨a1, _ | ⟨a2, g⟩⟩⟩ <;> first | (simp only [lenC, lenN] at hlo hhi; omega) | (refine ⟨_, rfl, ?_⟩; refine xo_callB (fs := []) (cs := []) rfl rfl rfl after_enters rfl (fun w1 hw1 => after_calls (m.f4.f0 - 1) (r m.f2.toNat) w1 ⟨by omega, by omega⟩ hs) ?_; exact xo_fin rfl)
  refine DrawE.pure 0 1 rfl (.inr (by decide)) (fun L g hg hd => Nat.zero_le _) (fun g hlo hhi hF τ => ?_) ?_
  ·rcases g with _ | ⟨a0, _ | ⟨a1, _ | ⟨a2, g⟩⟩⟩ <;> first | (simp only [lenC, lenN] at hlo hhi; omega) | (refine ⟨_, rfl, ?_⟩; refine xo_fa T_ rfl rfl rfl rfl rfl ?_; exact xo_fin rfl)
  refine DrawE.pure 0 1 rfl (.inr (by decide)) (fun L g hg hd => Nat.zero_le _) (fun g hlo hhi hF τ => ?_) ?_
  ·rcases g with _ | ⟨a0, _ | ⟨a1, _ | ⟨a2, g⟩⟩⟩ <;> first | (simp only [lenC, lenN] at hlo hhi; omega) | (refine ⟨_, rfl, ?_⟩; refine xo_fa T_ rfl rfl rfl rfl rfl ?_; exact xo_fin rfl)
  refine DrawE.pure 0 1 rfl (.inr (by decide)) (fun L g hg hd => Nat.zero_le _) (fun g hlo hhi hF τ => ?_) ?_
  ·rcases g with _ | ⟨a0, _ | ⟨a1, _ | ⟨a2, g⟩⟩⟩ <;> first | (simp only [lenC, lenN] at hlo hhi; omega) | (refine ⟨_, rfl, ?_⟩; refine xo_load0 T_ rfl rfl rfl (by repeat first | exact mH | apply mT | apply mA) rfl rfl ?_; exact xo_fin rfl)
  refine DrawE.pure 0 1 rfl (.inr (by decide)) (fun L g hg hd => Nat.zero_le _) (fun g hlo hhi hF τ => ?_) ?_
  ·rcases g with _ | ⟨a0, _ | ⟨a1, _ | ⟨a2, g⟩⟩⟩ <;> first | (simp only [lenC, lenN] at hlo hhi; omega) | (refine ⟨_, rfl, ?_⟩; refine xo_fa T_ rfl rfl rfl rfl rfl ?_; exact xo_fin rfl)
  refine DrawE.pure 0 1 rfl (.inr (by decide)) (fun L g hg hd => Nat.zero_le _) (fun g hlo hhi hF τ => ?_) ?_
  ·rcases g with _ | ⟨a0, _ | ⟨a1, _ | ⟨a2, g⟩⟩⟩ <;> first | (simp only [lenC, lenN] at hlo hhi; omega) | (refine ⟨_, rfl, ?_⟩; refine xo_load0 T_ rfl rfl rfl (by repeat first | exact mH | apply mT | apply mA) rfl rfl ?_; exact xo_fin rfl)
  refine DrawE.pure 0 1 rfl (.inr (by decide)) (fun L g hg hd => Nat.zero_le _) (fun g hlo hhi hF τ => ?_) ?_
  ·rcases g with _ | ⟨a0, _ | ⟨a1, _ | ⟨a2, g⟩⟩⟩ <;> first | (simp only [lenC, lenN] at hlo hhi; omega) | (refine ⟨_, rfl, ?_⟩; refine xo_iaL T_ rfl Tryd.underlying101 rfl rfl rfl ⟨by omega, by omega⟩ rfl ?_; exact xo_fin rfl)
  refine DrawE.pure 0 1 rfl (.inr (by decide)) (fun L g hg hd => Nat.zero_le _) (fun g hlo hhi hF τ => ?_) ?_
  ·rcases g with _ | ⟨a0, _ | ⟨a1, _ | ⟨a2, g⟩⟩⟩ <;> first | (simp only [lenC, lenN] at hlo hhi; omega) | (refine ⟨_, rfl, ?_⟩; refine xo_load0 T_ rfl rfl rfl (by repeat first | exact mH | apply mT | apply mA) (rowV_at r ⟨by omega, by omega⟩) rfl ?_; exact xo_fin rfl)
  refine DrawE.pure 0 0 rfl (.inr (by decide)) (fun L g hg hd => Nat.zero_le _) (fun g hlo hhi hF τ => ?_) ?_
  ·rcases g with _ | ⟨a0, _ | ⟨a1, _ | ⟨a2, g⟩⟩⟩ <;> first | (simp only [lenC, lenN] at hlo hhi; omega) | (refine ⟨_, rfl, ?_⟩; refine xo_callB (fs := []) (cs := []) rfl rfl rfl until_enters rfl (fun w1 hw1 => until_calls m.f4.f1 (r m.f2.toNat) w1 ⟨by omega, by omega⟩ hs (hglob.below hw1.kx.below)) ?_; exact xo_fin rfl)
  refine DrawE.eff 0 rfl (by decide) rfl (fun j hj => hj) (fun j g a hj => ?_) (fun L g hg hd => Nat.zero_le _) (fun g hgl hF τ => ?_) ?_
  ·rcases j with _ | _ | _ | _ | _ | _ | _ | _ | _ | _ | _ | _ | _ | _ | _ | _ | _ | _ | _ | _ | j
   all_goals first | rfl | (rcases g with _ | ⟨a0, _ | ⟨a1, _ | ⟨a2, g⟩⟩⟩ <;> first | rfl | exact absurd hj (by decide) | exact absurd hj (by simp [List.getD]))
  ·obtain rfl : g = [] := by
    rcases g with _ | ⟨a0, g⟩ <;> first | rfl | (exfalso; simp only [List.length_cons, List.length_nil] at hgl; omega)
   refine xo_bsG T_ 2 rfl rfl rfl rfl rfl rfl rfl rfl rfl rfl (fun b24 => ?_)
   exact xo_finE ⟨b24, 0, none⟩ rfl trivial
  refine DrawE.pure 1 1 rfl (.inr (by decide)) (fun L g hg hd => hg.2.1 17 (hd 17 (by decide))) (fun g hlo hhi hF τ => ?_) ?_
  ·rcases g with _ | ⟨a0, _ | ⟨a1, _ | ⟨a2, g⟩⟩⟩ <;> first | (simp only [lenC, lenN] at hlo hhi; omega) | (refine ⟨_, rfl, ?_⟩; refine xo_callB (fs := []) (cs := []) rfl rfl rfl common_enters rfl (fun w1 hw1 => common1_calls (afterF (m.f4.f0 - 1) (r m.f2.toNat)) (untilF m.f4.f1 (r m.f2.toNat)) a0.b w1 (hw1.ro (by repeat first | exact mH | apply mT | apply mA))) ?_; exact xo_fin rfl)
  refine DrawE.eff 1 rfl (by decide) rfl (fun j hj => hj) (fun j g a hj => ?_) (fun L g hg hd => hg.2.1 18 (hd 18 (by decide))) (fun g hgl hF τ => ?_) ?_
  ·rcases j with _ | _ | _ | _ | _ | _ | _ | _ | _ | _ | _ | _ | _ | _ | _ | _ | _ | _ | _ | _ | j
   all_goals first | rfl | (rcases g with _ | ⟨a0, _ | ⟨a1, _ | ⟨a2, g⟩⟩⟩ <;> first | rfl | exact absurd hj (by decide) | exact absurd hj (by simp [List.getD]))
  ·obtain ⟨a0, rfl⟩ : ∃ a0, g = [a0] := by
    rcases g with _ | ⟨a0, _ | ⟨a1, _ | ⟨a2, g⟩⟩⟩ <;> first | exact ⟨_, rfl⟩ | rfl | (exfalso; simp only [List.length_cons, List.length_nil] at hgl; omega)
   refine xo_store T_ rfl rfl rfl rfl (by repeat first | exact mH | apply mT | apply mA) rfl rfl rfl rfl (by repeat first | exact Upd.head | apply Upd.tail | apply Upd.app) rfl ?_
   exact xo_finE ⟨0, 0, none⟩ rfl trivial
  exact DrawE.nil
 intro g hgl hF
 obtain ⟨a0, a1, rfl⟩ : ∃ a0 a1, g = [a0, a1] := by
  rcases g with _ | ⟨a0, _ | ⟨a1, _ | ⟨a2, g⟩⟩⟩ <;> first | exact ⟨_, _, rfl⟩ | (exfalso; simp only [List.length_cons, List.length_nil] at hgl; omega)
 with_reducible ((repeat first | apply xqT | apply xqB | apply xqS); (repeat apply xc_seq); apply xc_ret; (repeat (first | apply xq_thenR | apply xq_blockR | apply xq_scopeR)))
 exact xq_retC T_ rfl rfl rfl (by repeat first | exact mH | apply mT | apply mA) rfl fun w' hw => ⟨rfl, hw.kx.below⟩
set_option maxHeartbeats 8000000 in
theorem says3_calls (R E : Int) (A B : Option Addr) (n c n2 c2 : Nat) (r : Nat → Int) (m : MarT) (w : World) (hm : MarkOK m) (hE : 0 ≤ E ∧ E ≤ 600) (hr : SureR r) (hglob : GlobO w) :
  Calls Tryd.prog 67 #[.agg (scnV R A n c E B n2 c2).toArray, .agg (marV m).toArray, .agg (rowV r).toArray] w fun e w' => e = .returned (.agg (spaV (afterF m.f4.f0 (r m.f2.toNat))).toArray) ∧ Below w.heap.size w w' := by
 obtain ⟨⟨k1, k2⟩, ⟨q1, q2⟩, ⟨q3, q4⟩, ⟨q5, q6⟩, ⟨q7, q8⟩, ⟨q9, q10⟩⟩ := hm
 have hs := hr m.f2.toNat (by omega)
 refine x_calls (X := XNone) Tryd.func67 rfl rfl rfl ?_
 with_reducible ((repeat apply xc_seq); apply xcR)
 refine xo_box rfl rfl rfl rfl (fun b3 => ?_)
 refine xo_box rfl rfl rfl rfl (fun b4 => ?_)
 refine xo_box rfl rfl rfl rfl (fun b5 => ?_)
 refine xo_alloc T_ rfl rfl rfl rfl (fun b6 => ?_)
 with_reducible (apply xo_nil; (repeat first | apply xqT | apply xqB | apply xqS); (repeat apply xc_seq))
 apply xc_drawE (fun g => []) (fun (η0 : Hp) g => match g with | [] => (η0) | a0 :: _ => ((b6, true, cel (spaV (afterF m.f4.f0 (r m.f2.toNat))) 55) :: (b5, true, cel (rowV r) 101) :: (b4, true, cel (marV m) 60) :: (b3, true, cel (scnV R A n c E B n2 c2) 25) :: [])) (fun _ => True) [0, 0, 0, 0, 0, 0, 0, 0, 1] [8] [[7, 7, 0, 1, 2, 3, 4, 5, 6, 7]] (by trivial)
 apply SameLen.cons
 apply SameLen.cons
 apply SameLen.cons
 apply SameLen.cons
 apply SameLen.cons
 apply SameLen.cons
 apply SameLen.cons
 apply SameLen.cons
 apply SameLen.cons
 exact SameLen.nil
 rotate_left 9
 case hH0 => rfl
 case hmix => exact T_.mixed
 case hbind => rfl
 case hdeps => rfl
 case hdist => rfl
 case hfresh => rfl
 case hE => rfl
 case hEn => decide
 ·refine DrawE.pure 0 0 rfl (.inr (by decide)) (fun L g hg hd => Nat.zero_le _) (fun g hlo hhi hF τ => ?_) ?_
  ·rcases g with _ | ⟨a0, _ | ⟨a1, g⟩⟩ <;> first | (simp only [lenC, lenN] at hlo hhi; omega) | (refine ⟨_, rfl, ?_⟩; refine xo_fa T_ rfl rfl rfl rfl rfl ?_; exact xo_fin rfl)
  refine DrawE.pure 0 0 rfl (.inr (by decide)) (fun L g hg hd => Nat.zero_le _) (fun g hlo hhi hF τ => ?_) ?_
  ·rcases g with _ | ⟨a0, _ | ⟨a1, g⟩⟩ <;> first | (simp only [lenC, lenN] at hlo hhi; omega) | (refine ⟨_, rfl, ?_⟩; refine xo_fa T_ rfl rfl rfl rfl rfl ?_; exact xo_fin rfl)
  refine DrawE.pure 0 0 rfl (.inr (by decide)) (fun L g hg hd => Nat.zero_le _) (fun g hlo hhi hF τ => ?_) ?_
  ·rcases g with _ | ⟨a0, _ | ⟨a1, g⟩⟩ <;> first | (simp only [lenC, lenN] at hlo hhi; omega) | (refine ⟨_, rfl, ?_⟩; refine xo_load0 T_ rfl rfl rfl (by repeat first | exact mH | apply mT | apply mA) rfl rfl ?_; exact xo_fin rfl)
  refine DrawE.pure 0 0 rfl (.inr (by decide)) (fun L g hg hd => Nat.zero_le _) (fun g hlo hhi hF τ => ?_) ?_
  ·rcases g with _ | ⟨a0, _ | ⟨a1, g⟩⟩ <;> first | (simp only [lenC, lenN] at hlo hhi; omega) | (refine ⟨_, rfl, ?_⟩; refine xo_fa T_ rfl rfl rfl rfl rfl ?_; exact xo_fin rfl)
  refine DrawE.pure 0 0 rfl (.inr (by decide)) (fun L g hg hd => Nat.zero_le _) (fun g hlo hhi hF τ => ?_) ?_
  ·rcases g with _ | ⟨a0, _ | ⟨a1, g⟩⟩ <;> first | (simp only [lenC, lenN] at hlo hhi; omega) | (refine ⟨_, rfl, ?_⟩; refine xo_load0 T_ rfl rfl rfl (by repeat first | exact mH | apply mT | apply mA) rfl rfl ?_; exact xo_fin rfl)
  refine DrawE.pure 0 0 rfl (.inr (by decide)) (fun L g hg hd => Nat.zero_le _) (fun g hlo hhi hF τ => ?_) ?_
  ·rcases g with _ | ⟨a0, _ | ⟨a1, g⟩⟩ <;> first | (simp only [lenC, lenN] at hlo hhi; omega) | (refine ⟨_, rfl, ?_⟩; refine xo_iaL T_ rfl Tryd.underlying101 rfl rfl rfl ⟨by omega, by omega⟩ rfl ?_; exact xo_fin rfl)
  refine DrawE.pure 0 0 rfl (.inr (by decide)) (fun L g hg hd => Nat.zero_le _) (fun g hlo hhi hF τ => ?_) ?_
  ·rcases g with _ | ⟨a0, _ | ⟨a1, g⟩⟩ <;> first | (simp only [lenC, lenN] at hlo hhi; omega) | (refine ⟨_, rfl, ?_⟩; refine xo_load0 T_ rfl rfl rfl (by repeat first | exact mH | apply mT | apply mA) (rowV_at r ⟨by omega, by omega⟩) rfl ?_; exact xo_fin rfl)
  refine DrawE.pure 0 0 rfl (.inr (by decide)) (fun L g hg hd => Nat.zero_le _) (fun g hlo hhi hF τ => ?_) ?_
  ·rcases g with _ | ⟨a0, _ | ⟨a1, g⟩⟩ <;> first | (simp only [lenC, lenN] at hlo hhi; omega) | (refine ⟨_, rfl, ?_⟩; refine xo_callB (fs := []) (cs := []) rfl rfl rfl after_enters rfl (fun w1 hw1 => after_calls (m.f4.f0) (r m.f2.toNat) w1 ⟨by omega, by omega⟩ hs) ?_; exact xo_fin rfl)
  refine DrawE.eff 0 rfl (by decide) rfl (fun j hj => hj) (fun j g a hj => ?_) (fun L g hg hd => Nat.zero_le _) (fun g hgl hF τ => ?_) ?_
  ·rcases j with _ | _ | _ | _ | _ | _ | _ | _ | _ | j
   all_goals first | rfl | (rcases g with _ | ⟨a0, _ | ⟨a1, g⟩⟩ <;> first | rfl | exact absurd hj (by decide) | exact absurd hj (by simp [List.getD]))
  ·obtain rfl : g = [] := by
    rcases g with _ | ⟨a0, g⟩ <;> first | rfl | (exfalso; simp only [List.length_cons, List.length_nil] at hgl; omega)
   refine xo_store T_ rfl rfl rfl rfl (by repeat first | exact mH | apply mT | apply mA) rfl rfl rfl rfl (by repeat first | exact Upd.head | apply Upd.tail | apply Upd.app) rfl ?_
   exact xo_finE ⟨0, 0, none⟩ rfl trivial
  exact DrawE.nil
 intro g hgl hF
 obtain ⟨a0, rfl⟩ : ∃ a0, g = [a0] := by
  rcases g with _ | ⟨a0, _ | ⟨a1, g⟩⟩ <;> first | exact ⟨_, rfl⟩ | (exfalso; simp only [List.length_cons, List.length_nil] at hgl; omega)
 with_reducible ((repeat first | apply xqT | apply xqB | apply xqS); (repeat apply xc_seq); apply xc_ret; (repeat (first | apply xq_thenR | apply xq_blockR | apply xq_scopeR)))
 exact xq_retC T_ rfl rfl rfl (by repeat first | exact mH | apply mT | apply mA) rfl fun w' hw => ⟨rfl, hw.kx.below⟩
set_option maxHeartbeats 8000000 in
theorem says4_calls (R E : Int) (A B : Option Addr) (n c n2 c2 : Nat) (r : Nat → Int) (m : MarT) (w : World) (hm : MarkOK m) (hE : 0 ≤ E ∧ E ≤ 600) (hr : SureR r) (hglob : GlobO w) :
  Calls Tryd.prog 68 #[.agg (scnV R A n c E B n2 c2).toArray, .agg (marV m).toArray, .agg (rowV r).toArray] w fun e w' => e = .returned (.agg (spaV (untilF m.f4.f1 (r m.f2.toNat))).toArray) ∧ Below w.heap.size w w' := by
 obtain ⟨⟨k1, k2⟩, ⟨q1, q2⟩, ⟨q3, q4⟩, ⟨q5, q6⟩, ⟨q7, q8⟩, ⟨q9, q10⟩⟩ := hm
 have hs := hr m.f2.toNat (by omega)
 refine x_calls (X := XNone) Tryd.func68 rfl rfl rfl ?_
 with_reducible ((repeat apply xc_seq); apply xcR)
 refine xo_box rfl rfl rfl rfl (fun b3 => ?_)
 refine xo_box rfl rfl rfl rfl (fun b4 => ?_)
 refine xo_box rfl rfl rfl rfl (fun b5 => ?_)
 refine xo_alloc T_ rfl rfl rfl rfl (fun b6 => ?_)
 with_reducible (apply xo_nil; (repeat first | apply xqT | apply xqB | apply xqS); (repeat apply xc_seq))
 apply xc_drawE (fun g => []) (fun (η0 : Hp) g => match g with | [] => (η0) | a0 :: _ => ((b6, true, cel (spaV (untilF m.f4.f1 (r m.f2.toNat))) 55) :: (b5, true, cel (rowV r) 101) :: (b4, true, cel (marV m) 60) :: (b3, true, cel (scnV R A n c E B n2 c2) 25) :: [])) (fun _ => True) [0, 0, 0, 0, 0, 0, 0, 0, 1] [8] [[7, 7, 0, 1, 2, 3, 4, 5, 6, 7]] (by trivial)
 apply SameLen.cons
 apply SameLen.cons
 apply SameLen.cons
 apply SameLen.cons
 apply SameLen.cons
 apply SameLen.cons
 apply SameLen.cons
 apply SameLen.cons
 apply SameLen.cons
 exact SameLen.nil
 rotate_left 9
 case hH0 => rfl
 case hmix => exact T_.mixed
 case hbind => rfl
 case hdeps => rfl
 case hdist => rfl
 case hfresh => rfl
 case hE => rfl
 case hEn => decide
 ·refine DrawE.pure 0 0 rfl (.inr (by decide)) (fun L g hg hd => Nat.zero_le _) (fun g hlo hhi hF τ => ?_) ?_
  ·rcases g with _ | ⟨a0, _ | ⟨a1, g⟩⟩ <;> first | (simp only [lenC, lenN] at hlo hhi; omega) | (refine ⟨_, rfl, ?_⟩; refine xo_fa T_ rfl rfl rfl rfl rfl ?_; exact xo_fin rfl)
  refine DrawE.pure 0 0 rfl (.inr (by decide)) (fun L g hg hd => Nat.zero_le _) (fun g hlo hhi hF τ => ?_) ?_
  ·rcases g with _ | ⟨a0, _ | ⟨a1, g⟩⟩ <;> first | (simp only [lenC, lenN] at hlo hhi; omega) | (refine ⟨_, rfl, ?_⟩; refine xo_fa T_ rfl rfl rfl rfl rfl ?_; exact xo_fin rfl)
  refine DrawE.pure 0 0 rfl (.inr (by decide)) (fun L g hg hd => Nat.zero_le _) (fun g hlo hhi hF τ => ?_) ?_
  ·rcases g with _ | ⟨a0, _ | ⟨a1, g⟩⟩ <;> first | (simp only [lenC, lenN] at hlo hhi; omega) | (refine ⟨_, rfl, ?_⟩; refine xo_load0 T_ rfl rfl rfl (by repeat first | exact mH | apply mT | apply mA) rfl rfl ?_; exact xo_fin rfl)
  refine DrawE.pure 0 0 rfl (.inr (by decide)) (fun L g hg hd => Nat.zero_le _) (fun g hlo hhi hF τ => ?_) ?_
  ·rcases g with _ | ⟨a0, _ | ⟨a1, g⟩⟩ <;> first | (simp only [lenC, lenN] at hlo hhi; omega) | (refine ⟨_, rfl, ?_⟩; refine xo_fa T_ rfl rfl rfl rfl rfl ?_; exact xo_fin rfl)
  refine DrawE.pure 0 0 rfl (.inr (by decide)) (fun L g hg hd => Nat.zero_le _) (fun g hlo hhi hF τ => ?_) ?_
  ·rcases g with _ | ⟨a0, _ | ⟨a1, g⟩⟩ <;> first | (simp only [lenC, lenN] at hlo hhi; omega) | (refine ⟨_, rfl, ?_⟩; refine xo_load0 T_ rfl rfl rfl (by repeat first | exact mH | apply mT | apply mA) rfl rfl ?_; exact xo_fin rfl)
  refine DrawE.pure 0 0 rfl (.inr (by decide)) (fun L g hg hd => Nat.zero_le _) (fun g hlo hhi hF τ => ?_) ?_
  ·rcases g with _ | ⟨a0, _ | ⟨a1, g⟩⟩ <;> first | (simp only [lenC, lenN] at hlo hhi; omega) | (refine ⟨_, rfl, ?_⟩; refine xo_iaL T_ rfl Tryd.underlying101 rfl rfl rfl ⟨by omega, by omega⟩ rfl ?_; exact xo_fin rfl)
  refine DrawE.pure 0 0 rfl (.inr (by decide)) (fun L g hg hd => Nat.zero_le _) (fun g hlo hhi hF τ => ?_) ?_
  ·rcases g with _ | ⟨a0, _ | ⟨a1, g⟩⟩ <;> first | (simp only [lenC, lenN] at hlo hhi; omega) | (refine ⟨_, rfl, ?_⟩; refine xo_load0 T_ rfl rfl rfl (by repeat first | exact mH | apply mT | apply mA) (rowV_at r ⟨by omega, by omega⟩) rfl ?_; exact xo_fin rfl)
  refine DrawE.pure 0 0 rfl (.inr (by decide)) (fun L g hg hd => Nat.zero_le _) (fun g hlo hhi hF τ => ?_) ?_
  ·rcases g with _ | ⟨a0, _ | ⟨a1, g⟩⟩ <;> first | (simp only [lenC, lenN] at hlo hhi; omega) | (refine ⟨_, rfl, ?_⟩; refine xo_callB (fs := []) (cs := []) rfl rfl rfl until_enters rfl (fun w1 hw1 => until_calls (m.f4.f1) (r m.f2.toNat) w1 ⟨by omega, by omega⟩ hs (hglob.below hw1.kx.below)) ?_; exact xo_fin rfl)
  refine DrawE.eff 0 rfl (by decide) rfl (fun j hj => hj) (fun j g a hj => ?_) (fun L g hg hd => Nat.zero_le _) (fun g hgl hF τ => ?_) ?_
  ·rcases j with _ | _ | _ | _ | _ | _ | _ | _ | _ | j
   all_goals first | rfl | (rcases g with _ | ⟨a0, _ | ⟨a1, g⟩⟩ <;> first | rfl | exact absurd hj (by decide) | exact absurd hj (by simp [List.getD]))
  ·obtain rfl : g = [] := by
    rcases g with _ | ⟨a0, g⟩ <;> first | rfl | (exfalso; simp only [List.length_cons, List.length_nil] at hgl; omega)
   refine xo_store T_ rfl rfl rfl rfl (by repeat first | exact mH | apply mT | apply mA) rfl rfl rfl rfl (by repeat first | exact Upd.head | apply Upd.tail | apply Upd.app) rfl ?_
   exact xo_finE ⟨0, 0, none⟩ rfl trivial
  exact DrawE.nil
 intro g hgl hF
 obtain ⟨a0, rfl⟩ : ∃ a0, g = [a0] := by
  rcases g with _ | ⟨a0, _ | ⟨a1, g⟩⟩ <;> first | exact ⟨_, rfl⟩ | (exfalso; simp only [List.length_cons, List.length_nil] at hgl; omega)
 with_reducible ((repeat first | apply xqT | apply xqB | apply xqS); (repeat apply xc_seq); apply xc_ret; (repeat (first | apply xq_thenR | apply xq_blockR | apply xq_scopeR)))
 exact xq_retC T_ rfl rfl rfl (by repeat first | exact mH | apply mT | apply mA) rfl fun w' hw => ⟨rfl, hw.kx.below⟩
set_option maxHeartbeats 8000000 in
theorem says5_calls (R E : Int) (A B : Option Addr) (n c n2 c2 : Nat) (r : Nat → Int) (m : MarT) (w : World) (hm : MarkOK m) (hE : 0 ≤ E ∧ E ≤ 600) (hr : SureR r) (hglob : GlobO w) :
  Calls Tryd.prog 70 #[.agg (scnV R A n c E B n2 c2).toArray, .agg (marV m).toArray, .agg (rowV r).toArray] w fun e w' => e = .returned (.agg (spaV (untilF (E - m.f5) (r m.f2.toNat))).toArray) ∧ Below w.heap.size w w' := by
 obtain ⟨⟨k1, k2⟩, ⟨q1, q2⟩, ⟨q3, q4⟩, ⟨q5, q6⟩, ⟨q7, q8⟩, ⟨q9, q10⟩⟩ := hm
 have hs := hr m.f2.toNat (by omega)
 refine x_calls (X := XNone) Tryd.func70 rfl rfl rfl ?_
 with_reducible ((repeat apply xc_seq); apply xcR)
 refine xo_box rfl rfl rfl rfl (fun b3 => ?_)
 refine xo_box rfl rfl rfl rfl (fun b4 => ?_)
 refine xo_box rfl rfl rfl rfl (fun b5 => ?_)
 refine xo_alloc T_ rfl rfl rfl rfl (fun b6 => ?_)
 with_reducible (apply xo_nil; (repeat first | apply xqT | apply xqB | apply xqS); (repeat apply xc_seq))
 apply xc_drawE (fun g => []) (fun (η0 : Hp) g => match g with | [] => (η0) | a0 :: _ => ((b6, true, cel (spaV (untilF (E - m.f5) (r m.f2.toNat))) 55) :: (b5, true, cel (rowV r) 101) :: (b4, true, cel (marV m) 60) :: (b3, true, cel (scnV R A n c E B n2 c2) 25) :: [])) (fun _ => True) [0, 0, 0, 0, 0, 0, 0, 0, 0, 0, 1] [10] [[9, 9, 0, 1, 2, 3, 4, 5, 6, 7, 8, 9]] (by trivial)
 apply SameLen.cons
 apply SameLen.cons
 apply SameLen.cons
 apply SameLen.cons
 apply SameLen.cons
 apply SameLen.cons
 apply SameLen.cons
 apply SameLen.cons
 apply SameLen.cons
 apply SameLen.cons
 apply SameLen.cons
 exact SameLen.nil
 rotate_left 11
 case hH0 => rfl
 case hmix => exact T_.mixed
 case hbind => rfl
 case hdeps => rfl
 case hdist => rfl
 case hfresh => rfl
 case hE => rfl
 case hEn => decide
 ·refine DrawE.pure 0 0 rfl (.inr (by decide)) (fun L g hg hd => Nat.zero_le _) (fun g hlo hhi hF τ => ?_) ?_
  ·rcases g with _ | ⟨a0, _ | ⟨a1, g⟩⟩ <;> first | (simp only [lenC, lenN] at hlo hhi; omega) | (refine ⟨_, rfl, ?_⟩; refine xo_fa T_ rfl rfl rfl rfl rfl ?_; exact xo_fin rfl)
  refine DrawE.pure 0 0 rfl (.inr (by decide)) (fun L g hg hd => Nat.zero_le _) (fun g hlo hhi hF τ => ?_) ?_
  ·rcases g with _ | ⟨a0, _ | ⟨a1, g⟩⟩ <;> first | (simp only [lenC, lenN] at hlo hhi; omega) | (refine ⟨_, rfl, ?_⟩; refine xo_load0 T_ rfl rfl rfl (by repeat first | exact mH | apply mT | apply mA) rfl rfl ?_; exact xo_fin rfl)
  refine DrawE.pure 0 0 rfl (.inr (by decide)) (fun L g hg hd => Nat.zero_le _) (fun g hlo hhi hF τ => ?_) ?_
  ·rcases g with _ | ⟨a0, _ | ⟨a1, g⟩⟩ <;> first | (simp only [lenC, lenN] at hlo hhi; omega) | (refine ⟨_, rfl, ?_⟩; refine xo_fa T_ rfl rfl rfl rfl rfl ?_; exact xo_fin rfl)
  refine DrawE.pure 0 0 rfl (.inr (by decide)) (fun L g hg hd => Nat.zero_le _) (fun g hlo hhi hF τ => ?_) ?_
  ·rcases g with _ | ⟨a0, _ | ⟨a1, g⟩⟩ <;> first | (simp only [lenC, lenN] at hlo hhi; omega) | (refine ⟨_, rfl, ?_⟩; refine xo_load0 T_ rfl rfl rfl (by repeat first | exact mH | apply mT | apply mA) rfl rfl ?_; exact xo_fin rfl)
  refine DrawE.pure 0 0 rfl (.inr (by decide)) (fun L g hg hd => Nat.zero_le _) (fun g hlo hhi hF τ => ?_) ?_
  ·rcases g with _ | ⟨a0, _ | ⟨a1, g⟩⟩ <;> first | (simp only [lenC, lenN] at hlo hhi; omega) | (refine ⟨_, rfl, ?_⟩; refine xo_sub rfl rfl rfl (by omega) rfl ?_; exact xo_fin rfl)
  refine DrawE.pure 0 0 rfl (.inr (by decide)) (fun L g hg hd => Nat.zero_le _) (fun g hlo hhi hF τ => ?_) ?_
  ·rcases g with _ | ⟨a0, _ | ⟨a1, g⟩⟩ <;> first | (simp only [lenC, lenN] at hlo hhi; omega) | (refine ⟨_, rfl, ?_⟩; refine xo_fa T_ rfl rfl rfl rfl rfl ?_; exact xo_fin rfl)
  refine DrawE.pure 0 0 rfl (.inr (by decide)) (fun L g hg hd => Nat.zero_le _) (fun g hlo hhi hF τ => ?_) ?_
  ·rcases g with _ | ⟨a0, _ | ⟨a1, g⟩⟩ <;> first | (simp only [lenC, lenN] at hlo hhi; omega) | (refine ⟨_, rfl, ?_⟩; refine xo_load0 T_ rfl rfl rfl (by repeat first | exact mH | apply mT | apply mA) rfl rfl ?_; exact xo_fin rfl)
  refine DrawE.pure 0 0 rfl (.inr (by decide)) (fun L g hg hd => Nat.zero_le _) (fun g hlo hhi hF τ => ?_) ?_
  ·rcases g with _ | ⟨a0, _ | ⟨a1, g⟩⟩ <;> first | (simp only [lenC, lenN] at hlo hhi; omega) | (refine ⟨_, rfl, ?_⟩; refine xo_iaL T_ rfl Tryd.underlying101 rfl rfl rfl ⟨by omega, by omega⟩ rfl ?_; exact xo_fin rfl)
  refine DrawE.pure 0 0 rfl (.inr (by decide)) (fun L g hg hd => Nat.zero_le _) (fun g hlo hhi hF τ => ?_) ?_
  ·rcases g with _ | ⟨a0, _ | ⟨a1, g⟩⟩ <;> first | (simp only [lenC, lenN] at hlo hhi; omega) | (refine ⟨_, rfl, ?_⟩; refine xo_load0 T_ rfl rfl rfl (by repeat first | exact mH | apply mT | apply mA) (rowV_at r ⟨by omega, by omega⟩) rfl ?_; exact xo_fin rfl)
  refine DrawE.pure 0 0 rfl (.inr (by decide)) (fun L g hg hd => Nat.zero_le _) (fun g hlo hhi hF τ => ?_) ?_
  ·rcases g with _ | ⟨a0, _ | ⟨a1, g⟩⟩ <;> first | (simp only [lenC, lenN] at hlo hhi; omega) | (refine ⟨_, rfl, ?_⟩; refine xo_callB (fs := []) (cs := []) rfl rfl rfl until_enters rfl (fun w1 hw1 => until_calls (E - m.f5) (r m.f2.toNat) w1 ⟨by omega, by omega⟩ hs (hglob.below hw1.kx.below)) ?_; exact xo_fin rfl)
  refine DrawE.eff 0 rfl (by decide) rfl (fun j hj => hj) (fun j g a hj => ?_) (fun L g hg hd => Nat.zero_le _) (fun g hgl hF τ => ?_) ?_
  ·rcases j with _ | _ | _ | _ | _ | _ | _ | _ | _ | _ | _ | j
   all_goals first | rfl | (rcases g with _ | ⟨a0, _ | ⟨a1, g⟩⟩ <;> first | rfl | exact absurd hj (by decide) | exact absurd hj (by simp [List.getD]))
  ·obtain rfl : g = [] := by
    rcases g with _ | ⟨a0, g⟩ <;> first | rfl | (exfalso; simp only [List.length_cons, List.length_nil] at hgl; omega)
   refine xo_store T_ rfl rfl rfl rfl (by repeat first | exact mH | apply mT | apply mA) rfl rfl rfl rfl (by repeat first | exact Upd.head | apply Upd.tail | apply Upd.app) rfl ?_
   exact xo_finE ⟨0, 0, none⟩ rfl trivial
  exact DrawE.nil
 intro g hgl hF
 obtain ⟨a0, rfl⟩ : ∃ a0, g = [a0] := by
  rcases g with _ | ⟨a0, _ | ⟨a1, g⟩⟩ <;> first | exact ⟨_, rfl⟩ | (exfalso; simp only [List.length_cons, List.length_nil] at hgl; omega)
 with_reducible ((repeat first | apply xqT | apply xqB | apply xqS); (repeat apply xc_seq); apply xc_ret; (repeat (first | apply xq_thenR | apply xq_blockR | apply xq_scopeR)))
 exact xq_retC T_ rfl rfl rfl (by repeat first | exact mH | apply mT | apply mA) rfl fun w' hw => ⟨rfl, hw.kx.below⟩
set_option maxHeartbeats 8000000 in
theorem says6_calls (R E : Int) (A B : Option Addr) (n c n2 c2 : Nat) (r : Nat → Int) (m : MarT) (w : World) (hm : MarkOK m) (hE : 0 ≤ E ∧ E ≤ 600) (hr : SureR r) (hglob : GlobO w) :
  Calls Tryd.prog 71 #[.agg (scnV R A n c E B n2 c2).toArray, .agg (marV m).toArray, .agg (rowV r).toArray] w fun e w' => e = .returned (.agg (spaV (afterF (E - m.f5) (r m.f2.toNat))).toArray) ∧ Below w.heap.size w w' := by
 obtain ⟨⟨k1, k2⟩, ⟨q1, q2⟩, ⟨q3, q4⟩, ⟨q5, q6⟩, ⟨q7, q8⟩, ⟨q9, q10⟩⟩ := hm
 have hs := hr m.f2.toNat (by omega)
 refine x_calls (X := XNone) Tryd.func71 rfl rfl rfl ?_
 with_reducible ((repeat apply xc_seq); apply xcR)
 refine xo_box rfl rfl rfl rfl (fun b3 => ?_)
 refine xo_box rfl rfl rfl rfl (fun b4 => ?_)
 refine xo_box rfl rfl rfl rfl (fun b5 => ?_)
 refine xo_alloc T_ rfl rfl rfl rfl (fun b6 => ?_)
 with_reducible (apply xo_nil; (repeat first | apply xqT | apply xqB | apply xqS); (repeat apply xc_seq))
 apply xc_drawE (fun g => []) (fun (η0 : Hp) g => match g with | [] => (η0) | a0 :: _ => ((b6, true, cel (spaV (afterF (E - m.f5) (r m.f2.toNat))) 55) :: (b5, true, cel (rowV r) 101) :: (b4, true, cel (marV m) 60) :: (b3, true, cel (scnV R A n c E B n2 c2) 25) :: [])) (fun _ => True) [0, 0, 0, 0, 0, 0, 0, 0, 0, 0, 1] [10] [[9, 9, 0, 1, 2, 3, 4, 5, 6, 7, 8, 9]] (by trivial)
 apply SameLen.cons
 apply SameLen.cons
 apply SameLen.cons
 apply SameLen.cons
 apply SameLen.cons
 apply SameLen.cons
 apply SameLen.cons
 apply SameLen.cons
 apply SameLen.cons
 apply SameLen.cons
 apply SameLen.cons
 exact SameLen.nil
 rotate_left 11
 case hH0 => rfl
 case hmix => exact T_.mixed
 case hbind => rfl
 case hdeps => rfl
 case hdist => rfl
 case hfresh => rfl
 case hE => rfl
 case hEn => decide
 ·refine DrawE.pure 0 0 rfl (.inr (by decide)) (fun L g hg hd => Nat.zero_le _) (fun g hlo hhi hF τ => ?_) ?_
  ·rcases g with _ | ⟨a0, _ | ⟨a1, g⟩⟩ <;> first | (simp only [lenC, lenN] at hlo hhi; omega) | (refine ⟨_, rfl, ?_⟩; refine xo_fa T_ rfl rfl rfl rfl rfl ?_; exact xo_fin rfl)
  refine DrawE.pure 0 0 rfl (.inr (by decide)) (fun L g hg hd => Nat.zero_le _) (fun g hlo hhi hF τ => ?_) ?_
  ·rcases g with _ | ⟨a0, _ | ⟨a1, g⟩⟩ <;> first | (simp only [lenC, lenN] at hlo hhi; omega) | (refine ⟨_, rfl, ?_⟩; refine xo_load0 T_ rfl rfl rfl (by repeat first | exact mH | apply mT | apply mA) rfl rfl ?_; exact xo_fin rfl)
  refine DrawE.pure 0 0 rfl (.inr (by decide)) (fun L g hg hd => Nat.zero_le _) (fun g hlo hhi hF τ => ?_) ?_
  ·rcases g with _ | ⟨a0, _ | ⟨a1, g⟩⟩ <;> first | (simp only [lenC, lenN] at hlo hhi; omega) | (refine ⟨_, rfl, ?_⟩; refine xo_fa T_ rfl rfl rfl rfl rfl ?_; exact xo_fin rfl)
  refine DrawE.pure 0 0 rfl (.inr (by decide)) (fun L g hg hd => Nat.zero_le _) (fun g hlo hhi hF τ => ?_) ?_
  ·rcases g with _ | ⟨a0, _ | ⟨a1, g⟩⟩ <;> first | (simp only [lenC, lenN] at hlo hhi; omega) | (refine ⟨_, rfl, ?_⟩; refine xo_load0 T_ rfl rfl rfl (by repeat first | exact mH | apply mT | apply mA) rfl rfl ?_; exact xo_fin rfl)
  refine DrawE.pure 0 0 rfl (.inr (by decide)) (fun L g hg hd => Nat.zero_le _) (fun g hlo hhi hF τ => ?_) ?_
  ·rcases g with _ | ⟨a0, _ | ⟨a1, g⟩⟩ <;> first | (simp only [lenC, lenN] at hlo hhi; omega) | (refine ⟨_, rfl, ?_⟩; refine xo_sub rfl rfl rfl (by omega) rfl ?_; exact xo_fin rfl)
  refine DrawE.pure 0 0 rfl (.inr (by decide)) (fun L g hg hd => Nat.zero_le _) (fun g hlo hhi hF τ => ?_) ?_
  ·rcases g with _ | ⟨a0, _ | ⟨a1, g⟩⟩ <;> first | (simp only [lenC, lenN] at hlo hhi; omega) | (refine ⟨_, rfl, ?_⟩; refine xo_fa T_ rfl rfl rfl rfl rfl ?_; exact xo_fin rfl)
  refine DrawE.pure 0 0 rfl (.inr (by decide)) (fun L g hg hd => Nat.zero_le _) (fun g hlo hhi hF τ => ?_) ?_
  ·rcases g with _ | ⟨a0, _ | ⟨a1, g⟩⟩ <;> first | (simp only [lenC, lenN] at hlo hhi; omega) | (refine ⟨_, rfl, ?_⟩; refine xo_load0 T_ rfl rfl rfl (by repeat first | exact mH | apply mT | apply mA) rfl rfl ?_; exact xo_fin rfl)
  refine DrawE.pure 0 0 rfl (.inr (by decide)) (fun L g hg hd => Nat.zero_le _) (fun g hlo hhi hF τ => ?_) ?_
  ·rcases g with _ | ⟨a0, _ | ⟨a1, g⟩⟩ <;> first | (simp only [lenC, lenN] at hlo hhi; omega) | (refine ⟨_, rfl, ?_⟩; refine xo_iaL T_ rfl Tryd.underlying101 rfl rfl rfl ⟨by omega, by omega⟩ rfl ?_; exact xo_fin rfl)
  refine DrawE.pure 0 0 rfl (.inr (by decide)) (fun L g hg hd => Nat.zero_le _) (fun g hlo hhi hF τ => ?_) ?_
  ·rcases g with _ | ⟨a0, _ | ⟨a1, g⟩⟩ <;> first | (simp only [lenC, lenN] at hlo hhi; omega) | (refine ⟨_, rfl, ?_⟩; refine xo_load0 T_ rfl rfl rfl (by repeat first | exact mH | apply mT | apply mA) (rowV_at r ⟨by omega, by omega⟩) rfl ?_; exact xo_fin rfl)
  refine DrawE.pure 0 0 rfl (.inr (by decide)) (fun L g hg hd => Nat.zero_le _) (fun g hlo hhi hF τ => ?_) ?_
  ·rcases g with _ | ⟨a0, _ | ⟨a1, g⟩⟩ <;> first | (simp only [lenC, lenN] at hlo hhi; omega) | (refine ⟨_, rfl, ?_⟩; refine xo_callB (fs := []) (cs := []) rfl rfl rfl after_enters rfl (fun w1 hw1 => after_calls (E - m.f5) (r m.f2.toNat) w1 ⟨by omega, by omega⟩ hs) ?_; exact xo_fin rfl)
  refine DrawE.eff 0 rfl (by decide) rfl (fun j hj => hj) (fun j g a hj => ?_) (fun L g hg hd => Nat.zero_le _) (fun g hgl hF τ => ?_) ?_
  ·rcases j with _ | _ | _ | _ | _ | _ | _ | _ | _ | _ | _ | j
   all_goals first | rfl | (rcases g with _ | ⟨a0, _ | ⟨a1, g⟩⟩ <;> first | rfl | exact absurd hj (by decide) | exact absurd hj (by simp [List.getD]))
  ·obtain rfl : g = [] := by
    rcases g with _ | ⟨a0, g⟩ <;> first | rfl | (exfalso; simp only [List.length_cons, List.length_nil] at hgl; omega)
   refine xo_store T_ rfl rfl rfl rfl (by repeat first | exact mH | apply mT | apply mA) rfl rfl rfl rfl (by repeat first | exact Upd.head | apply Upd.tail | apply Upd.app) rfl ?_
   exact xo_finE ⟨0, 0, none⟩ rfl trivial
  exact DrawE.nil
 intro g hgl hF
 obtain ⟨a0, rfl⟩ : ∃ a0, g = [a0] := by
  rcases g with _ | ⟨a0, _ | ⟨a1, g⟩⟩ <;> first | exact ⟨_, rfl⟩ | (exfalso; simp only [List.length_cons, List.length_nil] at hgl; omega)
 with_reducible ((repeat first | apply xqT | apply xqB | apply xqS); (repeat apply xc_seq); apply xc_ret; (repeat (first | apply xq_thenR | apply xq_blockR | apply xq_scopeR)))
 exact xq_retC T_ rfl rfl rfl (by repeat first | exact mH | apply mT | apply mA) rfl fun w' hw => ⟨rfl, hw.kx.below⟩
set_option maxHeartbeats 8000000 in
theorem says8_calls (R E : Int) (A B : Option Addr) (n c n2 c2 : Nat) (r : Nat → Int) (m : MarT) (w : World) (hm : MarkOK m) (hE : 0 ≤ E ∧ E ≤ 600) (hr : SureR r) (hglob : GlobO w) :
  Calls Tryd.prog 73 #[.agg (scnV R A n c E B n2 c2).toArray, .agg (marV m).toArray, .agg (rowV r).toArray] w fun e w' => e = .returned (.agg (spaV (if r m.f2.toNat < r m.f3.toNat then ⟨-1073741824, 1073741824⟩ else nowhereF)).toArray) ∧ Below w.heap.size w w' := by
 obtain ⟨⟨k1, k2⟩, ⟨q1, q2⟩, ⟨q3, q4⟩, ⟨q5, q6⟩, ⟨q7, q8⟩, ⟨q9, q10⟩⟩ := hm
 have hs := hr m.f2.toNat (by omega)
 refine x_calls (X := XNone) Tryd.func73 rfl rfl rfl ?_
 with_reducible ((repeat apply xc_seq); apply xcR)
 refine xo_box rfl rfl rfl rfl (fun b3 => ?_)
 refine xo_box rfl rfl rfl rfl (fun b4 => ?_)
 refine xo_box rfl rfl rfl rfl (fun b5 => ?_)
 refine xo_alloc T_ rfl rfl rfl rfl (fun b6 => ?_)
 with_reducible (apply xo_nil; (repeat first | apply xqT | apply xqB | apply xqS); (repeat apply xc_seq))
 apply xc_drawN
 ·exact T_.mixed
 ·rfl
 ·rfl
 ·rfl
 ·rfl
 ·apply DrawOps.cons
  ·intro τ
   refine xo_fa T_ rfl rfl rfl rfl rfl ?_
   exact xo_fin rfl
  apply DrawOps.cons
  ·intro τ
   refine xo_load0 T_ rfl rfl rfl (by repeat first | exact mH | apply mT | apply mA) rfl rfl ?_
   exact xo_fin rfl
  apply DrawOps.cons
  ·intro τ
   refine xo_iaL T_ rfl Tryd.underlying101 rfl rfl rfl ⟨by omega, by omega⟩ rfl ?_
   exact xo_fin rfl
  apply DrawOps.cons
  ·intro τ
   refine xo_load0 T_ rfl rfl rfl (by repeat first | exact mH | apply mT | apply mA) (rowV_at r ⟨by omega, by omega⟩) rfl ?_
   exact xo_fin rfl
  apply DrawOps.cons
  ·intro τ
   refine xo_fa T_ rfl rfl rfl rfl rfl ?_
   exact xo_fin rfl
  apply DrawOps.cons
  ·intro τ
   refine xo_load0 T_ rfl rfl rfl (by repeat first | exact mH | apply mT | apply mA) rfl rfl ?_
   exact xo_fin rfl
  apply DrawOps.cons
  ·intro τ
   refine xo_iaL T_ rfl Tryd.underlying101 rfl rfl rfl ⟨by omega, by omega⟩ rfl ?_
   exact xo_fin rfl
  apply DrawOps.cons
  ·intro τ
   refine xo_load0 T_ rfl rfl rfl (by repeat first | exact mH | apply mT | apply mA) (rowV_at r ⟨by omega, by omega⟩) rfl ?_
   exact xo_fin rfl
  apply DrawOps.cons
  ·intro τ
   refine xo_lss rfl rfl rfl rfl ?_
   exact xo_fin rfl
  exact DrawOps.nil
 ·rfl
 with_reducible ((repeat first | apply xqT | apply xqB | apply xqS); (repeat apply xc_seq))
 refine xc_cond rfl (fun h => ?_) (fun h => ?_)
 ·have e := of_decide_eq_true h
  with_reducible ((repeat apply xc_seq); apply xcR)
  refine xo_build TB_ rfl rfl rfl rfl rfl ?_
  refine xo_store T_ rfl rfl rfl rfl (by repeat first | exact mH | apply mT | apply mA) rfl rfl rfl rfl (by repeat first | exact Upd.head | apply Upd.tail | apply Upd.app) rfl ?_
  with_reducible (apply xo_nil; (repeat first | apply xqT | apply xqB | apply xqS); (repeat apply xc_seq); apply xc_ret; (repeat (first | apply xq_thenR | apply xq_blockR | apply xq_scopeR)))
  exact xq_retC T_ rfl rfl rfl (by repeat first | exact mH | apply mT | apply mA) rfl fun w' hw => ⟨by rw [if_pos e]; rfl, hw.kx.below⟩
 ·have e := of_decide_eq_false h
  with_reducible (apply xc_skip; (repeat first | apply xqT | apply xqB | apply xqS); (repeat apply xc_seq); apply xcR)
  refine xo_loadRN T_ rfl rfl rfl hglob rfl rfl ?_
  refine xo_store T_ rfl rfl rfl rfl (by repeat first | exact mH | apply mT | apply mA) rfl rfl rfl rfl (by repeat first | exact Upd.head | apply Upd.tail | apply Upd.app) rfl ?_
  with_reducible (apply xo_nil; (repeat first | apply xqT | apply xqB | apply xqS); (repeat apply xc_seq); apply xc_ret; (repeat (first | apply xq_thenR | apply xq_blockR | apply xq_scopeR)))
  exact xq_retC T_ rfl rfl rfl (by repeat first | exact mH | apply mT | apply mA) rfl fun w' hw => ⟨by rw [if_neg e]; rfl, hw.kx.below⟩
theorem says_calls (R E : Int) (A B : Option Addr) (n c n2 c2 : Nat) (r : Nat → Int) (m : MarT) (w : World) (hm : MarkOK m) (hE : 0 ≤ E ∧ E ≤ 600) (hr : SureR r) (hglob : GlobO w) :
  Calls Tryd.prog (saysK m.f1) #[.agg (scnV R A n c E B n2 c2).toArray, .agg (marV m).toArray, .agg (rowV r).toArray] w fun e w' => e = .returned (.agg (spaV (saysF E r m)).toArray) ∧ Below w.heap.size w w' := by
 unfold saysK saysF
 by_cases h1 : m.f1 ≤ 1
 ·rw [if_pos h1, if_pos h1]; exact says2_calls R E A B n c n2 c2 r m w hm hE hr hglob
 rw [if_neg h1, if_neg h1]
 by_cases h2 : m.f1 ≤ 2
 ·rw [if_pos h2, if_pos h2]; exact says3_calls R E A B n c n2 c2 r m w hm hE hr hglob
 rw [if_neg h2, if_neg h2]
 by_cases h3 : m.f1 ≤ 3
 ·rw [if_pos h3, if_pos h3]; exact says4_calls R E A B n c n2 c2 r m w hm hE hr hglob
 rw [if_neg h3, if_neg h3]
 by_cases h4 : m.f1 ≤ 4
 ·rw [if_pos h4, if_pos h4]; exact says5_calls R E A B n c n2 c2 r m w hm hE hr hglob
 rw [if_neg h4, if_neg h4]
 by_cases h5 : m.f1 ≤ 5
 ·rw [if_pos h5, if_pos h5]; exact says6_calls R E A B n c n2 c2 r m w hm hE hr hglob
 ·rw [if_neg h5, if_neg h5]; exact says8_calls R E A B n c n2 c2 r m w hm hE hr hglob
end Go.Proofs.YtommeljlfkmpjaaDoor
