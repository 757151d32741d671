/- origin: chosen, first, fewest. / origin.fewest: the numbers of the fewest marks of which s -/
import Derived.Test.YtommeljlfkmpjaaDoorPkLawOriginExamples8
import Derived.Test.YtommeljlfkmpjaaDoorPkLawOriginExamples3
import Derived.Test.YtommeljlfkmpjaaDoorPkLawOriginExamples4
import Derived.Test.YtommeljlfkmpjaaDoorRows
import Derived.LaidLaws
import Derived.LaidHandle
import Derived.LaidMore
import Derived.ChangeVars
import Derived.ChangeShapes
set_option linter.unusedVariables false
set_option linter.unusedSimpArgs false
namespace Go.Proofs.YtommeljlfkmpjaaDoor
open Go.RowKit Go.Proofs.YtommeljlfkmpjaaDoorW.PrintWords
section
variable {P : Program} {ro : Option Nat} {n N : Nat} {ds : List Deferred} {w0 : World} {X : Nat → Prop} {Q : Exit → Act → World → Prop} {σ : Slots} {η : Hp} {ops rest : List Oper}
theorem xo_less {η' : Hp} (hs : List.Sublist η' η) (h : XO P ro n N ds w0 X Q ops σ η' rest) : XO P ro n N ds w0 X Q ops σ η rest := fun a w ha hw => h a w ha (hw.sub hs)
theorem xc_anew {c : Code} (h : ∀ w, WOK w0 X η w → XC P ro n N ds w XNone Q σ [] c) : XC P ro n N ds w0 X Q σ η c := fun a w ha hw => h w hw a w ha (WOK.start XNone w)
end
def marL (l : List MarT) : List Value := (l.map marV).flatten
theorem marL_len (l : List MarT) : (marL l).length = l.length * 7 := by
 unfold marL
 rw [flat_len 7 _ (by intro c hc; obtain ⟨x, _, rfl⟩ := List.mem_map.1 hc; rfl), List.length_map]
theorem marL_app (l : List MarT) (x : MarT) : marL (l ++ [x]) = marL l ++ marV x := by simp [marL]
theorem rowOf_orow {w : World} {b cap : Nat} {l : List MarT} {o : Obj} (h : w.heap[b]? = some o) (hr : orow 60 7 l.length cap (marL l) o) : RowOf marV 7 zMar w (some ⟨b, 0, none⟩) l := by
 obtain ⟨cur, rfl, h5, h6, h7, h8⟩ := hr
 intro k hk
 refine ⟨_, rfl, ro_of fun j v hj => ?_⟩
 have hj7 : j < 7 := (List.getElem?_eq_some_iff.1 hj).1
 rw [add_add, Addr.add_lit, Nat.zero_add, cell_of_row w b _ _ _ _ h, ← Array.getElem?_toList]
 have hx : (marL l)[k * 7 + j]? = some v := by
  unfold marL
  rw [flat_at 7 _ k j (by intro c hc; obtain ⟨x, _, rfl⟩ := List.mem_map.1 hc; rfl) hj7, List.getElem?_map, List.getElem?_eq_getElem hk]
  rw [show l.getD k zMar = l[k] by simp [List.getD_eq_getElem?_getD, List.getElem?_eq_getElem hk]] at hj
  simpa using hj
 rw [← h8, List.getElem?_take] at hx
 rw [show (k : Int).toNat * szN 7 + j = k * 7 + j by rw [Int.toNat_natCast]; rfl]
 split at hx
 ·exact hx
 ·cases hx
set_option maxHeartbeats 4000000 in
theorem chosen_calls (bs R : Nat) (E : Int) (gs : List GatT) (B : Option Addr) (c2 : Nat) (ms : List MarT) (s : Nat) (w : World) (hs : SiteOK w bs R E gs B ms.length c2) (hM : RowOf marV 7 zMar w B ms) (hm8 : ms.length ≤ 8) (hs8 : s ≤ 256) :
  Calls Tryd.prog 74 #[.pointer (some ⟨bs, 0, none⟩), .int .i64 (s : Int)] w fun e w' => ∃ r : RowR, e = .returned (valR r (setOf ms s).length) ∧ RowZ 60 7 (setOf ms s).length w.heap.size w' r (marL (setOf ms s)) ∧ Below w.heap.size w w' := by
 obtain ⟨hR6, hE6, hG, hglob, fb, fc, wv, A, c, hS⟩ := hs
 have hsV := hS.site
 refine x_calls (X := XNone) Tryd.func74 rfl rfl rfl ?_
 with_reducible ((repeat apply xc_seq); apply xcR)
 refine xoA ?_
 with_reducible (apply xo_nil; (repeat first | apply xqT | apply xqB | apply xqS); (repeat apply xc_seq); apply xcR)
 refine xoA ?_
 with_reducible (apply xo_nil; (repeat first | apply xqT | apply xqB | apply xqS); (repeat apply xc_seq); apply xcR)
 refine xoM ?_
 refine xo_nilck rfl rfl rfl ?_
 refine xo_fa T_ rfl rfl rfl rfl rfl ?_
 refine xo_fa T_ rfl rfl rfl rfl rfl ?_
 refine xo_loadR0 T_ rfl rfl rfl (hsV.lit (j := 3) rfl) rfl ?_
 refine xo_len T_ rfl rfl rfl rfl ?_
 refine xoM ?_
 with_reducible (apply xo_nil; (repeat first | apply xqT | apply xqB | apply xqS); (repeat apply xc_seq); apply xc_block)
 refine xc_loop (γ := Nat × RowR) (fun q => q.1 ≤ ms.length ∧ (q.2 = none → (chosenL s ms q.1).length = 0)) (fun q => [(1, .int .i64 (s : Int)), (5, valR q.2 (chosenL s ms q.1).length), (12, .slice B ms.length c2), (13, .int .i64 (ms.length : Int)), (14, .int .i64 (q.1 : Int))])
  (fun q => hpR 60 7 q.2 (chosenL s ms q.1).length (marL (chosenL s ms q.1)) ++ []) (fun q => ms.length - q.1) (0, none) ⟨Nat.zero_le _, fun _ => rfl⟩ ⟨rfl, rfl, rfl, rfl, rfl, trivial⟩ (List.nil_sublist _) ?_
 rintro ⟨k, rr⟩ ⟨hk, hrr⟩
 simp only at hk hrr
 have hcl := chosenL_len s ms k
 with_reducible ((repeat apply xc_seq); apply xcR)
 refine xo_lss rfl rfl rfl rfl ?_
 with_reducible (apply xo_nil; (repeat first | apply xqT | apply xqB | apply xqS); (repeat apply xc_seq))
 refine xc_cond rfl (fun h => ?_) (fun h => ?_)
 ·have hlt : k < ms.length := by have := of_decide_eq_true h; omega
  obtain ⟨ad, rfl, hRm⟩ := hM k hlt
  have hst : chosenL s ms (k + 1) = if bitN s k = true then chosenL s ms k ++ [ms.getD k zMar] else chosenL s ms k := rfl
  generalize chosenL s ms k = l at hrr hcl hst ⊢
  generalize ms.getD k zMar = m at hRm hst
  with_reducible (apply xc_skip; (repeat first | apply xqT | apply xqB | apply xqS); (repeat apply xc_seq); apply xc_block; (repeat apply xc_seq); apply xcR)
  refine xoM ?_
  refine xo_ia T_ rfl rfl rfl rfl rfl ⟨by omega, by omega⟩ rfl ?_
  refine xo_loadRN T_ rfl rfl rfl hRm rfl rfl ?_
  refine xo_alloc T_ rfl rfl rfl rfl (fun b7 => ?_)
  refine xoA ?_
  refine xo_store T_ rfl rfl rfl rfl (by repeat first | exact mH | apply mT | apply mA) rfl rfl rfl rfl (by repeat first | exact Upd.head | apply Upd.tail | apply Upd.app) rfl ?_
  with_reducible (apply xo_nil; (repeat first | apply xqT | apply xqB | apply xqS))
  cases hb : bitN s k
  ·rw [hb, if_neg Bool.false_ne_true] at hst
   with_reducible ((repeat apply xc_seq); apply xcR)
   refine xoM ?_
   refine xoM ?_
   refine xo_shr rfl rfl rfl (by omega) rfl ?_
   refine xo_and1 rfl rfl rfl (Nat.lt_of_le_of_lt (Nat.div_le_self _ _) (by omega)) rfl ?_
   refine xo_eql rfl rfl rfl rfl ?_
   refine xo_as (i := 23) rfl (congrArg Value.bool hb) ?_
   with_reducible (apply xo_nil; (repeat first | apply xqT | apply xqB | apply xqS); (repeat apply xc_seq))
   refine xc_condF rfl ?_
   with_reducible (apply xc_skip; (repeat first | apply xqT | apply xqB | apply xqS); (repeat apply xc_seq); apply xcR)
   refine xo_add rfl rfl rfl (by omega) rfl ?_
   refine xoM ?_
   with_reducible (apply xo_nil; (repeat first | apply xqT | apply xqB | apply xqS))
   exact xq_again _ _ _ _ _ (k + 1, rr) ⟨hlt, fun q => by rw [hst]; exact hrr q⟩ (by simp only; omega) ⟨rfl, by rw [hst]; rfl, rfl, rfl, rfl, trivial⟩ (by rw [hst]; exact List.sublist_cons_self _ _)
  ·rw [hb, if_pos rfl] at hst
   with_reducible ((repeat apply xc_seq); apply xcR)
   refine xoM ?_
   refine xoM ?_
   refine xo_shr rfl rfl rfl (by omega) rfl ?_
   refine xo_and1 rfl rfl rfl (Nat.lt_of_le_of_lt (Nat.div_le_self _ _) (by omega)) rfl ?_
   refine xo_eql rfl rfl rfl rfl ?_
   refine xo_as (i := 23) rfl (congrArg Value.bool hb) ?_
   with_reducible (apply xo_nil; (repeat first | apply xqT | apply xqB | apply xqS); (repeat apply xc_seq))
   refine xc_condT rfl ?_
   with_reducible ((repeat apply xc_seq); apply xcR)
   refine xoM ?_
   refine xo_loadN T_ rfl rfl rfl (by repeat first | exact mH | apply mT | apply mA) rfl rfl ?_
   refine xo_bsG T_ 7 rfl rfl rfl rfl rfl rfl rfl rfl rfl rfl (fun b26 => ?_)
   refine xo_less (η' := (b26, true, cel (marV m) 60) :: (hpR 60 7 rr l.length (marL l) ++ [])) (List.Sublist.cons_cons _ (List.sublist_cons_self _ _)) ?_
   refine xo_app TR_ rfl rfl rfl rfl rfl rfl rfl rfl (marL_len l) rfl rfl hrr (by omega) rfl rfl (fun r' hr' => ?_)
   refine xoA ?_
   with_reducible (apply xo_nil; (repeat first | apply xqT | apply xqB | apply xqS); (repeat apply xc_seq); apply xcR)
   refine xo_add rfl rfl rfl (by omega) rfl ?_
   refine xoM ?_
   with_reducible (apply xo_nil; (repeat first | apply xqT | apply xqB | apply xqS))
   exact xq_again _ _ _ _ _ (k + 1, r') ⟨hlt, fun q => absurd q hr'⟩ (by simp only; omega) ⟨rfl, by rw [hst, List.length_append]; rfl, rfl, rfl, rfl, trivial⟩ (by rw [hst, List.length_append, marL_app]; exact List.Sublist.refl _)
 have hge : k = ms.length := by have := of_decide_eq_false h; omega
 subst hge
 with_reducible (apply xc_exit; (repeat (first | apply xq_blockX | apply xq_thenE | refine xq_blockE rfl ?_ | apply xq_scopeE)); (repeat first | apply xqT | apply xqB | apply xqS); (repeat apply xc_seq); apply xcR)
 refine xoM ?_
 refine xoA ?_
 with_reducible (apply xo_nil; (repeat first | apply xqT | apply xqB | apply xqS); (repeat apply xc_seq); apply xc_ret; (repeat (first | apply xq_thenR | apply xq_blockR | apply xq_scopeR)))
 exact xq_ret1 rfl rfl fun w' hw => ⟨rr, rfl, RowZ.of hw hrr, hw.kx.below⟩
theorem chosen_enters : ∀ args w, (callFunc 74 args).run Tryd.prog w = .ok (.enter 74 args) w := enters_of Tryd.func74 (by kernel_rfl) rfl
def AsksS (P : Program) (w : World) (g : Nat) (cs : List Value) (p : List MarT → Bool) (ok : World → SetV → Prop) : Prop := ∀ (x : SetV) (W : World), Below w.heap.size w W → ok W x → Calls P g ([setS x] ++ cs).toArray W fun e W' => e = .returned (.bool (p x.l)) ∧ Below W.heap.size W W'
theorem AsksS.below {P : Program} {w w' : World} {g : Nat} {cs : List Value} {p : List MarT → Bool} {ok : World → SetV → Prop} (h : AsksS P w g cs p ok) (hb : Below w.heap.size w w') : AsksS P w' g cs p ok := fun x W hW hx => h x W (below_step hb hW) hx
def zSet : SetV := ⟨none, 0, []⟩
theorem find_none {p : List MarT → Bool} {ys : List SetV} (h : ∀ j, j < ys.length → p (ys.getD j zSet).l = false) : ys.find? (fun x => p x.l) = none := by
 rw [List.find?_eq_none]
 intro x hx
 obtain ⟨j, hj, rfl⟩ := List.getElem_of_mem hx
 have := h j hj
 rw [show ys.getD j zSet = ys[j] by simp [List.getD_eq_getElem?_getD, List.getElem?_eq_getElem hj]] at this
 rw [this]
 exact Bool.false_ne_true
theorem find_some {p : List MarT → Bool} {ys : List SetV} {k : Nat} (hk : k < ys.length) (h : ∀ j, j < k → p (ys.getD j zSet).l = false) (hp : p (ys.getD k zSet).l = true) : ys.find? (fun x => p x.l) = some (ys.getD k zSet) := by
 have e : ys.take k ++ ys.getD k zSet :: ys.drop (k + 1) = ys := by
  rw [← drop_at ys zSet k hk, List.take_append_drop]
 have h2 : (ys.take k ++ ys.getD k zSet :: ys.drop (k + 1)).find? (fun x => p x.l) = some (ys.getD k zSet) := by
  rw [List.find?_append, List.find?_eq_none.2, List.find?_cons_of_pos (p := fun x : SetV => p x.l) hp, Option.none_or]
  intro x hx
  obtain ⟨j, hj, rfl⟩ := List.getElem_of_mem hx
  rw [List.length_take] at hj
  have := h j (by omega)
  rw [show ys.getD j zSet = ys[j] by simp [List.getD_eq_getElem?_getD, List.getElem?_eq_getElem (show j < ys.length by omega)]] at this
  rw [List.getElem_take, this]
  exact Bool.false_ne_true
 rwa [e] at h2
def SetsAt (w : World) (b : Nat) (ys : List SetV) : Prop := ∀ j, j < ys.length → w.cell? ⟨b, j, none⟩ = some (setS (ys.getD j zSet))
theorem SetsAt.below {w w' : World} {b : Nat} {ys : List SetV} (h : SetsAt w b ys) (hb : Below w.heap.size w w') : SetsAt w' b ys := fun j hj => (Kx.of_below (X := XNone) hb).cell (h j hj) (fun q => q)
theorem SetsAt.ro {w : World} {b : Nat} {ys : List SetV} (h : SetsAt w b ys) {j : Nat} (hj : j < ys.length) : RO w XNone (Addr.add ⟨b, 0, none⟩ ((j : Int).toNat * szN 0)) [setS (ys.getD j zSet)] := by
 refine ro1 ?_
 rw [Addr.add_lit, Nat.zero_add, show (j : Int).toNat * szN 0 = j by simp [szN]]
 exact h j hj
theorem indexS_calls (p : List MarT → Bool) (g : Nat) (cs : List Value) (eg : ∀ args w, (callFunc g args).run Tryd.prog w = .ok (.enter g args) w) (b cap : Nat) (ys : List SetV) (w : World) (ok : World → SetV → Prop) (hok : ∀ x ∈ ys, ∀ W, Below w.heap.size w W → ok W x) (hl : ys.length ≤ 1000000) (hr : SetsAt w b ys) (hp : AsksS Tryd.prog w g cs p ok) :
  Calls Tryd.prog 89 #[.slice (some ⟨b, 0, none⟩) ys.length cap, .func (.func g) #[] cs.toArray] w fun e w' => ((e = .returned (.int .i64 (-1)) ∧ ys.find? (fun x => p x.l) = none) ∨ ∃ k, k < ys.length ∧ e = .returned (.int .i64 (k : Int)) ∧ ys.find? (fun x => p x.l) = some (ys.getD k zSet)) ∧ Below w.heap.size w w' := by
 refine x_calls (X := XNone) Tryd.func89 rfl rfl rfl ?_
 with_reducible ((repeat apply xc_seq); apply xcR)
 refine xoA ?_
 with_reducible (apply xo_nil; (repeat first | apply xqT | apply xqB | apply xqS); (repeat apply xc_seq); apply xcR)
 refine xoM ?_
 refine xo_len T_ rfl rfl rfl rfl ?_
 refine xoM ?_
 with_reducible (apply xo_nil; (repeat first | apply xqT | apply xqB | apply xqS); (repeat apply xc_seq); apply xc_block)
 refine xc_loop (γ := Nat) (fun k => k ≤ ys.length ∧ ∀ j, j < k → p (ys.getD j zSet).l = false) (fun k => [(0, .slice (some ⟨b, 0, none⟩) ys.length cap), (1, .func (.func g) #[] cs.toArray), (7, .int .i64 (ys.length : Int)), (8, .int .i64 (k : Int))]) (fun _ => []) (fun k => ys.length - k) 0
  ⟨Nat.zero_le _, fun j hj => absurd hj (Nat.not_lt_zero _)⟩ ⟨rfl, rfl, rfl, rfl, trivial⟩ (List.nil_sublist _) ?_
 rintro k ⟨hk, hno⟩
 with_reducible ((repeat apply xc_seq); apply xcR)
 refine xo_lss rfl rfl rfl rfl ?_
 with_reducible (apply xo_nil; (repeat first | apply xqT | apply xqB | apply xqS); (repeat apply xc_seq))
 refine xc_cond rfl (fun h => ?_) (fun h => ?_)
 ·have hlt : k < ys.length := by have := of_decide_eq_true h; omega
  have r1 := hr.ro hlt
  with_reducible (apply xc_skip; (repeat first | apply xqT | apply xqB | apply xqS); (repeat apply xc_seq); apply xc_block; (repeat apply xc_seq); apply xcR)
  refine xoM ?_
  refine xoA ?_
  with_reducible (apply xo_nil; (repeat first | apply xqT | apply xqB | apply xqS); (repeat apply xc_seq); apply xcR)
  refine xoM ?_
  refine xoM ?_
  refine xoM ?_
  refine xo_ia T_ rfl rfl rfl rfl rfl ⟨by omega, by omega⟩ rfl ?_
  refine xo_loadR0 T_ rfl rfl rfl r1 rfl ?_
  refine xo_callB (fs := []) rfl rfl rfl eg rfl (fun w1 hw1 => hp (ys.getD k zSet) _ hw1.kx.below (hok _ (getD_mem ys zSet k hlt) _ hw1.kx.below)) ?_
  with_reducible (apply xo_nil; (repeat first | apply xqT | apply xqB | apply xqS); (repeat apply xc_seq))
  refine xc_cond rfl (fun h2 => ?_) (fun h2 => ?_)
  ·with_reducible repeat apply xc_seq
   with_reducible apply xcR
   refine xoM ?_
   refine xoA ?_
   with_reducible (apply xo_nil; (repeat first | apply xqT | apply xqB | apply xqS); (repeat apply xc_seq); apply xc_ret; (repeat (first | apply xq_thenR | apply xq_blockR | apply xq_scopeR)))
   exact (xq_ret1 rfl rfl fun w' hw => ⟨.inr ⟨k, hlt, rfl, find_some hlt hno h2⟩, hw.kx.below⟩)
  ·with_reducible apply xc_skip
   with_reducible ((repeat first | apply xqT | apply xqB | apply xqS); (repeat apply xc_seq); apply xcR)
   refine xo_add rfl rfl rfl (by omega) rfl ?_
   refine xoM ?_
   with_reducible (apply xo_nil; (repeat first | apply xqT | apply xqB | apply xqS))
   refine xq_again _ _ _ _ _ (k + 1) ⟨by omega, fun j hj => ?_⟩ (by omega) ⟨rfl, rfl, rfl, rfl, trivial⟩ (List.nil_sublist _)
   by_cases e : j = k
   ·subst e; exact h2
   ·exact hno j (by omega)
 ·have hge : ¬ k < ys.length := by have := of_decide_eq_false h; omega
  with_reducible (apply xc_exit; (repeat (first | apply xq_blockX | apply xq_thenE | refine xq_blockE rfl ?_ | apply xq_scopeE)); (repeat first | apply xqT | apply xqB | apply xqS); (repeat apply xc_seq); apply xcR)
  refine xoA ?_
  with_reducible (apply xo_nil; (repeat first | apply xqT | apply xqB | apply xqS); (repeat apply xc_seq); apply xc_ret; (repeat (first | apply xq_thenR | apply xq_blockR | apply xq_scopeR)))
  exact xq_ret1 rfl rfl fun w' hw => ⟨.inl ⟨rfl, find_none fun j hj => hno j (by omega)⟩, hw.kx.below⟩
theorem indexS_enters : ∀ args w, (callFunc 89 args).run Tryd.prog w = .ok (.enter 89 args) w := enters_of Tryd.func89 (by kernel_rfl) rfl
theorem first_calls (p : List MarT → Bool) (g : Nat) (cs : List Value) (eg : ∀ args w, (callFunc g args).run Tryd.prog w = .ok (.enter g args) w) (b cap : Nat) (ys : List SetV) (w : World) (ok : World → SetV → Prop) (hok : ∀ x ∈ ys, ∀ W, Below w.heap.size w W → ok W x) (hl : ys.length ≤ 1000000) (hr : SetsAt w b ys) (hp : AsksS Tryd.prog w g cs p ok) :
  Calls Tryd.prog 80 #[.slice (some ⟨b, 0, none⟩) ys.length cap, .func (.func g) #[] cs.toArray] w fun e w' => (∃ t, e = .returned (.tuple #[setS ((ys.find? fun x => p x.l).getD zSet), .bool t])) ∧ Below w.heap.size w w' := by
 refine x_calls (X := XNone) Tryd.func80 rfl rfl rfl ?_
 with_reducible ((repeat apply xc_seq); apply xcR)
 refine xoA ?_
 refine xoA ?_
 with_reducible (apply xo_nil; (repeat first | apply xqT | apply xqB | apply xqS); (repeat apply xc_seq); apply xcR)
 refine xoM ?_
 refine xoM ?_
 refine xo_call (fs := []) (cs := []) rfl rfl rfl indexS_enters rfl (fun w1 hw1 => (indexS_calls p g cs eg b cap ys w1 ok (fun x hx W hW => hok x hx W (below_step hw1.kx.below hW)) hl (hr.below hw1.kx.below) (hp.below hw1.kx.below)).mono ?_)
 rintro e w2 ⟨⟨rfl, hf⟩ | ⟨k, hk, rfl, hf⟩, hb⟩
 rw [hf]
 ·refine ⟨_, _, rfl, hw1.below hb, ?_⟩
  clear hb hw1
  refine xoA ?_
  with_reducible (apply xo_nil; (repeat first | apply xqT | apply xqB | apply xqS); (repeat apply xc_seq); apply xcR)
  refine xoM ?_
  refine xo_geq rfl rfl rfl rfl ?_
  with_reducible (apply xo_nil; (repeat first | apply xqT | apply xqB | apply xqS); (repeat apply xc_seq))
  refine xc_condF rfl ?_
  with_reducible (apply xc_skip; (repeat first | apply xqT | apply xqB | apply xqS); (repeat apply xc_seq); apply xcR)
  refine xoA ?_
  with_reducible (apply xo_nil; (repeat first | apply xqT | apply xqB | apply xqS); (repeat apply xc_seq); apply xcR)
  refine xoM ?_
  refine xoA ?_
  refine xoA ?_
  with_reducible (apply xo_nil; (repeat first | apply xqT | apply xqB | apply xqS); (repeat apply xc_seq); apply xc_ret; (repeat (first | apply xq_thenR | apply xq_blockR | apply xq_scopeR)))
  exact xq_ret2 rfl rfl rfl fun w' hw => ⟨⟨_, rfl⟩, hw.kx.below⟩
 rw [hf]
 refine ⟨_, _, rfl, hw1.below hb, ?_⟩
 clear hb hw1
 refine xoA ?_
 with_reducible (apply xo_nil; (repeat first | apply xqT | apply xqB | apply xqS))
 have r1 := hr.ro hk
 have hd : decide ((0 : Int) ≤ (k : Int)) = true := by simp
 with_reducible ((repeat apply xc_seq); apply xcR)
 refine xoM ?_
 refine xo_geq rfl rfl rfl rfl ?_
 refine xo_as (i := 12) rfl (congrArg Value.bool hd) ?_
 with_reducible (apply xo_nil; (repeat first | apply xqT | apply xqB | apply xqS); (repeat apply xc_seq))
 refine xc_condT rfl ?_
 with_reducible ((repeat apply xc_seq); apply xcR)
 refine xoM ?_
 refine xoM ?_
 refine xo_ia T_ rfl rfl rfl rfl rfl ⟨by omega, by omega⟩ rfl ?_
 refine xo_loadR0 T_ rfl rfl rfl r1 rfl ?_
 refine xoA ?_
 refine xoA ?_
 with_reducible (apply xo_nil; (repeat first | apply xqT | apply xqB | apply xqS); (repeat apply xc_seq); apply xc_ret; (repeat (first | apply xq_thenR | apply xq_blockR | apply xq_scopeR)))
 exact xq_ret2 rfl rfl rfl fun w' hw => ⟨⟨_, rfl⟩, hw.kx.below⟩
theorem first_enters : ∀ args w, (callFunc 80 args).run Tryd.prog w = .ok (.enter 80 args) w := enters_of Tryd.func80 (by kernel_rfl) rfl
abbrev SetW := RowR × List MarT
def toSet (x : SetW) : SetV := ⟨valA x.1, valC x.1, x.2⟩
def haS (x : SetW) : Hp := hpR 60 7 x.1 x.2.length (marL x.2)
def setH (pre : List SetW) : Hp := pre.reverse.flatMap haS
theorem setH_app (pre : List SetW) (x : SetW) : setH (pre ++ [x]) = haS x ++ setH pre := by simp [setH]
def sliceS (x : SetW) : Value := valR x.1 x.2.length
theorem sliceS_eq {x : SetW} (h : x.1 = none → x.2.length = 0) : sliceS x = setS (toSet x) := valR_eq h
def allSets (ms : List MarT) : List (List MarT) := (List.range (2 ^ ms.length)).map (setOf ms)
theorem two8 {n : Nat} (h : n ≤ 8) : 0 < 2 ^ n ∧ 2 ^ n ≤ 256 := ⟨Nat.pow_pos (by omega), Nat.le_trans (Nat.pow_le_pow_right (by omega) h) (by decide)⟩
theorem setRow {w : World} {x : SetW} (hx : x.1 = none → x.2.length = 0) (h : ∀ e ∈ haS x, ∃ o, w.heap[e.1]? = some o ∧ e.2.2 o) : RowOf marV 7 zMar w (valA x.1) x.2 := by
 obtain ⟨r, l⟩ := x
 cases r with
 | none =>
  have h0 : l.length = 0 := hx rfl
  intro k hk
  have h1 : k < l.length := hk
  omega
 | some p =>
  obtain ⟨o, h1, h2⟩ := h (p.1, true, orow 60 7 l.length p.2 (marL l)) (List.Mem.head _)
  exact rowOf_orow h1 h2
theorem haS_mem {pre : List SetW} {x : SetW} (hx : x ∈ pre) {e : Nat × Bool × HP} (he : e ∈ haS x) : e ∈ setH pre := List.mem_flatMap.2 ⟨x, List.mem_reverse.2 hx, he⟩
theorem setsAt_of {w : World} {b cap : Nat} {ys : List SetV} {o : Obj} (h : w.heap[b]? = some o) (hr : orow 23 1 ys.length cap (ys.map setS) o) : SetsAt w b ys := by
 obtain ⟨cur, rfl, h5, h6, h7, h8⟩ := hr
 rw [Nat.mul_one] at h8
 intro j hj
 rw [cell_of_row w b j _ _ _ h, ← Array.getElem?_toList]
 have hx : (ys.map setS)[j]? = some (setS (ys.getD j zSet)) := by
  rw [List.getElem?_map, List.getElem?_eq_getElem hj]
  simp [List.getD_eq_getElem?_getD, List.getElem?_eq_getElem hj]
 rw [← h8, List.getElem?_take_of_lt hj] at hx
 exact hx
def okM (ms : List MarT) (W : World) (x : SetV) : Prop := (RowOf marV 7 zMar W x.A x.l ∧ ∀ m ∈ x.l, m ∈ ms) ∧ x.l.length ≤ 8
set_option maxHeartbeats 40000000 in
theorem fewest_calls (p : List MarT → Bool) (g : Nat) (cs : List Value) (eg : ∀ args w, (callFunc g args).run Tryd.prog w = .ok (.enter g args) w) (bs R : Nat) (E : Int) (gs : List GatT) (B : Option Addr) (c2 : Nat) (ms : List MarT) (w : World) (hs : SiteOK w bs R E gs B ms.length c2) (hM : RowOf marV 7 zMar w B ms) (hms : IdsOK ms)
  (hp : AsksS Tryd.prog w g cs p (okM ms)) :
  Calls Tryd.prog 48 #[.pointer (some ⟨bs, 0, none⟩), .func (.func g) #[] cs.toArray] w fun e w' => ∃ r : RowR, e = .returned (valR r (fewestL p (allSets ms)).length) ∧ RowAt 3 w.heap.size w' r (fewestL p (allSets ms)) ∧ Below w.heap.size w w' := by
 have hm8 := hms.1
 have h256 := two8 hm8
 have hsite := hs
 obtain ⟨hR6, hE6, hG, hglob, fb, fc, wv, A, c, hS⟩ := hs
 have hsV := hS.site
 refine x_calls (X := XNone) Tryd.func48 rfl rfl rfl ?_
 with_reducible ((repeat apply xc_seq); apply xcR)
 refine xoA ?_
 with_reducible (apply xo_nil; (repeat first | apply xqT | apply xqB | apply xqS); (repeat apply xc_seq); apply xcR)
 refine xoA ?_
 with_reducible (apply xo_nil; (repeat first | apply xqT | apply xqB | apply xqS); (repeat apply xc_seq); apply xcR)
 refine xoM ?_
 refine xo_nilck rfl rfl rfl ?_
 refine xo_fa T_ rfl rfl rfl rfl rfl ?_
 refine xo_fa T_ rfl rfl rfl rfl rfl ?_
 refine xo_loadR0 T_ rfl rfl rfl (hsV.lit (j := 3) rfl) rfl ?_
 refine xo_len T_ rfl rfl rfl rfl ?_
 refine xo_shl1 rfl rfl rfl (by omega) rfl ?_
 refine xoM ?_
 with_reducible (apply xo_nil; (repeat first | apply xqT | apply xqB | apply xqS); (repeat apply xc_seq); apply xc_block)
 refine xc_loop (γ := List SetW × RowR) (fun q => q.1.length ≤ 2 ^ ms.length ∧ q.1.map (·.2) = (List.range q.1.length).map (setOf ms) ∧ (∀ x ∈ q.1, x.1 = none → x.2.length = 0) ∧ (q.2 = none → q.1.length = 0)) (fun q => [(0, .pointer (some ⟨bs, 0, none⟩)), (1, .func (.func g) #[] cs.toArray), (5, valR q.2 q.1.length), (19, .int .i64 ((2 ^ ms.length : Nat) : Int)), (20, .int .i64 (q.1.length : Int))])
  (fun q => hpR 23 1 q.2 q.1.length (q.1.map sliceS) ++ setH q.1) (fun q => 2 ^ ms.length - q.1.length) ([], none) ⟨Nat.zero_le _, rfl, (fun x hx => by cases hx), fun _ => rfl⟩ ⟨rfl, rfl, rfl, rfl, rfl, trivial⟩ (List.nil_sublist _) ?_
 rintro ⟨pre, rr⟩ ⟨hk, hsets, hnn, hrr⟩
 have hk : pre.length ≤ 2 ^ ms.length := hk
 have hsets : pre.map (·.2) = (List.range pre.length).map (setOf ms) := hsets
 have hnn : ∀ x ∈ pre, x.1 = none → x.2.length = 0 := hnn
 have hrr : rr = none → pre.length = 0 := hrr
 with_reducible ((repeat apply xc_seq); apply xcR)
 refine xo_lss rfl rfl rfl rfl ?_
 with_reducible (apply xo_nil; (repeat first | apply xqT | apply xqB | apply xqS); (repeat apply xc_seq))
 refine xc_cond rfl (fun h => ?_) (fun h => ?_)
 ·have hlt : pre.length < 2 ^ ms.length := by
   have h' : ((pre.length : Nat) : Int) < ((2 ^ ms.length : Nat) : Int) := of_decide_eq_true h
   omega
  with_reducible (apply xc_skip; (repeat first | apply xqT | apply xqB | apply xqS); (repeat apply xc_seq); apply xc_block; (repeat apply xc_seq); apply xcR)
  refine xoM ?_
  refine xoA ?_
  with_reducible (apply xo_nil; (repeat first | apply xqT | apply xqB | apply xqS); (repeat apply xc_seq); apply xcR)
  refine xoM ?_
  refine xoM ?_
  refine xoM ?_
  refine xo_call (fs := []) (cs := []) rfl rfl rfl chosen_enters rfl (fun w1 hw1 => (chosen_calls bs R E gs B c2 ms pre.length w1 (hsite.below hw1.kx.below) (hM.below hw1.kx.below) hm8 (by omega)).mono ?_)
  rintro e w2 ⟨r, rfl, hrw, hb⟩
  have h11 := hrw.1
  refine ⟨_, _, rfl, hw1.rowZ hb hrw, ?_⟩
  clear hrw hb hw1
  refine xo_bs1 T_ rfl rfl rfl rfl rfl rfl (by cases r <;> rfl) rfl (fun b27 => ?_)
  refine xo_perm ((List.perm_append_comm_assoc _ _ _).cons _) ?_
  refine xo_app TR_ rfl rfl rfl rfl rfl rfl rfl rfl (by simp) rfl (by cases r <;> rfl) hrr (by omega) rfl rfl (fun r' hr' => ?_)
  refine xoA ?_
  with_reducible (apply xo_nil; (repeat first | apply xqT | apply xqB | apply xqS); (repeat apply xc_seq); apply xcR)
  refine xo_add rfl rfl rfl (by omega) rfl ?_
  refine xoM ?_
  with_reducible (apply xo_nil; (repeat first | apply xqT | apply xqB | apply xqS))
  refine xq_again _ _ _ _ _ (pre ++ [(r, setOf ms pre.length)], r') ⟨by simp; omega, ?_, fun x hx => ?_, fun q => absurd q hr'⟩ (by simp; omega) ⟨rfl, rfl, by simp only [List.length_append, List.length_singleton]; rfl, rfl, by simp only [List.length_append, List.length_singleton]; rfl, trivial⟩ ?_
  ·simp only [List.length_append, List.length_singleton, List.range_succ, List.map_append, hsets, List.map_cons, List.map_nil]
  ·rcases List.mem_append.1 hx with hx | hx
   ·exact hnn x hx
   ·rw [List.mem_singleton.1 hx]; exact h11
  ·rw [setH_app, List.map_append]
   simp only [List.length_append, List.length_singleton]
   exact List.Sublist.refl _
 have hge : pre.length = 2 ^ ms.length := by
  have h' : ¬ ((pre.length : Nat) : Int) < ((2 ^ ms.length : Nat) : Int) := of_decide_eq_false h
  omega
 rcases rr with _ | ⟨b, cap⟩
 ·have := hrr rfl
  omega
 have hids : ∀ x ∈ pre, IdsOK x.2 ∧ ∀ m ∈ x.2, m ∈ ms := fun x hx => by
  have h1 : x.2 ∈ pre.map (·.2) := List.mem_map.2 ⟨x, hx, rfl⟩
  rw [hsets] at h1
  obtain ⟨k, _, e⟩ := List.mem_map.1 h1
  have h2 : ∀ m ∈ x.2, m ∈ ms := fun m hm => chosenL_mem k ms ms.length (Nat.le_refl _) m (by rw [← e] at hm; exact hm)
  refine ⟨⟨?_, fun m hm => hms.2 m (h2 m hm)⟩, h2⟩
  have := chosenL_len k ms ms.length
  rw [show chosenL k ms ms.length = x.2 from e] at this
  omega
 have hall : (pre.map toSet).map (·.l) = allSets ms := by
  rw [List.map_map]
  show pre.map (·.2) = _
  rw [hsets, hge]
  rfl
 have hhd : pre.map sliceS = (pre.map toSet).map setS := by
  rw [List.map_map]
  exact List.map_congr_left fun x hx => sliceS_eq (hnn x hx)
 rw [hhd]
 with_reducible (apply xc_exit; (repeat (first | apply xq_blockX | apply xq_thenE | refine xq_blockE rfl ?_ | apply xq_scopeE)); (repeat first | apply xqT | apply xqB | apply xqS); (repeat apply xc_seq); apply xcR)
 refine xo_alloc T_ rfl rfl rfl rfl (fun b7 => ?_)
 refine xo_store T_ rfl rfl rfl rfl (by repeat first | exact mH | apply mT | apply mA) rfl rfl rfl rfl (by repeat first | exact Upd.head | apply Upd.tail | apply Upd.app) rfl ?_
 with_reducible (apply xo_nil; (repeat first | apply xqT | apply xqB | apply xqS); (repeat apply xc_seq); apply xcR)
 refine xoM ?_
 refine xo_mkf rfl rfl rfl rfl ?_
 refine xo_call (fs := []) (vs := [.slice (some ⟨b, 0, none⟩) (pre.map toSet).length cap, .func (.func 77) #[] #[.pointer (some ⟨b7, 0, none⟩)]]) rfl rfl (by rw [List.length_map]; rfl) sortSets_enters rfl (fun w1 hw1 => ?_)
 have hb7 := hw1.ro (b := b7) (wr := true) (t := 113) (by repeat first | exact mH | apply mT | apply mA)
 obtain ⟨o1, ho1, ho2⟩ := hw1.bl (b, true, orow 23 1 pre.length cap ((pre.map toSet).map setS)) (List.Mem.tail _ (List.Mem.head _))
 have hnd := hw1.nd
 simp only [hpR, List.cons_append, List.nil_append, List.map_cons, List.nodup_cons, List.mem_cons, not_or] at hnd
 have hok : ∀ x ∈ pre.map toSet, SetOK b w1 x := fun x hx => by
  obtain ⟨q, hq, rfl⟩ := List.mem_map.1 hx
  refine ⟨setRow (hnn q hq) (fun e he => hw1.bl e (List.mem_cons_of_mem _ (List.mem_cons_of_mem _ (haS_mem hq he)))), (hids q hq).1, fun h0 ad e => ?_⟩
  obtain ⟨r, l⟩ := q
  cases r with
  | none => cases e
  | some p =>
   cases e
   exact fun q2 => hnd.2.1 (List.mem_map.2 ⟨(p.1, true, _), haS_mem hq (List.Mem.head _), q2⟩)
 refine (sortSets_calls b cap b7 (pre.map toSet) w1 o1 ho1 (by rw [List.length_map]; exact ho2) hok (by rw [List.length_map]; omega) hb7 hnd.1.1).mono ?_
 rintro e w3 ⟨rfl, hk3, ys, hys, hsd, o3, ho3, ho4⟩
 rw [List.length_map] at ho4
 have hyl : ys.length = pre.length := by rw [hys.length_eq, List.length_map]
 refine ⟨_, _, rfl, hw1.updK (η' := (b7, true, cel [.func (.func 75) #[] #[]] 113) :: (b, true, orow 23 1 pre.length cap (ys.map setS)) :: setH pre) (φ' := orow 23 1 pre.length cap (ys.map setS)) (Upd.tail Upd.head) hk3 ho3 ho4, ?_⟩
 clear ho3 ho4 hk3 ho1 ho2 hw1 hok hnd hb7
 with_reducible (apply xo_nil; (repeat first | apply xqT | apply xqB | apply xqS))
 have hin : ∀ x ∈ ys, ∃ q ∈ pre, toSet q = x := fun x hx => List.mem_map.1 (hys.mem_iff.1 hx)
 have hbest := first_best p (ls := allSets ms) (ys := ys.map (·.l)) (by rw [← hall]; exact hys.map _) hsd
 rw [← hyl]
 refine xc_slots [(1, .func (.func g) #[] cs.toArray), (5, .slice (some ⟨b, 0, none⟩) ys.length cap), (7, .pointer (some ⟨b7, 0, none⟩))] ⟨rfl, by rw [hyl]; rfl, rfl, trivial⟩ ?_
 refine xc_anew fun wA hwA => ?_
 have hbA := hwA.kx.below
 have hsA : SetsAt wA b ys := by
  obtain ⟨o1, ho1, ho2⟩ := hwA.bl (b, true, orow 23 1 ys.length cap (ys.map setS)) (List.Mem.tail _ (List.Mem.head _))
  exact setsAt_of ho1 ho2
 have hrows : ∀ x ∈ ys, RowOf marV 7 zMar wA x.A x.l ∧ ∀ m ∈ x.l, m ∈ ms := fun x hx => by
  obtain ⟨q, hq, rfl⟩ := hin x hx
  exact ⟨setRow (hnn q hq) (fun e he => hwA.bl e (List.mem_cons_of_mem _ (List.mem_cons_of_mem _ (haS_mem hq he)))), (hids q hq).2⟩
 have hb7A := hwA.ro (b := b7) (wr := true) (t := 113) (by repeat first | exact mH | apply mT | apply mA)
 have hyl2 : ys.length ≤ 1000000 := by omega
 have h8 : ∀ x ∈ ys, x.l.length ≤ 8 := fun x hx => by
  obtain ⟨q, hq, rfl⟩ := hin x hx
  exact (hids q hq).1.1
 have hpA := hp.below hbA
 clear hwA hin hys hsd hall hhd hids hyl hsets hnn hsV hS hsite
 with_reducible ((repeat apply xc_seq); apply xcR)
 refine xoM ?_
 refine xoM ?_
 refine xo_call (fs := []) (cs := []) rfl rfl rfl first_enters rfl (fun w1 hw1 => (first_calls p g cs eg b cap ys w1 (okM ms) (fun x hx W hW => ⟨⟨(hrows x hx).1.below (below_step hw1.kx.below hW), (hrows x hx).2⟩, h8 x hx⟩) hyl2 (hsA.below hw1.kx.below) (hpA.below hw1.kx.below)).mono ?_)
 rintro e w2 ⟨⟨t, rfl⟩, hb⟩
 refine ⟨_, _, rfl, hw1.below hb, ?_⟩
 clear hb hw1
 refine xoM ?_
 refine xo_ext rfl rfl rfl rfl ?_
 refine xo_ext rfl rfl rfl rfl ?_
 refine xoA ?_
 refine xoA ?_
 with_reducible (apply xo_nil; (repeat first | apply xqT | apply xqB | apply xqS))
 have hfx : ∀ x, (ys.find? fun x => p x.l).getD zSet = x → RowOf marV 7 zMar wA x.A x.l ∧ x.l.length ≤ 8 ∧ idsL x.l = fewestL p (allSets ms) := by
  rintro x rfl
  rw [List.find?_map] at hbest
  rw [← hbest]
  cases hf : ys.find? fun x => p x.l with
  | none =>
   have hf' : ys.find? (p ∘ fun x => x.l) = none := hf
   rw [hf']
   exact ⟨fun k hk => absurd hk (Nat.not_lt_zero _), Nat.zero_le _, rfl⟩
  | some x =>
   have hf' : ys.find? (p ∘ fun x => x.l) = some x := hf
   rw [hf']
   have hx := List.mem_of_find?_eq_some hf
   exact ⟨(hrows x hx).1, h8 x hx, rfl⟩
 obtain ⟨hrx, hx8, hidx⟩ := hfx _ rfl
 generalize (ys.find? fun x => p x.l).getD zSet = x at hrx hx8 hidx
 obtain ⟨xA, xC, xl⟩ := x
 rw [← hidx]
 simp only at hrx hx8
 have hil : (idsL xl).length = xl.length := by simp [idsL]
 with_reducible ((repeat apply xc_seq); apply xcR)
 refine xoA ?_
 with_reducible (apply xo_nil; (repeat first | apply xqT | apply xqB | apply xqS); (repeat apply xc_seq); apply xcR)
 refine xoM ?_
 refine xo_len T_ (len := xl.length) rfl rfl rfl rfl ?_
 refine xoM ?_
 with_reducible (apply xo_nil; (repeat first | apply xqT | apply xqB | apply xqS); (repeat apply xc_seq); apply xc_block)
 refine xc_loop (γ := Nat × RowR) (fun q => q.1 ≤ xl.length ∧ (q.2 = none → q.1 = 0)) (fun q => [(7, .pointer (some ⟨b7, 0, none⟩)), (10, valR q.2 q.1), (39, .slice xA xl.length xC), (40, .int .i64 (xl.length : Int)), (41, .int .i64 (q.1 : Int))])
  (fun q => hpR 3 1 q.2 q.1 (((idsL xl).take q.1).map (.int .i64)) ++ []) (fun q => xl.length - q.1) (0, none) ⟨Nat.zero_le _, fun _ => rfl⟩ ⟨rfl, rfl, rfl, rfl, rfl, trivial⟩ (List.nil_sublist _) ?_
 rintro ⟨k, rr⟩ ⟨hk, hrr⟩
 have hk : k ≤ xl.length := hk
 have hrr : rr = none → k = 0 := hrr
 with_reducible ((repeat apply xc_seq); apply xcR)
 refine xo_lss rfl rfl rfl rfl ?_
 with_reducible (apply xo_nil; (repeat first | apply xqT | apply xqB | apply xqS); (repeat apply xc_seq))
 refine xc_cond rfl (fun h => ?_) (fun h => ?_)
 ·have hlt : k < xl.length := by have := of_decide_eq_true h; omega
  obtain ⟨ad, rfl, hRm⟩ := hrx k hlt
  have hst : (idsL xl).take (k + 1) = (idsL xl).take k ++ [(xl.getD k zMar).f0] := by
   rw [List.take_add_one]
   unfold idsL
   rw [List.getElem?_map, List.getElem?_eq_getElem hlt]
   simp [List.getD_eq_getElem?_getD, List.getElem?_eq_getElem hlt]
  have htl : ((idsL xl).take k).length = k := by rw [List.length_take, hil]; omega
  generalize xl.getD k zMar = m at hRm hst
  with_reducible (apply xc_skip; (repeat first | apply xqT | apply xqB | apply xqS); (repeat apply xc_seq); apply xc_block; (repeat apply xc_seq); apply xcR)
  refine xo_ia T_ rfl rfl rfl rfl rfl ⟨by omega, by omega⟩ rfl ?_
  refine xo_loadRN T_ rfl rfl rfl hRm rfl rfl ?_
  refine xo_alloc T_ rfl rfl rfl rfl (fun b12 => ?_)
  refine xo_store T_ rfl rfl rfl rfl (by repeat first | exact mH | apply mT | apply mA) rfl rfl rfl rfl (by repeat first | exact Upd.head | apply Upd.tail | apply Upd.app) rfl ?_
  with_reducible (apply xo_nil; (repeat first | apply xqT | apply xqB | apply xqS); (repeat apply xc_seq); apply xcR)
  refine xoM ?_
  refine xo_loadR0 T_ rfl rfl rfl hb7A rfl ?_
  refine xo_loadN T_ rfl rfl rfl (by repeat first | exact mH | apply mT | apply mA) rfl rfl ?_
  refine xo_callB (fs := []) (cs := []) rfl rfl rfl Q.number_enters rfl (fun w1 hw1 => (Q.number_calls m w1).mono fun e w' ⟨h1, h2⟩ => ⟨h1, h2.kx.below⟩) ?_
  refine xo_bs1 T_ rfl rfl rfl rfl rfl rfl rfl rfl (fun b49 => ?_)
  refine xo_less (η' := (b49, true, cel [.int .i64 m.f0] 3) :: (hpR 3 1 rr k (((idsL xl).take k).map (.int .i64)) ++ [])) (List.Sublist.cons_cons _ (List.sublist_cons_self _ _)) ?_
  refine xo_app TR_ rfl rfl rfl rfl rfl rfl rfl rfl (by rw [List.length_map, htl, Nat.mul_one]) rfl rfl hrr (by omega) rfl rfl (fun r' hr' => ?_)
  refine xoA ?_
  with_reducible (apply xo_nil; (repeat first | apply xqT | apply xqB | apply xqS); (repeat apply xc_seq); apply xcR)
  refine xo_add rfl rfl rfl (by omega) rfl ?_
  refine xoM ?_
  with_reducible (apply xo_nil; (repeat first | apply xqT | apply xqB | apply xqS))
  exact xq_again _ _ _ _ _ (k + 1, r') ⟨hlt, fun q => absurd q hr'⟩ (by simp only; omega) ⟨rfl, rfl, rfl, rfl, rfl, trivial⟩ (by rw [hst, List.map_append]; exact List.Sublist.refl _)
 have hge : k = xl.length := by have := of_decide_eq_false h; omega
 subst hge
 rw [List.take_of_length_le (by omega), ← hil]
 with_reducible (apply xc_exit; (repeat (first | apply xq_blockX | apply xq_thenE | refine xq_blockE rfl ?_ | apply xq_scopeE)); (repeat first | apply xqT | apply xqB | apply xqS); (repeat apply xc_seq); apply xcR)
 refine xoM ?_
 refine xoA ?_
 with_reducible (apply xo_nil; (repeat first | apply xqT | apply xqB | apply xqS); (repeat apply xc_seq); apply xc_ret; (repeat (first | apply xq_thenR | apply xq_blockR | apply xq_scopeR)))
 refine xq_ret1 rfl rfl fun w' hw => ⟨rr, rfl, (RowAt.of hw (fun q => by have := hrr q; exact List.eq_nil_of_length_eq_zero (by omega))).mono hbA.size, below_step hbA hw.kx.below⟩
theorem fewest_enters : ∀ args w, (callFunc 48 args).run Tryd.prog w = .ok (.enter 48 args) w := enters_of Tryd.func48 (by kernel_rfl) rfl
theorem ids_of {R : Int} : ∀ {ms : List MarT} {last : Int}, -1 ≤ last → marksF R last ms = true → ∀ m ∈ ms, 0 ≤ m.f0 ∧ m.f0 ≤ 9999
 | [], _, _, _, m, hm => by cases hm
 | x :: ms, last, hl, h, m, hm => by
  simp only [marksF, Bool.and_eq_true] at h
  obtain ⟨⟨⟨⟨h1, h2⟩, h3⟩, h4⟩, h5⟩ := h
  have q1 := inF_iff.1 h1
  rcases List.mem_cons.1 hm with rfl | hm
  ·omega
  ·exact ids_of (last := x.f0) (by omega) h5 m hm
theorem whyF_calls (bs bp bq : Nat) (R : Nat) (E : Int) (gs : List GatT) (B : Option Addr) (c2 : Nat) (ms : List MarT) (room : Nat) (w : World) (hs : SiteOK w bs R E gs B ms.length c2) (hm8 : ms.length ≤ 8) (hmk : ∀ m ∈ ms, MarkOK m) (hroom : room < 6)
  (h1 : RO w XNone ⟨bp, 0, none⟩ [.pointer (some ⟨bs, 0, none⟩)]) (h2 : RO w XNone ⟨bq, 0, none⟩ [.int .i64 (room : Int)]) : AsksS Tryd.prog w 49 [.pointer (some ⟨bp, 0, none⟩), .pointer (some ⟨bq, 0, none⟩)] (fun l => !canF E R gs room l) (okM ms) := by
 rintro x W hW ⟨⟨hx1, hx2⟩, hx8⟩
 have h1 := h1.below hW
 have h2 := h2.below hW
 have hs := hs.below hW
 refine x_calls (X := XNone) (vs := [.slice x.A x.l.length x.C, .pointer (some ⟨bp, 0, none⟩), .pointer (some ⟨bq, 0, none⟩)]) Tryd.func49 rfl rfl rfl ?_
 with_reducible ((repeat apply xc_seq); apply xcR)
 refine xoA ?_
 with_reducible (apply xo_nil; (repeat first | apply xqT | apply xqB | apply xqS); (repeat apply xc_seq); apply xcR)
 refine xo_loadR0 T_ rfl rfl rfl h1 rfl ?_
 refine xo_loadR0 T_ rfl rfl rfl h2 rfl ?_
 refine xoM ?_
 refine xo_callB (fs := []) (cs := []) rfl rfl rfl can_enters rfl (fun w1 hw1 => can_calls bs R E gs B x.A ms.length c2 x.C x.l room w1 (hs.below hw1.kx.below) (hx1.below hw1.kx.below) hx8 (fun m hm => hmk m (hx2 m hm)) hroom) ?_
 refine xo_notOp rfl rfl rfl ?_
 refine xoA ?_
 with_reducible (apply xo_nil; (repeat first | apply xqT | apply xqB | apply xqS); (repeat apply xc_seq); apply xc_ret; (repeat (first | apply xq_thenR | apply xq_blockR | apply xq_scopeR)))
 exact xq_ret1 rfl rfl fun w' hw => ⟨rfl, hw.kx.below⟩
theorem whyF_enters : ∀ args w, (callFunc 49 args).run Tryd.prog w = .ok (.enter 49 args) w := enters_of Tryd.func49 (by kernel_rfl) rfl
theorem againstF_calls (bs bp : Nat) (R : Nat) (E : Int) (gs : List GatT) (B : Option Addr) (c2 : Nat) (ms : List MarT) (w : World) (hs : SiteOK w bs R E gs B ms.length c2) (hm8 : ms.length ≤ 8) (hmk : ∀ m ∈ ms, MarkOK m)
  (h1 : RO w XNone ⟨bp, 0, none⟩ [.pointer (some ⟨bs, 0, none⟩)]) : AsksS Tryd.prog w 50 [.pointer (some ⟨bp, 0, none⟩)] (fun l => decide (((roomsN E R gs l).length : Int) = 0)) (okM ms) := by
 rintro x W hW ⟨⟨hx1, hx2⟩, hx8⟩
 have h1 := h1.below hW
 have hs := hs.below hW
 refine x_calls (X := XNone) (vs := [.slice x.A x.l.length x.C, .pointer (some ⟨bp, 0, none⟩)]) Tryd.func50 rfl rfl rfl ?_
 with_reducible ((repeat apply xc_seq); apply xcR)
 refine xoA ?_
 with_reducible (apply xo_nil; (repeat first | apply xqT | apply xqB | apply xqS); (repeat apply xc_seq); apply xcR)
 refine xo_loadR0 T_ rfl rfl rfl h1 rfl ?_
 refine xoM ?_
 refine xo_call (fs := []) (cs := []) rfl rfl rfl rooms_enters rfl (fun w1 hw1 => (rooms_calls bs R E gs B x.A ms.length c2 x.C x.l w1 (hs.below hw1.kx.below) (hx1.below hw1.kx.below) hx8 (fun m hm => hmk m (hx2 m hm))).mono ?_)
 rintro e w2 ⟨r, rfl, hrw, hb⟩
 have h11 := hrw.1
 refine ⟨_, _, rfl, hw1.below hb, ?_⟩
 clear hrw hb hw1
 refine xo_len T_ rfl (show _ = some (Value.slice (valA r) (roomsN E R gs x.l).length (valC r)) from congrArg some (valR_eq (fun q => by have := h11 q; simpa [intsN] using this))) rfl rfl ?_
 refine xo_eql rfl rfl rfl rfl ?_
 refine xoA ?_
 with_reducible (apply xo_nil; (repeat first | apply xqT | apply xqB | apply xqS); (repeat apply xc_seq); apply xc_ret; (repeat (first | apply xq_thenR | apply xq_blockR | apply xq_scopeR)))
 exact xq_ret1 rfl rfl fun w' hw => ⟨rfl, hw.kx.below⟩
theorem againstF_enters : ∀ args w, (callFunc 50 args).run Tryd.prog w = .ok (.enter 50 args) w := enters_of Tryd.func50 (by kernel_rfl) rfl
def whyC (R E : Int) (gs : List GatT) (ms : List MarT) (room : Int) : Int := if sceneF R E gs ms = true then (if roomOK R room = true then (if canF E R.toNat gs room.toNat ms = true then 8 else 0) else 2) else 90
def whyL (R E : Int) (gs : List GatT) (ms : List MarT) (room : Int) : List Int := if whyC R E gs ms room = 0 then fewestL (fun l => !canF E R.toNat gs room.toNat l) (allSets ms) else []
set_option maxHeartbeats 8000000 in
theorem Why_calls (R E : Int) (A B : Option Addr) (c c2 : Nat) (gs : List GatT) (ms : List MarT) (room : Int) (w : World) (hs : SceneAt w A B gs ms) :
  Calls Tryd.prog 23 #[.agg (scnV R A gs.length c E B ms.length c2).toArray, .int .i64 room] w fun e w' => ∃ rr : RowR, e = .returned (.tuple #[valR rr (whyL R E gs ms room).length, .int .i64 (whyC R E gs ms room)]) ∧ RowAt 3 w.heap.size w' rr (whyL R E gs ms room) ∧ Below w.heap.size w w' := by
 refine x_calls (X := XNone) Tryd.func23 rfl rfl rfl ?_
 with_reducible ((repeat apply xc_seq); apply xcR)
 refine xo_box rfl rfl rfl rfl (fun b2 => ?_)
 refine xo_box rfl rfl rfl rfl (fun b3 => ?_)
 refine xoA ?_
 refine xoA ?_
 with_reducible (apply xo_nil; (repeat first | apply xqT | apply xqB | apply xqS))
 cases hsc : sceneF R E gs ms
 ·have e1 : whyC R E gs ms room = 90 := by simp [whyC, hsc]
  have e2 : whyL R E gs ms room = [] := by rw [whyL, if_neg (by rw [e1]; decide)]
  with_reducible ((repeat apply xc_seq); apply xcR)
  refine xo_loadN T_ rfl rfl rfl (by repeat first | exact mH | apply mT | apply mA) rfl rfl ?_
  refine xo_load0 T_ rfl rfl rfl (by repeat first | exact mH | apply mT | apply mA) rfl rfl ?_
  refine xo_callB (fs := []) (cs := []) rfl rfl rfl roomed_enters rfl (fun w1 hw1 => roomed_no R E A B c c2 gs ms room w1 (hs.below hw1.kx.below).gates (hs.below hw1.kx.below).marks hs.bytes hsc) ?_
  refine xoM ?_
  refine xo_ext rfl rfl rfl rfl ?_
  refine xo_ext rfl rfl rfl rfl ?_
  refine xo_alloc T_ rfl rfl rfl rfl (fun b6 => ?_)
  refine xo_store T_ rfl rfl rfl rfl (by repeat first | exact mH | apply mT | apply mA) rfl rfl rfl rfl (by repeat first | exact Upd.head | apply Upd.tail | apply Upd.app) rfl ?_
  refine xoA ?_
  with_reducible (apply xo_nil; (repeat first | apply xqT | apply xqB | apply xqS); (repeat apply xc_seq); apply xcR)
  refine xoM ?_
  refine xo_neq rfl rfl rfl rfl ?_
  with_reducible (apply xo_nil; (repeat first | apply xqT | apply xqB | apply xqS); (repeat apply xc_seq))
  refine xc_condT rfl ?_
  with_reducible ((repeat apply xc_seq); apply xcR)
  refine xoM ?_
  refine xoA ?_
  refine xoA ?_
  with_reducible (apply xo_nil; (repeat first | apply xqT | apply xqB | apply xqS); (repeat apply xc_seq); apply xc_ret; (repeat (first | apply xq_thenR | apply xq_blockR | apply xq_scopeR)))
  exact xq_ret2 rfl rfl rfl fun w' hw => ⟨none, by rw [e1, e2]; rfl, by rw [e2]; exact ⟨fun _ => rfl, fun p hp => by cases hp⟩, hw.kx.below⟩
 cases hrm : roomOK R room
 ·have e1 : whyC R E gs ms room = 2 := by simp [whyC, hsc, hrm]
  have e2 : whyL R E gs ms room = [] := by rw [whyL, if_neg (by rw [e1]; decide)]
  with_reducible ((repeat apply xc_seq); apply xcR)
  refine xo_loadN T_ rfl rfl rfl (by repeat first | exact mH | apply mT | apply mA) rfl rfl ?_
  refine xo_load0 T_ rfl rfl rfl (by repeat first | exact mH | apply mT | apply mA) rfl rfl ?_
  refine xo_callB (fs := []) (cs := []) rfl rfl rfl roomed_enters rfl (fun w1 hw1 => roomed_arg R E A B c c2 gs ms room w1 (hs.below hw1.kx.below).gates (hs.below hw1.kx.below).marks hs.bytes hsc hrm) ?_
  refine xoM ?_
  refine xo_ext rfl rfl rfl rfl ?_
  refine xo_ext rfl rfl rfl rfl ?_
  refine xo_alloc T_ rfl rfl rfl rfl (fun b6 => ?_)
  refine xo_store T_ rfl rfl rfl rfl (by repeat first | exact mH | apply mT | apply mA) rfl rfl rfl rfl (by repeat first | exact Upd.head | apply Upd.tail | apply Upd.app) rfl ?_
  refine xoA ?_
  with_reducible (apply xo_nil; (repeat first | apply xqT | apply xqB | apply xqS); (repeat apply xc_seq); apply xcR)
  refine xoM ?_
  refine xo_neq rfl rfl rfl rfl ?_
  with_reducible (apply xo_nil; (repeat first | apply xqT | apply xqB | apply xqS); (repeat apply xc_seq))
  refine xc_condT rfl ?_
  with_reducible ((repeat apply xc_seq); apply xcR)
  refine xoM ?_
  refine xoA ?_
  refine xoA ?_
  with_reducible (apply xo_nil; (repeat first | apply xqT | apply xqB | apply xqS); (repeat apply xc_seq); apply xc_ret; (repeat (first | apply xq_thenR | apply xq_blockR | apply xq_scopeR)))
  exact xq_ret2 rfl rfl rfl fun w' hw => ⟨none, by rw [e1, e2]; rfl, by rw [e2]; exact ⟨fun _ => rfl, fun p hp => by cases hp⟩, hw.kx.below⟩
 have e1 : whyC R E gs ms room = if canF E R.toNat gs room.toNat ms = true then 8 else 0 := by simp [whyC, hsc, hrm]
 unfold whyL
 rw [e1]
 clear e1
 obtain ⟨hR6, hE6, hG, hm8, hmk⟩ := sceneF_ok hsc
 have hmk' := marks_ok hR6 hmk
 have hids : IdsOK ms := ⟨hm8, ids_of (by omega) hmk⟩
 clear hmk
 obtain ⟨n, rfl, hn1, hn6⟩ := nat_of hR6
 obtain ⟨r, rfl, hr⟩ := roomOK_nat hn6 hrm
 have en : ((n : Nat) : Int).toNat = n := rfl
 have er : ((r : Nat) : Int).toNat = r := rfl
 rw [en, er]
 with_reducible ((repeat apply xc_seq); apply xcR)
 refine xo_loadN T_ rfl rfl rfl (by repeat first | exact mH | apply mT | apply mA) rfl rfl ?_
 refine xo_load0 T_ rfl rfl rfl (by repeat first | exact mH | apply mT | apply mA) rfl rfl ?_
 refine xo_call (fs := []) (cs := []) rfl rfl rfl roomed_enters rfl (fun w1 hw1 => (roomed_yes n E A B c c2 gs ms r w1 (hs.below hw1.kx.below).gates (hs.below hw1.kx.below).marks hs.bytes hsc hrm).mono ?_)
 rintro e w2 ⟨bs, pre, fb, fc, wb, wc, rfl, hp, hz⟩
 rw [en] at hz
 refine ⟨_, _, rfl, (hw1.join hz (fun e he => (siteH_own e he).1)).deflag, ?_⟩
 clear hz hw1
 refine xoM ?_
 refine xo_ext rfl rfl rfl rfl ?_
 refine xo_ext rfl rfl rfl rfl ?_
 refine xo_alloc T_ rfl rfl rfl rfl (fun b6 => ?_)
 refine xo_store T_ rfl rfl rfl rfl (by repeat first | exact mH | apply mT | apply mA) rfl rfl rfl rfl (by repeat first | exact Upd.head | apply Upd.tail | apply Upd.app) rfl ?_
 refine xoA ?_
 with_reducible (apply xo_nil; (repeat first | apply xqT | apply xqB | apply xqS); (repeat apply xc_seq); apply xcR)
 refine xoM ?_
 refine xo_neq rfl rfl rfl rfl ?_
 with_reducible (apply xo_nil; (repeat first | apply xqT | apply xqB | apply xqS); (repeat apply xc_seq))
 refine xc_condF rfl ?_
 with_reducible (apply xc_skip; (repeat first | apply xqT | apply xqB | apply xqS))
 refine xc_anew fun wA hwA => ?_
 have hbA := hwA.kx.below
 have hsA := siteOK_of (pre := pre) (c := c) (A := A) (nm := ms.length) (c2 := c2) (B := B) (bs := bs) (fb := fb) (fc := fc) (rw_ := some (wb, wc)) ⟨hn1, hn6⟩ hE6 hG (hs.below hbA).glob (hwA.inW fun e he => List.mem_cons_of_mem _ (List.mem_append_left _ (List.mem_map.2 ⟨e, he, rfl⟩))) hp
 have h6 := hwA.ro (b := b6) (wr := true) (t := 62) (List.Mem.head _)
 have h3 := hwA.ro (b := b3) (wr := true) (t := 3) (cs := [.int .i64 (r : Int)]) (by repeat first | exact mH | apply mT | apply mA)
 have h2 := hwA.ro (b := b2) (wr := true) (t := 25) (cs := scnV n A gs.length c E B ms.length c2) (by repeat first | exact mH | apply mT | apply mA)
 have hMA := mar_row (hs.below hbA).marks
 refine xc_slots [(2, .pointer (some ⟨b2, 0, none⟩)), (3, .pointer (some ⟨b3, 0, none⟩)), (6, .pointer (some ⟨b6, 0, none⟩))] ⟨rfl, rfl, rfl, trivial⟩ ?_
 clear hwA
 cases hc : canF E n gs r ms
 ·with_reducible repeat apply xc_seq
  with_reducible apply xcR
  refine xo_loadR0 T_ rfl rfl rfl h6 rfl ?_
  refine xo_loadR0 T_ rfl rfl rfl h3 rfl ?_
  refine xo_fa T_ rfl rfl rfl rfl rfl ?_
  refine xo_loadR0 T_ rfl rfl rfl (h2.lit (j := 3) rfl) rfl ?_
  refine xo_callB (fs := []) (cs := []) rfl rfl rfl can_enters rfl (fun w1 hw1 => can_calls bs n E gs B B ms.length c2 c2 ms r w1 (hsA.below hw1.kx.below) (hMA.below hw1.kx.below) hm8 hmk' (by omega)) ?_
  refine xo_as (i := 21) rfl (congrArg Value.bool hc) ?_
  with_reducible (apply xo_nil; (repeat first | apply xqT | apply xqB | apply xqS); (repeat apply xc_seq))
  refine xc_condF rfl ?_
  with_reducible (apply xc_skip; (repeat first | apply xqT | apply xqB | apply xqS); (repeat apply xc_seq); apply xcR)
  refine xo_loadR0 T_ rfl rfl rfl h6 rfl ?_
  refine xo_mkf rfl rfl rfl rfl ?_
  refine xo_call (fs := []) (cs := []) rfl rfl rfl fewest_enters rfl (fun w1 hw1 => (fewest_calls (fun l => !canF E n gs r l) 49 [.pointer (some ⟨b6, 0, none⟩), .pointer (some ⟨b3, 0, none⟩)] whyF_enters bs n E gs B c2 ms w1 (hsA.below hw1.kx.below) (hMA.below hw1.kx.below) hids (fun x W hW hx => whyF_calls bs b6 b3 n E gs B c2 ms r wA hsA hm8 hmk' (by omega) h6 h3 x W (below_step hw1.kx.below hW) hx)).mono ?_)
  rintro e w2 ⟨rr, rfl, hrw, hb⟩
  have h11 := hrw.1
  refine ⟨_, _, rfl, hw1.row hb hrw, ?_⟩
  clear hrw hb hw1
  refine xoA ?_
  refine xoA ?_
  with_reducible (apply xo_nil; (repeat first | apply xqT | apply xqB | apply xqS); (repeat apply xc_seq); apply xc_ret; (repeat (first | apply xq_thenR | apply xq_blockR | apply xq_scopeR)))
  exact xq_ret2 rfl rfl rfl fun w' hw => ⟨rr, rfl, (RowAt.of hw h11).mono hbA.size, below_step hbA hw.kx.below⟩
 ·with_reducible repeat apply xc_seq
  with_reducible apply xcR
  refine xo_loadR0 T_ rfl rfl rfl h6 rfl ?_
  refine xo_loadR0 T_ rfl rfl rfl h3 rfl ?_
  refine xo_fa T_ rfl rfl rfl rfl rfl ?_
  refine xo_loadR0 T_ rfl rfl rfl (h2.lit (j := 3) rfl) rfl ?_
  refine xo_callB (fs := []) (cs := []) rfl rfl rfl can_enters rfl (fun w1 hw1 => can_calls bs n E gs B B ms.length c2 c2 ms r w1 (hsA.below hw1.kx.below) (hMA.below hw1.kx.below) hm8 hmk' (by omega)) ?_
  refine xo_as (i := 21) rfl (congrArg Value.bool hc) ?_
  with_reducible (apply xo_nil; (repeat first | apply xqT | apply xqB | apply xqS); (repeat apply xc_seq))
  refine xc_condT rfl ?_
  with_reducible ((repeat apply xc_seq); apply xcR)
  refine xoA ?_
  refine xoA ?_
  with_reducible (apply xo_nil; (repeat first | apply xqT | apply xqB | apply xqS); (repeat apply xc_seq); apply xc_ret; (repeat (first | apply xq_thenR | apply xq_blockR | apply xq_scopeR)))
  exact xq_ret2 rfl rfl rfl fun w' hw => ⟨none, rfl, ⟨fun _ => rfl, fun p hp => by cases hp⟩, below_step hbA hw.kx.below⟩
theorem Why_enters : ∀ args w, (callFunc 23 args).run Tryd.prog w = .ok (.enter 23 args) w := enters_of Tryd.func23 (by kernel_rfl) rfl
def againstL (R E : Int) (gs : List GatT) (ms : List MarT) : List Int := if sceneF R E gs ms = true ∧ (roomsN E R.toNat gs ms).length = 0 then fewestL (fun l => decide (((roomsN E R.toNat gs l).length : Int) = 0)) (allSets ms) else []
set_option maxHeartbeats 8000000 in
theorem Against_calls (R E : Int) (A B : Option Addr) (c c2 : Nat) (gs : List GatT) (ms : List MarT) (w : World) (hs : SceneAt w A B gs ms) :
  Calls Tryd.prog 26 #[.agg (scnV R A gs.length c E B ms.length c2).toArray] w fun e w' => ∃ rr : RowR, e = .returned (.tuple #[valR rr (againstL R E gs ms).length, .int .i64 (checkF R E gs ms)]) ∧ RowAt 3 w.heap.size w' rr (againstL R E gs ms) ∧ Below w.heap.size w w' := by
 refine x_calls (X := XNone) Tryd.func26 rfl rfl rfl ?_
 with_reducible ((repeat apply xc_seq); apply xcR)
 refine xo_box rfl rfl rfl rfl (fun b1 => ?_)
 refine xoA ?_
 refine xoA ?_
 with_reducible (apply xo_nil; (repeat first | apply xqT | apply xqB | apply xqS))
 cases hsc : sceneF R E gs ms
 ·have e1 := check_no hsc
  have e2 : againstL R E gs ms = [] := by rw [againstL, if_neg (by simp [hsc])]
  with_reducible ((repeat apply xc_seq); apply xcR)
  refine xo_loadN T_ rfl rfl rfl (by repeat first | exact mH | apply mT | apply mA) rfl rfl ?_
  refine xo_callB (fs := []) (cs := []) rfl rfl rfl open_enters rfl (fun w1 hw1 => open_no R E A B c c2 gs ms w1 (hs.below hw1.kx.below).gates (hs.below hw1.kx.below).marks hs.bytes hsc) ?_
  refine xoM ?_
  refine xo_ext rfl rfl rfl rfl ?_
  refine xo_ext rfl rfl rfl rfl ?_
  refine xo_alloc T_ rfl rfl rfl rfl (fun b4 => ?_)
  refine xo_store T_ rfl rfl rfl rfl (by repeat first | exact mH | apply mT | apply mA) rfl rfl rfl rfl (by repeat first | exact Upd.head | apply Upd.tail | apply Upd.app) rfl ?_
  refine xoA ?_
  with_reducible (apply xo_nil; (repeat first | apply xqT | apply xqB | apply xqS); (repeat apply xc_seq); apply xcR)
  refine xoM ?_
  refine xo_neq rfl rfl rfl rfl ?_
  with_reducible (apply xo_nil; (repeat first | apply xqT | apply xqB | apply xqS); (repeat apply xc_seq))
  refine xc_condT rfl ?_
  with_reducible ((repeat apply xc_seq); apply xcR)
  refine xoM ?_
  refine xoA ?_
  refine xoA ?_
  with_reducible (apply xo_nil; (repeat first | apply xqT | apply xqB | apply xqS); (repeat apply xc_seq); apply xc_ret; (repeat (first | apply xq_thenR | apply xq_blockR | apply xq_scopeR)))
  exact xq_ret2 rfl rfl rfl fun w' hw => ⟨none, by rw [e1, e2]; rfl, by rw [e2]; exact ⟨fun _ => rfl, fun p hp => by cases hp⟩, hw.kx.below⟩
 have e1 : checkF R E gs ms = 0 := by rw [checkF, if_pos hsc]
 rw [e1]
 clear e1
 have e2 : againstL R E gs ms = if (roomsN E R.toNat gs ms).length = 0 then fewestL (fun l => decide (((roomsN E R.toNat gs l).length : Int) = 0)) (allSets ms) else [] := by
  unfold againstL
  simp [hsc]
 rw [e2]
 clear e2
 obtain ⟨hR6, hE6, hG, hm8, hmk⟩ := sceneF_ok hsc
 have hmk' := marks_ok hR6 hmk
 have hids : IdsOK ms := ⟨hm8, ids_of (by omega) hmk⟩
 clear hmk
 obtain ⟨n, rfl, hn1, hn6⟩ := nat_of hR6
 have en : ((n : Nat) : Int).toNat = n := rfl
 rw [en]
 with_reducible ((repeat apply xc_seq); apply xcR)
 refine xo_loadN T_ rfl rfl rfl (by repeat first | exact mH | apply mT | apply mA) rfl rfl ?_
 refine xo_call (fs := []) (cs := []) rfl rfl rfl open_enters rfl (fun w1 hw1 => (open_yes n E A B c c2 gs ms w1 (hs.below hw1.kx.below).gates (hs.below hw1.kx.below).marks hs.bytes hsc).mono ?_)
 rintro e w2 ⟨bs, pre, fb, fc, wb, wc, rfl, hp, hz⟩
 rw [en] at hz
 refine ⟨_, _, rfl, (hw1.join hz (fun e he => (siteH_own e he).1)).deflag, ?_⟩
 clear hz hw1
 refine xoM ?_
 refine xo_ext rfl rfl rfl rfl ?_
 refine xo_ext rfl rfl rfl rfl ?_
 refine xo_alloc T_ rfl rfl rfl rfl (fun b4 => ?_)
 refine xo_store T_ rfl rfl rfl rfl (by repeat first | exact mH | apply mT | apply mA) rfl rfl rfl rfl (by repeat first | exact Upd.head | apply Upd.tail | apply Upd.app) rfl ?_
 refine xoA ?_
 with_reducible (apply xo_nil; (repeat first | apply xqT | apply xqB | apply xqS); (repeat apply xc_seq); apply xcR)
 refine xoM ?_
 refine xo_neq rfl rfl rfl rfl ?_
 with_reducible (apply xo_nil; (repeat first | apply xqT | apply xqB | apply xqS); (repeat apply xc_seq))
 refine xc_condF rfl ?_
 with_reducible (apply xc_skip; (repeat first | apply xqT | apply xqB | apply xqS))
 refine xc_anew fun wA hwA => ?_
 have hbA := hwA.kx.below
 have hsA := siteOK_of (pre := pre) (c := c) (A := A) (nm := ms.length) (c2 := c2) (B := B) (bs := bs) (fb := fb) (fc := fc) (rw_ := some (wb, wc)) ⟨hn1, hn6⟩ hE6 hG (hs.below hbA).glob (hwA.inW fun e he => List.mem_cons_of_mem _ (List.mem_append_left _ (List.mem_map.2 ⟨e, he, rfl⟩))) hp
 have h4 := hwA.ro (b := b4) (wr := true) (t := 62) (List.Mem.head _)
 have h1 := hwA.ro (b := b1) (wr := true) (t := 25) (cs := scnV n A gs.length c E B ms.length c2) (by repeat first | exact mH | apply mT | apply mA)
 have hMA := mar_row (hs.below hbA).marks
 refine xc_slots [(1, .pointer (some ⟨b1, 0, none⟩)), (4, .pointer (some ⟨b4, 0, none⟩))] ⟨rfl, rfl, trivial⟩ ?_
 clear hwA
 cases hc : decide ((0 : Int) < (roomsN E n gs ms).length)
 ·have h0 : (roomsN E n gs ms).length = 0 := by have := of_decide_eq_false hc; omega
  rw [if_pos h0]
  with_reducible ((repeat apply xc_seq); apply xcR)
  refine xo_loadR0 T_ rfl rfl rfl h4 rfl ?_
  refine xo_fa T_ rfl rfl rfl rfl rfl ?_
  refine xo_loadR0 T_ rfl rfl rfl (h1.lit (j := 3) rfl) rfl ?_
  refine xo_call (fs := []) (cs := []) rfl rfl rfl rooms_enters rfl (fun w1 hw1 => (rooms_calls bs n E gs B B ms.length c2 c2 ms w1 (hsA.below hw1.kx.below) (hMA.below hw1.kx.below) hm8 hmk').mono ?_)
  rintro e w2 ⟨r, rfl, hrw, hb⟩
  have h11 := hrw.1
  refine ⟨_, _, rfl, hw1.below hb, ?_⟩
  clear hrw hb hw1
  refine xo_len T_ rfl (show _ = some (Value.slice (valA r) (roomsN E n gs ms).length (valC r)) from congrArg some (valR_eq (fun q => by have := h11 q; simpa [intsN] using this))) rfl rfl ?_
  refine xo_gtr rfl rfl rfl rfl ?_
  refine xo_as (i := 19) rfl (congrArg Value.bool hc) ?_
  with_reducible (apply xo_nil; (repeat first | apply xqT | apply xqB | apply xqS); (repeat apply xc_seq))
  refine xc_condF rfl ?_
  with_reducible (apply xc_skip; (repeat first | apply xqT | apply xqB | apply xqS); (repeat apply xc_seq); apply xcR)
  refine xo_loadR0 T_ rfl rfl rfl h4 rfl ?_
  refine xo_mkf rfl rfl rfl rfl ?_
  refine xo_call (fs := []) (cs := []) rfl rfl rfl fewest_enters rfl (fun w1 hw1 => (fewest_calls (fun l => decide (((roomsN E n gs l).length : Int) = 0)) 50 [.pointer (some ⟨b4, 0, none⟩)] againstF_enters bs n E gs B c2 ms w1 (hsA.below hw1.kx.below) (hMA.below hw1.kx.below) hids (fun x W hW hx => againstF_calls bs b4 n E gs B c2 ms wA hsA hm8 hmk' h4 x W (below_step hw1.kx.below hW) hx)).mono ?_)
  rintro e w2 ⟨rr, rfl, hrw, hb⟩
  have h11 := hrw.1
  refine ⟨_, _, rfl, hw1.row hb hrw, ?_⟩
  clear hrw hb hw1
  refine xoA ?_
  refine xoA ?_
  with_reducible (apply xo_nil; (repeat first | apply xqT | apply xqB | apply xqS); (repeat apply xc_seq); apply xc_ret; (repeat (first | apply xq_thenR | apply xq_blockR | apply xq_scopeR)))
  exact xq_ret2 rfl rfl rfl fun w' hw => ⟨rr, rfl, (RowAt.of hw h11).mono hbA.size, below_step hbA hw.kx.below⟩
 ·have h0 : ¬ (roomsN E n gs ms).length = 0 := by have := of_decide_eq_true hc; omega
  rw [if_neg h0]
  with_reducible ((repeat apply xc_seq); apply xcR)
  refine xo_loadR0 T_ rfl rfl rfl h4 rfl ?_
  refine xo_fa T_ rfl rfl rfl rfl rfl ?_
  refine xo_loadR0 T_ rfl rfl rfl (h1.lit (j := 3) rfl) rfl ?_
  refine xo_call (fs := []) (cs := []) rfl rfl rfl rooms_enters rfl (fun w1 hw1 => (rooms_calls bs n E gs B B ms.length c2 c2 ms w1 (hsA.below hw1.kx.below) (hMA.below hw1.kx.below) hm8 hmk').mono ?_)
  rintro e w2 ⟨r, rfl, hrw, hb⟩
  have h11 := hrw.1
  refine ⟨_, _, rfl, hw1.below hb, ?_⟩
  clear hrw hb hw1
  refine xo_len T_ rfl (show _ = some (Value.slice (valA r) (roomsN E n gs ms).length (valC r)) from congrArg some (valR_eq (fun q => by have := h11 q; simpa [intsN] using this))) rfl rfl ?_
  refine xo_gtr rfl rfl rfl rfl ?_
  refine xo_as (i := 19) rfl (congrArg Value.bool hc) ?_
  with_reducible (apply xo_nil; (repeat first | apply xqT | apply xqB | apply xqS); (repeat apply xc_seq))
  refine xc_condT rfl ?_
  with_reducible ((repeat apply xc_seq); apply xcR)
  refine xoA ?_
  refine xoA ?_
  with_reducible (apply xo_nil; (repeat first | apply xqT | apply xqB | apply xqS); (repeat apply xc_seq); apply xc_ret; (repeat (first | apply xq_thenR | apply xq_blockR | apply xq_scopeR)))
  exact xq_ret2 rfl rfl rfl fun w' hw => ⟨none, rfl, ⟨fun _ => rfl, fun p hp => by cases hp⟩, below_step hbA hw.kx.below⟩
theorem Against_enters : ∀ args w, (callFunc 26 args).run Tryd.prog w = .ok (.enter 26 args) w := enters_of Tryd.func26 (by kernel_rfl) rfl
end Go.Proofs.YtommeljlfkmpjaaDoor
namespace Go.Proofs.YtommeljlfkmpjaaDoor
open Go.RowKit
end Go.Proofs.YtommeljlfkmpjaaDoor
namespace Go.Proofs.YtommeljlfkmpjaaDoor
open Go.RowKit Go.Proofs.YtommeljlfkmpjaaDoorW.PrintWords
def spaE (x y : SpaT) : Bool := decide (x.f0 = y.f0) && decide (x.f1 = y.f1)
theorem spaE_iff {x y : SpaT} : spaE x y = true ↔ x = y := by
 obtain ⟨a, b⟩ := x
 obtain ⟨c, d⟩ := y
 simp [spaE]
theorem spa_ne (p q : Operand) (x y : SpaT) (w : World) : (eqGuard .neq 55 p q (.agg (spaV x).toArray) (.agg (spaV y).toArray)).run Tryd.prog w = .ok () w ∧ (binOp .neq 55 (.agg (spaV x).toArray) (.agg (spaV y).toArray)).run Tryd.prog w = .ok (.bool (!spaE x y)) w := by
 obtain ⟨a, b⟩ := x
 obtain ⟨c, d⟩ := y
 refine ⟨by simp only [spaV]; go_simp, ?_⟩
 simp only [spaE, spaV]
 go_simp
 repeat' split
 all_goals simp_all
section
variable {P : Program} {ro : Option Nat} {n N : Nat} {ds : List Deferred} {w0 : World} {X : Nat → Prop} {Q : Exit → Act → World → Prop} {σ : Slots} {η : Hp} {ops rest : List Oper} {d : Option Tmp} {ty : TypeId} {pos : String} {aft : Array Edge} {g : Option (Nat × Bool)}
theorem xo_neqV {t t' : TypeId} {x y : Operand} {u v : Value} {r : Bool} (hg : gS ops σ g = some true) (hx : ev σ x = some u) (hy : ev σ y = some v) (he : ∀ w, (eqGuard .neq t x y u v).run P w = .ok () w ∧ (binOp .neq t u v).run P w = .ok (.bool r) w) (hN : dstOK N d = true)
  (h : XO P ro n N ds w0 X Q ops (putS d (.bool r) σ) η rest) : XO P ro n N ds w0 X Q ops σ η (⟨d, .binOp .neq t x y t', ty, pos, aft, g⟩ :: rest) :=
 xo_val _ rfl hg hN (fun _ w ha hw => by
  obtain ⟨h1, h2⟩ := he w
  simp [execOp, ha.ev hx, ha.ev hy, h1, h2]) h
end
theorem take_eq_succ {α : Type} {xs ys : List α} (z : α) {k : Nat} (h1 : k < xs.length) (h2 : k < ys.length) (h : xs.take k = ys.take k) (e : xs.getD k z = ys.getD k z) : xs.take (k + 1) = ys.take (k + 1) := by
 have a1 : xs.getD k z = xs[k] := by simp [List.getD_eq_getElem?_getD, List.getElem?_eq_getElem h1]
 have a2 : ys.getD k z = ys[k] := by simp [List.getD_eq_getElem?_getD, List.getElem?_eq_getElem h2]
 rw [List.take_add_one, List.take_add_one, List.getElem?_eq_getElem h1, List.getElem?_eq_getElem h2, h, ← a1, ← a2, e]
abbrev IntsAt (w : World) (A : Option Addr) (xs : List Int) : Prop := RowOf (fun x : Int => [Value.int .i64 x]) 0 0 w A xs
theorem sameInts_calls (A1 A2 : Option Addr) (c1 c2 : Nat) (xs ys : List Int) (w : World) (r1 : IntsAt w A1 xs) (r2 : IntsAt w A2 ys) (l1 : xs.length ≤ 1000000) :
  Calls Tryd.prog 18 #[.slice A1 xs.length c1, .slice A2 ys.length c2] w fun e w' => e = .returned (.bool (decide (xs = ys))) ∧ Below w.heap.size w w' := by
 refine x_calls (X := XNone) Tryd.func18 rfl rfl rfl ?_
 with_reducible ((repeat apply xc_seq); apply xcR)
 refine xoA ?_
 with_reducible (apply xo_nil; (repeat first | apply xqT | apply xqB | apply xqS))
 cases hl : decide ((xs.length : Int) = ys.length)
 ·have hne : ¬ xs = ys := fun e => (of_decide_eq_false hl) (by rw [e])
  with_reducible ((repeat apply xc_seq); apply xcR)
  refine xoM ?_
  refine xo_len T_ rfl rfl rfl rfl ?_
  refine xoM ?_
  refine xo_len T_ rfl rfl rfl rfl ?_
  refine xo_neq rfl rfl rfl rfl ?_
  refine xo_as (i := 10) rfl (congrArg (fun b => Value.bool !b) hl) ?_
  with_reducible (apply xo_nil; (repeat first | apply xqT | apply xqB | apply xqS); (repeat apply xc_seq))
  refine xc_condT rfl ?_
  with_reducible ((repeat apply xc_seq); apply xcR)
  refine xoA ?_
  with_reducible (apply xo_nil; (repeat first | apply xqT | apply xqB | apply xqS); (repeat apply xc_seq); apply xc_ret; (repeat (first | apply xq_thenR | apply xq_blockR | apply xq_scopeR)))
  exact xq_ret1 rfl rfl fun w' hw => ⟨by rw [decide_eq_false hne], hw.kx.below⟩
 have hlen : xs.length = ys.length := by have := of_decide_eq_true hl; omega
 with_reducible ((repeat apply xc_seq); apply xcR)
 refine xoM ?_
 refine xo_len T_ rfl rfl rfl rfl ?_
 refine xoM ?_
 refine xo_len T_ rfl rfl rfl rfl ?_
 refine xo_neq rfl rfl rfl rfl ?_
 refine xo_as (i := 10) rfl (congrArg (fun b => Value.bool !b) hl) ?_
 with_reducible (apply xo_nil; (repeat first | apply xqT | apply xqB | apply xqS); (repeat apply xc_seq))
 refine xc_condF rfl ?_
 with_reducible (apply xc_skip; (repeat first | apply xqT | apply xqB | apply xqS); (repeat apply xc_seq); apply xcR)
 refine xoA ?_
 with_reducible (apply xo_nil; (repeat first | apply xqT | apply xqB | apply xqS); (repeat apply xc_seq); apply xc_block)
 refine xc_loop (γ := Nat) (fun k => k ≤ xs.length ∧ xs.take k = ys.take k) (fun k => [(0, .slice A1 xs.length c1), (1, .slice A2 ys.length c2), (5, .int .i64 (k : Int))]) (fun _ => []) (fun k => xs.length - k) 0 ⟨Nat.zero_le _, rfl⟩ ⟨rfl, rfl, rfl, trivial⟩ (List.nil_sublist _) ?_
 rintro k ⟨hk, heq⟩
 with_reducible ((repeat apply xc_seq); apply xcR)
 refine xoM ?_
 refine xoM ?_
 refine xo_len T_ rfl rfl rfl rfl ?_
 refine xo_lss rfl rfl rfl rfl ?_
 with_reducible (apply xo_nil; (repeat first | apply xqT | apply xqB | apply xqS); (repeat apply xc_seq))
 refine xc_cond rfl (fun h => ?_) (fun h => ?_)
 ·have hlt : k < xs.length := by have := of_decide_eq_true h; omega
  obtain ⟨ad1, rfl, q1⟩ := r1 k hlt
  obtain ⟨ad2, rfl, q2⟩ := r2 k (by omega)
  with_reducible (apply xc_skip; (repeat first | apply xqT | apply xqB | apply xqS); (repeat apply xc_seq); apply xc_block)
  refine xc_slots [(0, .slice (some ad1) xs.length c1), (1, .slice (some ad2) ys.length c2), (5, .int .i64 (k : Int))] ⟨rfl, rfl, rfl, trivial⟩ ?_
  with_reducible (repeat apply xc_seq)
  apply xc_drawN
  ·exact T_.mixed
  ·rfl
  ·rfl
  ·rfl
  ·rfl
  ·apply DrawOps.cons
   ·intro τ
    refine xoM ?_
    exact xoF
   apply DrawOps.cons
   ·intro τ
    refine xoM ?_
    exact xoF
   apply DrawOps.cons
   ·intro τ
    refine xo_ia T_ rfl rfl rfl rfl rfl ⟨by omega, by omega⟩ rfl ?_
    exact xoF
   apply DrawOps.cons
   ·intro τ
    refine xo_loadR0 T_ rfl rfl rfl q1 rfl ?_
    exact xoF
   apply DrawOps.cons
   ·intro τ
    refine xoM ?_
    exact xoF
   apply DrawOps.cons
   ·intro τ
    refine xoM ?_
    exact xoF
   apply DrawOps.cons
   ·intro τ
    refine xo_ia T_ rfl rfl rfl rfl rfl ⟨by omega, by omega⟩ rfl ?_
    exact xoF
   apply DrawOps.cons
   ·intro τ
    refine xo_loadR0 T_ rfl rfl rfl q2 rfl ?_
    exact xoF
   apply DrawOps.cons
   ·intro τ
    refine xo_neq rfl rfl rfl rfl ?_
    exact xoF
   exact DrawOps.nil
  ·rfl
  with_reducible ((repeat first | apply xqT | apply xqB | apply xqS); (repeat apply xc_seq))
  refine xc_cond rfl (fun h2 => ?_) (fun h2 => ?_)
  ·have hne : xs.getD k 0 ≠ ys.getD k 0 := by simpa using h2
   with_reducible ((repeat apply xc_seq); apply xcR)
   refine xoA ?_
   with_reducible (apply xo_nil; (repeat first | apply xqT | apply xqB | apply xqS); (repeat apply xc_seq); apply xc_ret; (repeat (first | apply xq_thenR | apply xq_blockR | apply xq_scopeR)))
   exact xq_ret1 rfl rfl fun w' hw => ⟨by rw [decide_eq_false (fun e => hne (by rw [e]))], hw.kx.below⟩
  ·have he : xs.getD k 0 = ys.getD k 0 := by simpa using h2
   with_reducible (apply xc_skip; (repeat first | apply xqT | apply xqB | apply xqS); (repeat apply xc_seq); apply xcR)
   refine xoM ?_
   refine xo_add rfl rfl rfl (by omega) rfl ?_
   refine xoA ?_
   with_reducible (apply xo_nil; (repeat first | apply xqT | apply xqB | apply xqS))
   exact xq_again _ _ _ _ _ (k + 1) ⟨hlt, take_eq_succ 0 hlt (by omega) heq he⟩ (by omega) ⟨rfl, rfl, rfl, trivial⟩ (List.nil_sublist _)
 have hge : k = xs.length := by have := of_decide_eq_false h; omega
 have hxy : xs = ys := by rwa [List.take_of_length_le (by omega), List.take_of_length_le (by omega)] at heq
 with_reducible (apply xc_exit; (repeat (first | apply xq_blockX | apply xq_thenE | refine xq_blockE rfl ?_ | apply xq_scopeE)); (repeat first | apply xqT | apply xqB | apply xqS); (repeat apply xc_seq); apply xcR)
 refine xoA ?_
 with_reducible (apply xo_nil; (repeat first | apply xqT | apply xqB | apply xqS); (repeat apply xc_seq); apply xc_ret; (repeat (first | apply xq_thenR | apply xq_blockR | apply xq_scopeR)))
 exact xq_ret1 rfl rfl fun w' hw => ⟨by rw [decide_eq_true hxy], hw.kx.below⟩
theorem sameInts_enters : ∀ args w, (callFunc 18 args).run Tryd.prog w = .ok (.enter 18 args) w := enters_of Tryd.func18 (by kernel_rfl) rfl
open Classical in
noncomputable def eqL {α : Type} (x y : α) : Bool := decide (x = y)
theorem eqL_true {α : Type} {x y : α} (h : x = y) : eqL x y = true := by simp [eqL, h]
theorem eqL_false {α : Type} {x y : α} (h : ¬ x = y) : eqL x y = false := by simp [eqL, h]
abbrev SpansAt (w : World) (A : Option Addr) (xs : List SpaT) : Prop := RowOf spaV 2 zSpa w A xs
theorem sameSpans_calls (A1 A2 : Option Addr) (c1 c2 : Nat) (xs ys : List SpaT) (w : World) (r1 : SpansAt w A1 xs) (r2 : SpansAt w A2 ys) (l1 : xs.length ≤ 1000000) :
  Calls Tryd.prog 17 #[.slice A1 xs.length c1, .slice A2 ys.length c2] w fun e w' => e = .returned (.bool (eqL xs ys)) ∧ Below w.heap.size w w' := by
 refine x_calls (X := XNone) Tryd.func17 rfl rfl rfl ?_
 with_reducible ((repeat apply xc_seq); apply xcR)
 refine xoA ?_
 with_reducible (apply xo_nil; (repeat first | apply xqT | apply xqB | apply xqS))
 cases hl : decide ((xs.length : Int) = ys.length)
 ·have hne : ¬ xs = ys := fun e => (of_decide_eq_false hl) (by rw [e])
  with_reducible ((repeat apply xc_seq); apply xcR)
  refine xoM ?_
  refine xo_len T_ rfl rfl rfl rfl ?_
  refine xoM ?_
  refine xo_len T_ rfl rfl rfl rfl ?_
  refine xo_neq rfl rfl rfl rfl ?_
  refine xo_as (i := 10) rfl (congrArg (fun b => Value.bool !b) hl) ?_
  with_reducible (apply xo_nil; (repeat first | apply xqT | apply xqB | apply xqS); (repeat apply xc_seq))
  refine xc_condT rfl ?_
  with_reducible ((repeat apply xc_seq); apply xcR)
  refine xoA ?_
  with_reducible (apply xo_nil; (repeat first | apply xqT | apply xqB | apply xqS); (repeat apply xc_seq); apply xc_ret; (repeat (first | apply xq_thenR | apply xq_blockR | apply xq_scopeR)))
  exact xq_ret1 rfl rfl fun w' hw => ⟨by rw [eqL_false hne], hw.kx.below⟩
 have hlen : xs.length = ys.length := by have := of_decide_eq_true hl; omega
 with_reducible ((repeat apply xc_seq); apply xcR)
 refine xoM ?_
 refine xo_len T_ rfl rfl rfl rfl ?_
 refine xoM ?_
 refine xo_len T_ rfl rfl rfl rfl ?_
 refine xo_neq rfl rfl rfl rfl ?_
 refine xo_as (i := 10) rfl (congrArg (fun b => Value.bool !b) hl) ?_
 with_reducible (apply xo_nil; (repeat first | apply xqT | apply xqB | apply xqS); (repeat apply xc_seq))
 refine xc_condF rfl ?_
 with_reducible (apply xc_skip; (repeat first | apply xqT | apply xqB | apply xqS); (repeat apply xc_seq); apply xcR)
 refine xoA ?_
 with_reducible (apply xo_nil; (repeat first | apply xqT | apply xqB | apply xqS); (repeat apply xc_seq); apply xc_block)
 refine xc_loop (γ := Nat) (fun k => k ≤ xs.length ∧ xs.take k = ys.take k) (fun k => [(0, .slice A1 xs.length c1), (1, .slice A2 ys.length c2), (5, .int .i64 (k : Int))]) (fun _ => []) (fun k => xs.length - k) 0 ⟨Nat.zero_le _, rfl⟩ ⟨rfl, rfl, rfl, trivial⟩ (List.nil_sublist _) ?_
 rintro k ⟨hk, heq⟩
 with_reducible ((repeat apply xc_seq); apply xcR)
 refine xoM ?_
 refine xoM ?_
 refine xo_len T_ rfl rfl rfl rfl ?_
 refine xo_lss rfl rfl rfl rfl ?_
 with_reducible (apply xo_nil; (repeat first | apply xqT | apply xqB | apply xqS); (repeat apply xc_seq))
 refine xc_cond rfl (fun h => ?_) (fun h => ?_)
 ·have hlt : k < xs.length := by have := of_decide_eq_true h; omega
  obtain ⟨ad1, rfl, q1⟩ := r1 k hlt
  obtain ⟨ad2, rfl, q2⟩ := r2 k (by omega)
  with_reducible (apply xc_skip; (repeat first | apply xqT | apply xqB | apply xqS); (repeat apply xc_seq); apply xc_block)
  refine xc_slots [(0, .slice (some ad1) xs.length c1), (1, .slice (some ad2) ys.length c2), (5, .int .i64 (k : Int))] ⟨rfl, rfl, rfl, trivial⟩ ?_
  with_reducible (repeat apply xc_seq)
  apply xc_drawN
  ·exact T_.mixed
  ·rfl
  ·rfl
  ·rfl
  ·rfl
  ·apply DrawOps.cons
   ·intro τ
    refine xoM ?_
    exact xoF
   apply DrawOps.cons
   ·intro τ
    refine xoM ?_
    exact xoF
   apply DrawOps.cons
   ·intro τ
    refine xo_ia T_ rfl rfl rfl rfl rfl ⟨by omega, by omega⟩ rfl ?_
    exact xoF
   apply DrawOps.cons
   ·intro τ
    refine xo_loadRN T_ rfl rfl rfl q1 rfl rfl ?_
    exact xoF
   apply DrawOps.cons
   ·intro τ
    refine xoM ?_
    exact xoF
   apply DrawOps.cons
   ·intro τ
    refine xoM ?_
    exact xoF
   apply DrawOps.cons
   ·intro τ
    refine xo_ia T_ rfl rfl rfl rfl rfl ⟨by omega, by omega⟩ rfl ?_
    exact xoF
   apply DrawOps.cons
   ·intro τ
    refine xo_loadRN T_ rfl rfl rfl q2 rfl rfl ?_
    exact xoF
   apply DrawOps.cons
   ·intro τ
    refine xo_neqV rfl rfl rfl (fun w => spa_ne _ _ (xs.getD k zSpa) (ys.getD k zSpa) w) rfl ?_
    exact xoF
   exact DrawOps.nil
  ·rfl
  with_reducible ((repeat first | apply xqT | apply xqB | apply xqS); (repeat apply xc_seq))
  refine xc_cond rfl (fun h2 => ?_) (fun h2 => ?_)
  ·have hne : ¬ xs.getD k zSpa = ys.getD k zSpa := fun e => by rw [spaE_iff.2 e] at h2; cases h2
   with_reducible ((repeat apply xc_seq); apply xcR)
   refine xoA ?_
   with_reducible (apply xo_nil; (repeat first | apply xqT | apply xqB | apply xqS); (repeat apply xc_seq); apply xc_ret; (repeat (first | apply xq_thenR | apply xq_blockR | apply xq_scopeR)))
   exact xq_ret1 rfl rfl fun w' hw => ⟨by rw [eqL_false (fun e => hne (by rw [e]))], hw.kx.below⟩
  ·have he : xs.getD k zSpa = ys.getD k zSpa := spaE_iff.1 (by simpa using h2)
   with_reducible (apply xc_skip; (repeat first | apply xqT | apply xqB | apply xqS); (repeat apply xc_seq); apply xcR)
   refine xoM ?_
   refine xo_add rfl rfl rfl (by omega) rfl ?_
   refine xoA ?_
   with_reducible (apply xo_nil; (repeat first | apply xqT | apply xqB | apply xqS))
   exact xq_again _ _ _ _ _ (k + 1) ⟨hlt, take_eq_succ zSpa hlt (by omega) heq he⟩ (by omega) ⟨rfl, rfl, rfl, trivial⟩ (List.nil_sublist _)
 have hge : k = xs.length := by have := of_decide_eq_false h; omega
 have hxy : xs = ys := by rwa [List.take_of_length_le (by omega), List.take_of_length_le (by omega)] at heq
 with_reducible (apply xc_exit; (repeat (first | apply xq_blockX | apply xq_thenE | refine xq_blockE rfl ?_ | apply xq_scopeE)); (repeat first | apply xqT | apply xqB | apply xqS); (repeat apply xc_seq); apply xcR)
 refine xoA ?_
 with_reducible (apply xo_nil; (repeat first | apply xqT | apply xqB | apply xqS); (repeat apply xc_seq); apply xc_ret; (repeat (first | apply xq_thenR | apply xq_blockR | apply xq_scopeR)))
 exact xq_ret1 rfl rfl fun w' hw => ⟨by rw [eqL_true hxy], hw.kx.below⟩
theorem sameSpans_enters : ∀ args w, (callFunc 17 args).run Tryd.prog w = .ok (.enter 17 args) w := enters_of Tryd.func17 (by kernel_rfl) rfl
end Go.Proofs.YtommeljlfkmpjaaDoor
namespace Go.Proofs.YtommeljlfkmpjaaDoor
open Go.RowKit Go.Proofs.YtommeljlfkmpjaaDoorW.PrintWords
def gatL (l : List GatT) : List Value := (l.map gatV).flatten
theorem RO.fld2 {w : World} {X : Nat → Prop} {p : Addr} {cs : List Value} {i j : Nat} {v : Value} (h : RO w X p cs) (hj : cs[i + j]? = some v) : RO w X ((p.add i).add j) [v] := by
 rw [add_add]
 exact RO.fld h hj
theorem WOK.start1 {w : World} {b : Nat} {φ : HP} {o : Obj} (h1 : w.heap[b]? = some o) (h2 : φ o) : WOK w (fun q => q = b) [(b, true, φ)] w := by
 refine ⟨Kx.refl _ w, ?_, by simp, ?_⟩
 ·intro e he
  simp only [List.mem_singleton] at he
  subst he
  exact ⟨o, h1, h2⟩
 ·intro e he _
  simp only [List.mem_singleton] at he
  subst he
  exact .inr rfl
def InN (d : Nat → Int) : Prop := ∀ v, 0 ≤ d v ∧ d v ≤ 1000000
theorem InN.relax {d : Nat → Int} (h : InN d) {e : Edge3} (he : 0 ≤ e.2.2) : InN (relax d e) := fun v => by
 have h1 := h e.1
 have h2 := h e.2.1
 have h3 := h v
 unfold Go.Proofs.YtommeljlfkmpjaaDoor.relax
 split
 ·split <;> omega
 ·split
  ·split <;> omega
  ·exact h3
theorem InN.round {d : Nat → Int} (h : InN d) : ∀ {es : List Edge3}, (∀ e ∈ es, 0 ≤ e.2.2) → InN (roundB es d)
 | [], _ => h
 | e :: es, he => (h.relax (he e List.mem_cons_self)).round (es := es) fun q hq => he q (List.mem_cons_of_mem _ hq)
theorem InN.rounds {d : Nat → Int} (h : InN d) {es : List Edge3} (he : ∀ e ∈ es, 0 ≤ e.2.2) : ∀ k, InN (roundsB es d k)
 | 0 => h
 | k + 1 => (h.rounds he k).round he
theorem InN.start (r : Nat) : InN (startB 1000000 r) := fun v => by unfold startB; split <;> omega
structure MarkR (n : Nat) (m : MarT) : Prop where
 ok : MarkOK m
 room : 0 ≤ m.f2 ∧ m.f2 < n
 other : 0 ≤ m.f3 ∧ m.f3 < n
inductive FG where
 | f0
 | fr (r : Nat)
 | fc (c : Nat)
 | fb (r c : Nat)
 | fs (r c : Nat)
def FG.r : FG → Nat
 | .fr r => r
 | .fb r _ => r
 | .fs r _ => r
 | _ => 0
def FG.c : FG → Nat
 | .fc c => c
 | .fb _ c => c
 | .fs _ c => c
 | _ => 0
def hF (win row : List Value) (η1 : Hp) : FG → Hp
 | .f0 => η1
 | .fr r => (r, true, cel row 3) :: η1
 | .fc c => (c, true, cel [.int .i64 0, .int .i64 0] 55) :: η1
 | .fb r c => (c, true, cel [.int .i64 0, .int .i64 0] 55) :: (r, true, cel row 3) :: η1
 | .fs r c => (c, true, cel win 55) :: (r, true, cel row 3) :: η1
def BlIn (ζ : Hp) (w : World) : Prop := ∀ e ∈ ζ, ∃ o, w.heap[e.1]? = some o ∧ e.2.2 o
theorem WOK.bl_of {w0 : World} {X : Nat → Prop} {ζ η : Hp} {w : World} (h : WOK w0 X η w) (hs : ∀ e ∈ ζ, e ∈ η) : BlIn ζ w := fun e he => h.bl e (hs e he)
theorem intsAt_orow {w : World} {b n cap : Nat} {xs : List Int} {o : Obj} (h : w.heap[b]? = some o) (hr : orow 3 1 n cap (xs.map (.int .i64)) o) (hn : xs.length = n) : IntsAt w (some ⟨b, 0, none⟩) xs := by
 obtain ⟨cur, rfl, h5, h6, h7, h8⟩ := hr
 intro k hk
 refine ⟨_, rfl, ro1 ?_⟩
 rw [Addr.add_lit, show 0 + (k : Int).toNat * szN 0 = k by rw [show szN 0 = 1 from rfl, Int.toNat_natCast]; omega, cell_of_row w b k _ _ _ h, ← Array.getElem?_toList]
 have hx : (xs.map (Value.int .i64))[k]? = some (.int .i64 (xs.getD k 0)) := by
  rw [List.getElem?_map, List.getElem?_eq_getElem hk]
  simp [List.getD_eq_getElem?_getD, List.getElem?_eq_getElem hk]
 rw [← h8, List.getElem?_take] at hx
 split at hx
 ·exact hx
 ·cases hx
theorem intsAt_hp {w : World} {r : RowR} {n : Nat} {xs : List Int} {η1 : Hp} (h : BlIn (hpR 3 1 r n (xs.map (.int .i64)) ++ η1) w) (hn : xs.length = n) (h0 : r = none → n = 0) : IntsAt w (valA r) xs := by
 cases r with
 | none => intro k hk; have := h0 rfl; omega
 | some p =>
  obtain ⟨o, h1, h2⟩ := h (p.1, true, orow 3 1 n p.2 (xs.map (.int .i64))) (List.Mem.head _)
  exact intsAt_orow h1 h2 hn
structure SceneR (w : World) (n : Nat) (E : Int) (A B : Option Addr) (gs : List GatT) (ms : List MarT) : Prop where
 n6 : 1 ≤ n ∧ n ≤ 6
 E6 : 0 ≤ E ∧ E ≤ 600
 G : GatesR n gs
 m8 : ms.length ≤ 8
 mks : ∀ m ∈ ms, MarkR n m
 gates : RowOf gatV 4 zGat w A gs
 marks : RowOf marV 7 zMar w B ms
theorem SceneR.below {w w' : World} {n : Nat} {E : Int} {A B : Option Addr} {gs : List GatT} {ms : List MarT} (h : SceneR w n E A B gs ms) (hb : Below w.heap.size w w') : SceneR w' n E A B gs ms := ⟨h.n6, h.E6, h.G, h.m8, h.mks, h.gates.below hb, h.marks.below hb⟩
theorem intsAt_row {w : World} {r : RowR} {xs : List Int} (h : BlIn (hpR 3 1 r xs.length (xs.map (.int .i64))) w) (h0 : r = none → xs.length = 0) : IntsAt w (valA r) xs := intsAt_hp (η1 := []) (by rw [List.append_nil]; exact h) rfl h0
theorem Wk.len {es : List Edge3} (h60 : ∀ e ∈ es, e.2.2 ≤ 60) {b a : Nat} {p : List Nat} {n : Int} (h : Wk es b a p n) : n ≤ 60 * ((p.length : Int) - 1) := by
 induction h with
 | nil => simp
 | @cons a c p n l h _ ih =>
  have h6 : l ≤ 60 := h.elim (fun q => h60 (a, c, l) q) (fun q => h60 (c, a, l) q)
  simp only [List.length_cons]
  omega
def inS (s : SpaT) (z : Int) : Prop := s.f0 ≤ z ∧ z ≤ s.f1
def Eqv (E : Int) (s t : SpaT) : Prop := (∀ z, inS s z ↔ inS t z) ∧ ∀ z, inS s z → 0 ≤ z ∧ z ≤ E
theorem Eqv.le {E : Int} {s t : SpaT} (h : Eqv E s t) : decide (s.f0 ≤ s.f1) = decide (t.f0 ≤ t.f1) := by
 rw [Bool.eq_iff_iff, decide_eq_true_eq, decide_eq_true_eq]
 have h1 := h.1 s.f0
 have h2 := h.1 t.f0
 unfold inS at h1 h2
 omega
theorem Eqv.eq {E : Int} {s t : SpaT} (h : Eqv E s t) (hle : s.f0 ≤ s.f1) : s = t := by
 have h1 := h.1 s.f0
 have h2 := h.1 s.f1
 have h3 := h.1 t.f0
 have h4 := h.1 t.f1
 unfold inS at h1 h2 h3 h4
 obtain ⟨a, b⟩ := s
 obtain ⟨c, d⟩ := t
 simp only at h1 h2 h3 h4 hle
 have e1 : a = c := by omega
 have e2 : b = d := by omega
 rw [e1, e2]
theorem in_com (x y : SpaT) (z : Int) : inS (comF x y) z ↔ inS x z ∧ inS y z := by
 unfold inS
 rw [show (comF x y).f0 = if x.f0 < y.f0 then y.f0 else x.f0 from rfl, show (comF x y).f1 = if y.f1 < x.f1 then y.f1 else x.f1 from rfl]
 split <;> split <;> omega
theorem Eqv.com {E : Int} {s t x y : SpaT} (h : Eqv E s t) (hx : ∀ z, 0 ≤ z → z ≤ E → (inS x z ↔ inS y z)) : Eqv E (comF s x) (comF t y) := by
 refine ⟨fun z => ?_, fun z hz => h.2 z ((in_com _ _ _).1 hz).1⟩
 rw [in_com, in_com]
 constructor
 ·rintro ⟨h1, h2⟩
  have := h.2 z h1
  exact ⟨(h.1 z).1 h1, (hx z this.1 this.2).1 h2⟩
 ·rintro ⟨h1, h2⟩
  have h1 := (h.1 z).2 h1
  have := h.2 z h1
  exact ⟨h1, (hx z this.1 this.2).2 h2⟩
theorem gates_C {w : World} {b cap : Nat} {gs : List GatT} (hl : gs.length ≤ 1000000) (h : BlIn [(b, true, orow 57 4 gs.length cap (gatL gs))] w) : Kd.C gatK w (some ⟨b, 0, none⟩) gs.length gs := by
 obtain ⟨o, h1, h2⟩ := h _ List.mem_cons_self
 refine C_row (d := gatK) (cells := gs.map gatV) (cap := cap) h1 (e := 57) (by rw [List.length_map]; exact h2) (by simp) (by intro c hc; obtain ⟨x, _, rfl⟩ := List.mem_map.1 hc; rfl) (fun j x c hx hcx => ?_) (by omega)
 rw [List.getElem?_map, hx] at hcx
 obtain rfl := Option.some.inj hcx
 exact k57_mk w x
theorem marks_C {w : World} {b cap : Nat} {ms : List MarT} (hl : ms.length ≤ 1000000) (h : BlIn [(b, true, orow 60 7 ms.length cap (marL ms))] w) : Kd.C marK w (some ⟨b, 0, none⟩) ms.length ms := by
 obtain ⟨o, h1, h2⟩ := h _ List.mem_cons_self
 refine C_row (d := marK) (cells := ms.map marV) (cap := cap) h1 (e := 60) (by rw [List.length_map]; exact h2) (by simp) (by intro c hc; obtain ⟨x, _, rfl⟩ := List.mem_map.1 hc; rfl) (fun j x c hx hcx => ?_) (by omega)
 rw [List.getElem?_map, hx] at hcx
 obtain rfl := Option.some.inj hcx
 exact k60_mk w x
def exG : List GatT := [⟨0, 1, ⟨2, 3⟩⟩, ⟨1, 2, ⟨4, 4⟩⟩]
def exM : List MarT := [⟨1, 1, 2, 0, ⟨10, 12⟩, 0⟩, ⟨2, 2, 0, 0, ⟨4, 5⟩, 0⟩]
def beM : MarT := ⟨3, 6, 0, 1, ⟨0, 0⟩, 0⟩
def meM : MarT := ⟨4, 4, 0, 0, ⟨0, 0⟩, 26⟩
theorem marL_at : ∀ (l : List MarT) (k j : Nat), k < l.length → j < 7 → (marL l)[k * 7 + j]? = (marV (l.getD k zMar))[j]?
 | [], k, _, h, _ => absurd h (by simp)
 | x :: l, 0, j, _, hj => by
  have hx : (marV x).length = 7 := rfl
  rw [marL, List.map_cons, List.flatten_cons, Nat.zero_mul, Nat.zero_add, List.getElem?_append_left (by rw [hx]; exact hj)]
  rfl
 | x :: l, k + 1, j, h, hj => by
  have hx : (marV x).length = 7 := rfl
  have := marL_at l k j (by simpa using h) hj
  rw [marL, List.map_cons, List.flatten_cons, List.getElem?_append_right (by rw [hx]; omega), hx, show (k + 1) * 7 + j - 7 = k * 7 + j by omega]
  exact this
theorem add_two (p : Addr) (a b : Nat) : (p.add a).add b = p.add (a + b) := by
 cases p; by_cases h1 : a = 0 <;> by_cases h2 : b = 0 <;> simp [Addr.add, h1, h2, Nat.add_assoc]
section
variable {P : Program} {ro : Option Nat} {n N : Nat} {ds : List Deferred} {w0 : World} {X : Nat → Prop} {Q : Exit → Act → World → Prop} {σ : Slots} {η : Hp} {ops rest : List Oper} {d : Option Tmp} {ty : TypeId} {pos : String} {aft : Array Edge} {g : Option (Nat × Bool)} {x y : Operand} {t t' : TypeId}
theorem WOK.asRow {b : Nat} {wr : Bool} {cs : List Value} {t : TypeId} {η0 : Hp} {w : World} (sz n : Nat) (hn : cs.length = n * sz) (hm : n ≤ maxLen) (h : WOK w0 X ((b, wr, cel cs t) :: η0) w) : WOK w0 X ((b, wr, orow t sz n n cs) :: η0) w := by
 refine ⟨h.kx, fun e he => ?_, h.nd, fun e he hw => ?_⟩
 ·rcases List.mem_cons.1 he with rfl | he
  ·obtain ⟨o, h1, h2⟩ := h.bl _ List.mem_cons_self
   exact ⟨o, h1, cel_row hn hm h2⟩
  ·exact h.bl _ (List.mem_cons_of_mem _ he)
 ·rcases List.mem_cons.1 he with rfl | he
  ·exact h.ow (b, wr, cel cs t) List.mem_cons_self hw
  ·exact h.ow _ (List.mem_cons_of_mem _ he) hw
theorem xo_asRow {b : Nat} {wr : Bool} {cs : List Value} {t : TypeId} {η0 : Hp} (sz m : Nat) (hn : cs.length = m * sz) (hm : m ≤ maxLen) (h : XO P ro n N ds w0 X Q ops σ ((b, wr, orow t sz m m cs) :: η0) rest) : XO P ro n N ds w0 X Q ops σ ((b, wr, cel cs t) :: η0) rest :=
 fun a w ha hw => h a w ha (hw.asRow sz m hn hm)
theorem xo_catM (l0 l : List MarT) (T : TysR P) {t e : TypeId} {s x : Operand} {z : Value} {by_ c b0 cap0 : Nat} {A : Option Addr} {η0 : Hp} (hg : gS ops σ g = some true) (ht : look t T.el = some e) (hi : look e T.inf = some (z, 7, by_)) (hzs : z.cells.toList.length = 7)
  (hs : ev σ s = some (.slice (some ⟨b0, 0, none⟩) l0.length cap0)) (hx : ev σ x = some (.slice A l.length c)) (hη : η = (b0, true, orow e 7 l0.length cap0 (marL l0)) :: η0) (hA : A = none → l.length = 0) (hnews : ∀ w, WOK w0 X η w → RowOf marV 7 zMar w A l)
  (hb : (l0.length + l.length) * by_ ≤ 140737488355328) (hb0 : Nat.blt 0 by_ = true) (hN : dstOK N d = true)
  (h : ∀ b cap, XO P ro n N ds w0 X Q ops (putS d (.slice (some ⟨b, 0, none⟩) (l0 ++ l).length cap) σ) ((b, true, orow e 7 (l0 ++ l).length cap (marL (l0 ++ l))) :: η0) rest) :
  XO P ro n N ds w0 X Q ops σ η (⟨d, .call { callee := .builtin .append, args := #[s, x], argTypes := #[t, t] }, ty, pos, aft, g⟩ :: rest) := by
 refine xo_appN T (r := some (b0, cap0)) (m := l0.length) (xs := marL l0) (news := marL l) (η0 := η0) hg ht hi hzs rfl hs hx hη (marL_len l0) (marL_len l) hA (fun p hp w hw j u hj => ?_) (fun u hu => by
  obtain ⟨c, hc, hu⟩ := List.mem_flatten.1 hu
  obtain ⟨q, _, rfl⟩ := List.mem_map.1 hc
  simp only [marV, List.mem_cons, List.not_mem_nil, or_false] at hu
  rcases hu with rfl | rfl | rfl | rfl | rfl | rfl | rfl <;> rfl) (fun q => by cases q) hb hb0 hN fun r' hr' => ?_
 ·have hlt := (List.getElem?_eq_some_iff.1 hj).1
  rw [marL_len] at hlt
  have hk : j / 7 < l.length := by omega
  obtain ⟨ad, e1, h1⟩ := hnews w hw _ hk
  rw [hp] at e1
  obtain rfl := Option.some.inj e1
  have h2 := (h1 (j % 7) u (by rw [← marL_at l (j / 7) (j % 7) hk (by omega), show j / 7 * 7 + j % 7 = j by omega]; exact hj)).1
  rw [add_two, show szN 7 = 7 from rfl, show (((j / 7 : Nat) : Int).toNat * 7 + j % 7) = j by omega] at h2
  exact h2
 rcases r' with _ | ⟨b, cap⟩
 ·exact absurd (hr' rfl).1 (by simp)
 ·have := h b cap
  unfold marL at this
  rw [List.length_append, List.map_append, List.flatten_append] at this
  exact this
end
theorem span_calls (lo hi : Int) (w : World) : Calls Tryd.prog 46 #[.int .i64 lo, .int .i64 hi] w fun e w' => e = .returned (.agg #[.int .i64 lo, .int .i64 hi]) ∧ Below w.heap.size w w' := by
 refine x_calls (X := XNone) Tryd.func46 rfl rfl rfl ?_
 with_reducible ((repeat apply xc_seq); apply xcR)
 refine xo_alloc T_ rfl rfl rfl rfl (fun b4 => ?_)
 with_reducible (apply xo_nil; (repeat first | apply xqT | apply xqB | apply xqS); (repeat apply xc_seq); apply xcR)
 refine xoM ?_
 refine xoM ?_
 refine xo_build TB_ rfl rfl rfl rfl rfl ?_
 refine xo_store T_ rfl rfl rfl rfl (by repeat first | exact mH | apply mT | apply mA) rfl rfl rfl rfl (by repeat first | exact Upd.head | apply Upd.tail | apply Upd.app) rfl ?_
 with_reducible (apply xo_nil; (repeat first | apply xqT | apply xqB | apply xqS); (repeat apply xc_seq); apply xc_ret; (repeat (first | apply xq_thenR | apply xq_blockR | apply xq_scopeR)))
 exact xq_retC T_ rfl rfl rfl (by repeat first | exact mH | apply mT | apply mA) rfl fun w' hw => ⟨rfl, hw.kx.below⟩
theorem span_enters : ∀ args w, (callFunc 46 args).run Tryd.prog w = .ok (.enter 46 args) w := enters_of Tryd.func46 (by kernel_rfl) rfl
theorem before_calls (w : World) : Calls Tryd.prog 24 #[] w fun e w' => e = .returned (.agg (marV beM).toArray) ∧ Below w.heap.size w w' := by
 refine x_calls (X := XNone) Tryd.func24 rfl rfl rfl ?_
 with_reducible ((repeat apply xc_seq); apply xcR)
 refine xo_alloc T_ rfl rfl rfl rfl (fun b0 => ?_)
 with_reducible (apply xo_nil; (repeat first | apply xqT | apply xqB | apply xqS); (repeat apply xc_seq); apply xcR)
 refine xo_build TB_ rfl rfl rfl rfl rfl ?_
 refine xo_store T_ rfl rfl rfl rfl (by repeat first | exact mH | apply mT | apply mA) rfl rfl rfl rfl (by repeat first | exact Upd.head | apply Upd.tail | apply Upd.app) rfl ?_
 with_reducible (apply xo_nil; (repeat first | apply xqT | apply xqB | apply xqS); (repeat apply xc_seq); apply xc_ret; (repeat (first | apply xq_thenR | apply xq_blockR | apply xq_scopeR)))
 exact xq_retC T_ rfl rfl rfl (by repeat first | exact mH | apply mT | apply mA) rfl fun w' hw => ⟨rfl, hw.kx.below⟩
theorem before_enters : ∀ args w, (callFunc 24 args).run Tryd.prog w = .ok (.enter 24 args) w := enters_of Tryd.func24 (by kernel_rfl) rfl
theorem melt_calls (w : World) : Calls Tryd.prog 25 #[] w fun e w' => e = .returned (.agg (marV meM).toArray) ∧ Below w.heap.size w w' := by
 refine x_calls (X := XNone) Tryd.func25 rfl rfl rfl ?_
 with_reducible ((repeat apply xc_seq); apply xcR)
 refine xo_alloc T_ rfl rfl rfl rfl (fun b0 => ?_)
 with_reducible (apply xo_nil; (repeat first | apply xqT | apply xqB | apply xqS); (repeat apply xc_seq); apply xcR)
 refine xo_build TB_ rfl rfl rfl rfl rfl ?_
 refine xo_store T_ rfl rfl rfl rfl (by repeat first | exact mH | apply mT | apply mA) rfl rfl rfl rfl (by repeat first | exact Upd.head | apply Upd.tail | apply Upd.app) rfl ?_
 with_reducible (apply xo_nil; (repeat first | apply xqT | apply xqB | apply xqS); (repeat apply xc_seq); apply xc_ret; (repeat (first | apply xq_thenR | apply xq_blockR | apply xq_scopeR)))
 exact xq_retC T_ rfl rfl rfl (by repeat first | exact mH | apply mT | apply mA) rfl fun w' hw => ⟨rfl, hw.kx.below⟩
theorem melt_enters : ∀ args w, (callFunc 25 args).run Tryd.prog w = .ok (.enter 25 args) w := enters_of Tryd.func25 (by kernel_rfl) rfl
set_option maxHeartbeats 4000000 in
theorem lscene_calls (A : Option Addr) (c : Nat) (ls : List MarT) (w : World) (hl : ls.length ≤ 100) (hA : A = none → ls.length = 0) (hM : RowOf marV 7 zMar w A ls) :
  Calls Tryd.prog 22 #[.slice A ls.length c] w fun e w' => ∃ bg bm km, e = .returned (.agg (scnV 3 (some ⟨bg, 0, none⟩) exG.length 2 30 (some ⟨bm, 0, none⟩) (exM ++ ls).length km).toArray) ∧ WOK w XNone [(bm, true, orow 60 7 (exM ++ ls).length km (marL (exM ++ ls))), (bg, true, orow 57 4 exG.length 2 (gatL exG))] w' := by
 refine x_calls (X := XNone) Tryd.func22 rfl rfl rfl ?_
 with_reducible ((repeat apply xc_seq); apply xcR)
 refine xo_alloc T_ rfl rfl rfl rfl (fun b2 => ?_)
 with_reducible (apply xo_nil; (repeat first | apply xqT | apply xqB | apply xqS); (repeat apply xc_seq); apply xcR)
 refine xo_callB (fs := []) (cs := []) rfl rfl rfl span_enters rfl (fun w1 hw1 => span_calls 2 3 w1) ?_
 refine xo_build TB_ rfl rfl rfl rfl rfl ?_
 refine xo_callB (fs := []) (cs := []) rfl rfl rfl span_enters rfl (fun w1 hw1 => span_calls 4 4 w1) ?_
 refine xo_build TB_ rfl rfl rfl rfl rfl ?_
 refine xo_bsG T_ 4 rfl rfl rfl rfl rfl rfl rfl rfl rfl rfl (fun b7 => ?_)
 refine xo_asRow 4 2 rfl (by decide) ?_
 refine xo_callB (fs := []) (cs := []) rfl rfl rfl span_enters rfl (fun w1 hw1 => span_calls 10 12 w1) ?_
 refine xo_build TB_ rfl rfl rfl rfl rfl ?_
 refine xo_callB (fs := []) (cs := []) rfl rfl rfl span_enters rfl (fun w1 hw1 => span_calls 4 5 w1) ?_
 refine xo_build TB_ rfl rfl rfl rfl rfl ?_
 refine xo_bsG T_ 7 rfl rfl rfl rfl rfl rfl rfl rfl rfl rfl (fun b12 => ?_)
 refine xo_asRow 7 2 rfl (by decide) ?_
 refine xoM ?_
 refine xo_catM exM ls TR_ (A := A) rfl rfl rfl rfl rfl rfl rfl hA (fun w1 hw1 => hM.below hw1.kx.below) (by simp [exM]; omega) rfl rfl (fun bm km => ?_)
 refine xo_build TB_ rfl rfl rfl rfl rfl ?_
 refine xo_store T_ rfl rfl rfl rfl (by repeat first | exact mH | apply mT | apply mA) rfl rfl rfl rfl (by repeat first | exact Upd.head | apply Upd.tail | apply Upd.app) rfl ?_
 with_reducible (apply xo_nil; (repeat first | apply xqT | apply xqB | apply xqS); (repeat apply xc_seq); apply xc_ret; (repeat (first | apply xq_thenR | apply xq_blockR | apply xq_scopeR)))
 exact xq_retC T_ rfl rfl rfl (by repeat first | exact mH | apply mT | apply mA) rfl fun w' hw => ⟨b7, bm, km, rfl, hw.sub (by repeat (first | exact List.Sublist.refl _ | apply List.Sublist.cons_cons | apply List.Sublist.cons | exact List.nil_sublist _))⟩
theorem lscene_enters : ∀ args w, (callFunc 22 args).run Tryd.prog w = .ok (.enter 22 args) w := enters_of Tryd.func22 (by kernel_rfl) rfl
theorem spa_inj : ∀ {xs ys : List SpaT}, xs.map (fun s => (s.f0, s.f1)) = ys.map (fun s => (s.f0, s.f1)) → xs = ys
 | [], [], _ => rfl
 | [], _ :: _, h => by simp at h
 | _ :: _, [], h => by simp at h
 | ⟨a, b⟩ :: xs, ⟨c, d⟩ :: ys, h => by
  simp only [List.map_cons, List.cons.injEq, Prod.mk.injEq] at h
  obtain ⟨⟨rfl, rfl⟩, h⟩ := h
  rw [spa_inj h]
theorem x_m0 : minutesL 3 30 exG (exM ++ []) 0 = [⟨5, 6⟩] ∧ minutesC 3 30 exG (exM ++ []) 0 = 0 := ⟨spa_inj (ys := [⟨5, 6⟩]) (by decide +kernel), by decide +kernel⟩
theorem x_m1 : minutesL 3 30 exG (exM ++ []) 1 = [⟨6, 8⟩] ∧ minutesC 3 30 exG (exM ++ []) 1 = 0 := ⟨spa_inj (ys := [⟨6, 8⟩]) (by decide +kernel), by decide +kernel⟩
theorem x_m2 : minutesL 3 30 exG (exM ++ []) 2 = [⟨10, 12⟩] ∧ minutesC 3 30 exG (exM ++ []) 2 = 0 := ⟨spa_inj (ys := [⟨10, 12⟩]) (by decide +kernel), by decide +kernel⟩
theorem x_t06 : truthL 3 30 exG (exM ++ []) 0 6 = [2, 4] ∧ truthC 3 30 exG (exM ++ []) 0 6 = 0 := by decide +kernel
theorem x_n : namedC 3 30 exG (exM ++ []) = 6 := by decide +kernel
theorem x_n3 : namedC 3 30 exG (exM ++ [beM]) = 0 ∧ namedV 3 30 exG (exM ++ [beM]) = 0 := by decide +kernel
theorem x_w1 : whyC 3 30 exG (exM ++ [beM]) 1 = 0 ∧ whyL 3 30 exG (exM ++ [beM]) 1 = [3] := by decide +kernel
theorem x_a : checkF 3 30 exG (exM ++ [beM, meM]) = 0 ∧ againstL 3 30 exG (exM ++ [beM, meM]) = [2, 4] := by decide +kernel
theorem x_r : roomsR 3 30 exG (exM ++ [beM, meM]) = [] := by decide +kernel
theorem x_by (ls : List MarT) (h : ls ∈ [[], [beM], [beM, meM]]) : BytesK (exM ++ ls) := by
 simp only [List.mem_cons, List.not_mem_nil, or_false] at h
 rcases h with rfl | rfl | rfl <;> unfold BytesK <;> decide
theorem own_scene {w0 : World} {X : Nat → Prop} {η : Hp} {w1 : World} (hw1 : WOK w0 X η w1) {bg kg bm km : Nat} {gs : List GatT} {ms : List MarT} (hg : gs.length ≤ 1000000) (hm : ms.length ≤ 1000000) (hk : BytesK ms) (hglob : GlobO w1)
  (m1 : (bg, true, orow 57 4 gs.length kg (gatL gs)) ∈ η) (m2 : (bm, true, orow 60 7 ms.length km (marL ms)) ∈ η) : SceneAt w1 (some ⟨bg, 0, none⟩) (some ⟨bm, 0, none⟩) gs ms :=
 ⟨gates_C hg (hw1.bl_of fun e he => by rw [List.mem_singleton.1 he]; exact m1), marks_C hm (hw1.bl_of fun e he => by rw [List.mem_singleton.1 he]; exact m2), hk, hglob⟩
theorem none_row (w : World) : RowOf marV 7 zMar w none [] := fun k hk => absurd hk (by simp)
theorem spansAt_row {w : World} {r : RowR} {xs : List SpaT} (h : BlIn (hpR 55 2 r xs.length (spaL xs)) w) (h0 : r = none → xs.length = 0) : SpansAt w (valA r) xs := by
 intro k hk
 cases r with
 | none => have := h0 rfl; omega
 | some p =>
  obtain ⟨o, h1, cur, rfl, h2, h3, h4, h5⟩ := h (p.1, true, orow 55 2 xs.length p.2 (spaL xs)) (List.Mem.head _)
  refine ⟨⟨p.1, 0, none⟩, rfl, ro_of fun j v hj => ?_⟩
  have hj2 : j < 2 := (List.getElem?_eq_some_iff.1 hj).1
  rw [add_two, Addr.add_lit]
  rw [show szN 2 = 2 from rfl, show (0 + (((k : Nat) : Int).toNat * 2 + j)) = k * 2 + j by omega]
  rw [cell_of_row w _ _ _ _ _ h1]
  rw [← spaL_at xs k hk j hj2, ← h5, List.getElem?_take_of_lt (by omega), Array.getElem?_toList] at hj
  exact hj
theorem spans1 {w : World} {b : Nat} {x : SpaT} (h : BlIn [(b, true, cel (spaV x) 55)] w) : SpansAt w (some ⟨b, 0, none⟩) [x] := by
 obtain ⟨o, h1, h2⟩ := h _ List.mem_cons_self
 refine spansAt_row (r := some (b, 1)) (xs := [x]) (fun e he => ?_) (fun q => by cases q)
 rw [List.mem_singleton.1 he]
 exact ⟨o, h1, cel_row (by rw [spaL_len]) (by simp [maxLen]) h2⟩
set_option maxHeartbeats 4000000 in
theorem lbegan_calls (room lo hi : Int) (w : World) (hglob : GlobO w) (h : minutesL 3 30 exG (exM ++ []) room = [⟨lo, hi⟩] ∧ minutesC 3 30 exG (exM ++ []) room = 0) :
  Calls Tryd.prog 45 #[.int .i64 room, .int .i64 lo, .int .i64 hi] w fun e w' => e = .returned (.bool true) ∧ Below w.heap.size w w' := by
 refine x_calls (X := XNone) Tryd.func45 rfl rfl rfl ?_
 with_reducible ((repeat apply xc_seq); apply xcR)
 refine xoA ?_
 with_reducible (apply xo_nil; (repeat first | apply xqT | apply xqB | apply xqS); (repeat apply xc_seq); apply xcR)
 refine xo_call (fs := []) (cs := []) rfl rfl rfl lscene_enters rfl (fun w1 hw1 => (lscene_calls none 0 [] w1 (by simp) (fun _ => rfl) (none_row w1)).mono ?_)
 rintro e w2 ⟨bg, bm, km, rfl, hz⟩
 refine ⟨_, [(bm, true, orow 60 7 (exM ++ [] : List MarT).length km (marL (exM ++ [] : List MarT))), (bg, true, orow 57 4 exG.length 2 (gatL exG))], rfl, hw1.join hz (fun e he => by simp only [List.mem_cons, List.not_mem_nil, or_false] at he; rcases he with rfl | rfl <;> rfl), ?_⟩
 clear hz hw1
 refine xoM ?_
 refine xo_call (fs := []) (cs := []) rfl rfl rfl Minutes_enters rfl (fun w1 hw1 => (Minutes_calls 3 30 _ _ 2 km exG (exM ++ []) room w1 (own_scene (kg := 2) hw1 (by decide) (by decide) (x_by [] (by simp)) (hglob.below hw1.kx.below) (by repeat (first | exact List.Mem.head _ | exact List.mem_append_left _ (List.Mem.head _) | apply List.mem_append_right | apply List.Mem.tail)) (by repeat (first | exact List.Mem.head _ | exact List.mem_append_left _ (List.Mem.head _) | apply List.mem_append_right | apply List.Mem.tail)))).mono ?_)
 rintro e w2 ⟨rr, rfl, hrow, hb⟩
 have hrr := hrow.1
 refine ⟨_, _, rfl, hw1.rowZ hb hrow, ?_⟩
 clear hrow hb hw1
 refine xoM ?_
 refine xo_ext rfl rfl rfl rfl ?_
 refine xo_ext rfl rfl rfl rfl ?_
 refine xoA ?_
 refine xoA ?_
 with_reducible (apply xo_nil; (repeat first | apply xqT | apply xqB | apply xqS))
 rw [h.1] at hrr ⊢
 have h7 : rr = none → [(⟨lo, hi⟩ : SpaT)].length = 0 := hrr
 have e16 : decide (minutesC 3 30 exG (exM ++ []) room = 0) = true := decide_eq_true h.2
 have e23 : eqL [(⟨lo, hi⟩ : SpaT)] [⟨lo, hi⟩] = true := eqL_true rfl
 refine xc_slots [(1, .int .i64 lo), (2, .int .i64 hi), (7, .slice (valA rr) [(⟨lo, hi⟩ : SpaT)].length (valC rr)), (8, .int .i64 (minutesC 3 30 exG (exM ++ []) room))] ⟨rfl, rfl, congrArg some (valR_eq h7), rfl, trivial⟩ ?_
 with_reducible ((repeat apply xc_seq); apply xcR)
 refine xoM ?_
 refine xo_eql rfl rfl rfl rfl ?_
 refine xo_as (i := 16) rfl (congrArg Value.bool e16) ?_
 refine xoM ?_
 (first | refine xoN ?_ | refine xoM ?_)
 (first | refine xoN ?_ | refine xoM ?_)
 (first | refine xoN ?_ | refine xoM ?_)
 (first | refine xoN ?_ | refine xo_callB (fs := []) (cs := []) rfl rfl rfl span_enters rfl (fun w1 hw1 => span_calls lo hi w1) ?_)
 (first | refine xoN ?_ | refine xo_bsG T_ 2 rfl rfl rfl rfl rfl rfl rfl rfl rfl rfl (fun b22 => ?_))
 (first | refine xoN ?_ | refine xo_callB (fs := []) (cs := []) rfl rfl rfl sameSpans_enters rfl (fun w1 hw1 => sameSpans_calls (valA rr) (some ⟨b22, 0, none⟩) (valC rr) 1 [⟨lo, hi⟩] [⟨lo, hi⟩] w1 (spansAt_row (hw1.bl_of (fun e he => by repeat (first | exact he | exact List.mem_append_left _ he | apply List.mem_append_right | apply List.Mem.tail))) h7) (spans1 (hw1.bl_of (fun e he => by repeat (first | exact he | exact List.mem_append_left _ he | apply List.mem_append_right | apply List.Mem.tail)))) (by simp)) ?_)
 refine xo_as (i := 23) rfl (congrArg Value.bool e23) ?_
 first | refine xo_pickT rfl rfl rfl rfl ?_ | refine xo_pickF rfl rfl rfl rfl ?_
 refine xoA ?_
 with_reducible (apply xo_nil; (repeat first | apply xqT | apply xqB | apply xqS); (repeat apply xc_seq); apply xc_ret; (repeat (first | apply xq_thenR | apply xq_blockR | apply xq_scopeR)))
 exact xq_ret1 rfl rfl fun w' hw => ⟨rfl, hw.kx.below⟩
theorem lbegan_enters : ∀ args w, (callFunc 45 args).run Tryd.prog w = .ok (.enter 45 args) w := enters_of Tryd.func45 (by kernel_rfl) rfl
theorem marks_cel {w : World} {b : Nat} {ls : List MarT} {cs : List Value} (hl : ls.length ≤ 100) (hcs : cs = marL ls) (h : BlIn [(b, true, cel cs 60)] w) : RowOf marV 7 zMar w (some ⟨b, 0, none⟩) ls := by
 subst hcs
 obtain ⟨o, h1, h2⟩ := h _ List.mem_cons_self
 refine mar_row (marks_C (cap := ls.length) (by omega) fun e he => ?_)
 rw [List.mem_singleton.1 he]
 exact ⟨o, h1, cel_row (by rw [marL_len]) (by simp [maxLen]; omega) h2⟩
theorem ints_cel {w : World} {b : Nat} {xs : List Int} {cs : List Value} (hl : xs.length ≤ 100) (hcs : cs = xs.map (.int .i64)) (h : BlIn [(b, true, cel cs 3)] w) : IntsAt w (some ⟨b, 0, none⟩) xs := by
 subst hcs
 obtain ⟨o, h1, h2⟩ := h _ List.mem_cons_self
 refine intsAt_row (r := some (b, xs.length)) (xs := xs) (fun e he => ?_) (fun q => by cases q)
 rw [List.mem_singleton.1 he]
 exact ⟨o, h1, cel_row (by simp) (by simp [maxLen]; omega) h2⟩
set_option maxHeartbeats 4000000 in
theorem lwhy_calls (room mark : Int) (w : World) (hglob : GlobO w) (h : whyC 3 30 exG (exM ++ [beM]) room = 0 ∧ whyL 3 30 exG (exM ++ [beM]) room = [mark]) :
  Calls Tryd.prog 21 #[.int .i64 room, .int .i64 mark] w fun e w' => e = .returned (.bool true) ∧ Below w.heap.size w w' := by
 refine x_calls (X := XNone) Tryd.func21 rfl rfl rfl ?_
 with_reducible ((repeat apply xc_seq); apply xcR)
 refine xoA ?_
 with_reducible (apply xo_nil; (repeat first | apply xqT | apply xqB | apply xqS); (repeat apply xc_seq); apply xcR)
 refine xo_callB (fs := []) (cs := []) rfl rfl rfl before_enters rfl (fun w1 hw1 => before_calls w1) ?_
 refine xo_bsG T_ 7 rfl rfl rfl rfl rfl rfl rfl rfl rfl rfl (fun b9 => ?_)
 refine xo_call (fs := []) (cs := []) rfl rfl rfl lscene_enters rfl (fun w1 hw1 => (lscene_calls (some ⟨b9, 0, none⟩) 1 [beM] w1 (by simp) (fun q => by cases q) (marks_cel (by simp) rfl (hw1.bl_of (fun e he => by repeat (first | exact he | exact List.mem_append_left _ he | apply List.mem_append_right | apply List.Mem.tail))))).mono ?_)
 rintro e w2 ⟨bg, bm, km, rfl, hz⟩
 refine ⟨_, _, rfl, hw1.join hz (fun e he => by simp only [List.mem_cons, List.not_mem_nil, or_false] at he; rcases he with rfl | rfl <;> rfl), ?_⟩
 clear hz hw1
 refine xoM ?_
 refine xo_call (fs := []) (cs := []) rfl rfl rfl Why_enters rfl (fun w1 hw1 => (Why_calls 3 30 _ _ 2 km exG (exM ++ [beM]) room w1 (own_scene (kg := 2) hw1 (by decide) (by decide) (x_by [beM] (by simp)) (hglob.below hw1.kx.below) (by repeat first | exact mH | apply mT | apply mA) (by repeat first | exact mH | apply mT | apply mA))).mono ?_)
 rintro e w2 ⟨rr, rfl, hrow, hb⟩
 have hrr := hrow.1
 refine ⟨_, _, rfl, hw1.row hb hrow, ?_⟩
 clear hrow hb hw1
 refine xoM ?_
 refine xo_ext rfl rfl rfl rfl ?_
 refine xo_ext rfl rfl rfl rfl ?_
 refine xoA ?_
 refine xoA ?_
 with_reducible (apply xo_nil; (repeat first | apply xqT | apply xqB | apply xqS))
 rw [h.2] at hrr ⊢
 have h7 : rr = none → ([mark] : List Int).length = 0 := fun q => by rw [hrr q]; rfl
 have e16 : decide (whyC 3 30 exG (exM ++ [beM]) room = 0) = true := decide_eq_true h.1
 have e21 : decide ([mark] = [mark]) = true := decide_eq_true rfl
 refine xc_slots [(1, .int .i64 mark), (5, .slice (valA rr) ([mark] : List Int).length (valC rr)), (6, .int .i64 (whyC 3 30 exG (exM ++ [beM]) room))] ⟨rfl, congrArg some (valR_eq h7), rfl, trivial⟩ ?_
 with_reducible ((repeat apply xc_seq); apply xcR)
 refine xoM ?_
 refine xo_eql rfl rfl rfl rfl ?_
 refine xo_as (i := 16) rfl (congrArg Value.bool e16) ?_
 refine xoM ?_
 (first | refine xoN ?_ | refine xoM ?_)
 (first | refine xoN ?_ | refine xoM ?_)
 (first | refine xoN ?_ | refine xo_bs1 T_ rfl rfl rfl rfl rfl rfl rfl rfl (fun b20 => ?_))
 (first | refine xoN ?_ | refine xo_callB (fs := []) (cs := []) rfl rfl rfl sameInts_enters rfl (fun w1 hw1 => sameInts_calls (valA rr) (some ⟨b20, 0, none⟩) (valC rr) 1 [mark] [mark] w1 (intsAt_row (hw1.bl_of (fun e he => by repeat (first | exact he | exact List.mem_append_left _ he | apply List.mem_append_right | apply List.Mem.tail))) h7) (ints_cel (by simp) rfl (hw1.bl_of (fun e he => by repeat (first | exact he | exact List.mem_append_left _ he | apply List.mem_append_right | apply List.Mem.tail)))) (by simp)) ?_)
 refine xo_as (i := 21) rfl (congrArg Value.bool e21) ?_
 first | refine xo_pickT rfl rfl rfl rfl ?_ | refine xo_pickF rfl rfl rfl rfl ?_
 refine xoA ?_
 with_reducible (apply xo_nil; (repeat first | apply xqT | apply xqB | apply xqS); (repeat apply xc_seq); apply xc_ret; (repeat (first | apply xq_thenR | apply xq_blockR | apply xq_scopeR)))
 exact xq_ret1 rfl rfl fun w' hw => ⟨rfl, hw.kx.below⟩
theorem lwhy_enters : ∀ args w, (callFunc 21 args).run Tryd.prog w = .ok (.enter 21 args) w := enters_of Tryd.func21 (by kernel_rfl) rfl
set_option maxHeartbeats 16000000 in
theorem alive_calls (w : World) (hglob : GlobO w) : Calls Tryd.prog 20 #[] w fun e w' => e = .returned (.bool true) ∧ Below w.heap.size w w' := by
 have hsc : ∀ ls : List MarT, ls ∈ [[], [beM], [beM, meM]] → (exM ++ ls).length ≤ 1000000 := fun ls h => by
  simp only [List.mem_cons, List.not_mem_nil, or_false] at h
  rcases h with rfl | rfl | rfl <;> decide
 refine x_calls (X := XNone) Tryd.func20 rfl rfl rfl ?_
 with_reducible ((repeat apply xc_seq); apply xcR)
 refine xoA ?_
 with_reducible (apply xo_nil; (repeat first | apply xqT | apply xqB | apply xqS); (repeat apply xc_seq); apply xcR)
 refine xo_call (fs := []) (cs := []) rfl rfl rfl lscene_enters rfl (fun w1 hw1 => (lscene_calls none 0 [] w1 (by simp) (fun _ => rfl) (none_row w1)).mono ?_)
 rintro e w2 ⟨bg, bm, km, rfl, hz⟩
 refine ⟨_, _, rfl, hw1.join hz (fun e he => by simp only [List.mem_cons, List.not_mem_nil, or_false] at he; rcases he with rfl | rfl <;> rfl), ?_⟩
 clear hz hw1
 refine xo_call (fs := []) (cs := []) rfl rfl rfl Truth_enters rfl (fun w1 hw1 => (Truth_calls 3 30 _ _ 2 km exG (exM ++ []) 0 6 w1 (own_scene (kg := 2) hw1 (by decide) (by decide) (x_by [] (by simp)) (hglob.below hw1.kx.below) (by repeat first | exact mH | apply mT | apply mA) (by repeat first | exact mH | apply mT | apply mA))).mono ?_)
 rw [x_t06.1, x_t06.2]
 rintro e w2 ⟨r1, rfl, hrow, hb⟩
 have h1 := hrow.1
 refine ⟨_, _, rfl, hw1.row hb hrow, ?_⟩
 clear hrow hb hw1
 refine xoM ?_
 refine xo_ext rfl rfl rfl rfl ?_
 refine xo_ext rfl rfl rfl rfl ?_
 refine xoA ?_
 refine xoA ?_
 with_reducible (apply xo_nil; (repeat first | apply xqT | apply xqB | apply xqS))
 have h1 : r1 = none → ([2, 4] : List Int).length = 0 := fun q => by rw [h1 q]; rfl
 refine xc_slots [(0, .bool false), (1, .slice (valA r1) ([2, 4] : List Int).length (valC r1)), (2, .int .i64 0)] ⟨rfl, congrArg some (valR_eq h1), rfl, trivial⟩ ?_
 refine xc_sub (η' := hpR 3 1 r1 ([2, 4] : List Int).length (([2, 4] : List Int).map (.int .i64))) (List.sublist_append_left _ _) ?_
 with_reducible ((repeat apply xc_seq); apply xcR)
 refine xo_call (fs := []) (cs := []) rfl rfl rfl lscene_enters rfl (fun w1 hw1 => (lscene_calls none 0 [] w1 (by simp) (fun _ => rfl) (none_row w1)).mono ?_)
 rintro e w2 ⟨bg, bm, km, rfl, hz⟩
 refine ⟨_, _, rfl, hw1.join hz (fun e he => by simp only [List.mem_cons, List.not_mem_nil, or_false] at he; rcases he with rfl | rfl <;> rfl), ?_⟩
 clear hz hw1
 refine xo_callB (fs := []) (cs := []) rfl rfl rfl Named_enters rfl (fun w1 hw1 => Named_calls 3 30 _ _ 2 km exG (exM ++ []) w1 (own_scene (kg := 2) hw1 (by decide) (by decide) (x_by [] (by simp)) (hglob.below hw1.kx.below) (by repeat first | exact mH | apply mT | apply mA) (by repeat first | exact mH | apply mT | apply mA))) ?_
 refine xoM ?_
 refine xo_ext rfl rfl rfl rfl ?_
 refine xo_ext rfl rfl rfl rfl ?_
 refine xoA ?_
 refine xoA ?_
 with_reducible (apply xo_nil; (repeat first | apply xqT | apply xqB | apply xqS))
 refine xc_slots [(0, .bool false), (1, .slice (valA r1) ([2, 4] : List Int).length (valC r1)), (2, .int .i64 0), (4, .int .i64 (namedC 3 30 exG (exM ++ [])))] ⟨rfl, rfl, rfl, rfl, trivial⟩ ?_
 refine xc_sub (η' := hpR 3 1 r1 ([2, 4] : List Int).length (([2, 4] : List Int).map (.int .i64))) (List.sublist_append_right _ _) ?_
 with_reducible ((repeat apply xc_seq); apply xcR)
 refine xo_callB (fs := []) (cs := []) rfl rfl rfl before_enters rfl (fun w1 hw1 => before_calls w1) ?_
 refine xo_bsG T_ 7 rfl rfl rfl rfl rfl rfl rfl rfl rfl rfl (fun b23 => ?_)
 refine xo_call (fs := []) (cs := []) rfl rfl rfl lscene_enters rfl (fun w1 hw1 => (lscene_calls (some ⟨b23, 0, none⟩) 1 [beM] w1 (by simp) (fun q => by cases q) (marks_cel (by simp) rfl (hw1.bl_of (fun e he => by repeat (first | exact he | exact List.mem_append_left _ he | apply List.mem_append_right | apply List.Mem.tail))))).mono ?_)
 rintro e w2 ⟨bg, bm, km, rfl, hz⟩
 refine ⟨_, _, rfl, hw1.join hz (fun e he => by simp only [List.mem_cons, List.not_mem_nil, or_false] at he; rcases he with rfl | rfl <;> rfl), ?_⟩
 clear hz hw1
 refine xo_callB (fs := []) (cs := []) rfl rfl rfl Named_enters rfl (fun w1 hw1 => Named_calls 3 30 _ _ 2 km exG (exM ++ [beM]) w1 (own_scene (kg := 2) hw1 (by decide) (by decide) (x_by [beM] (by simp)) (hglob.below hw1.kx.below) (by repeat first | exact mH | apply mT | apply mA) (by repeat first | exact mH | apply mT | apply mA))) ?_
 refine xoM ?_
 refine xo_ext rfl rfl rfl rfl ?_
 refine xo_ext rfl rfl rfl rfl ?_
 refine xoA ?_
 refine xoA ?_
 with_reducible (apply xo_nil; (repeat first | apply xqT | apply xqB | apply xqS))
 refine xc_slots [(0, .bool false), (1, .slice (valA r1) ([2, 4] : List Int).length (valC r1)), (2, .int .i64 0), (4, .int .i64 (namedC 3 30 exG (exM ++ []))), (5, .int .i64 (namedV 3 30 exG (exM ++ [beM]))), (6, .int .i64 (namedC 3 30 exG (exM ++ [beM])))] ⟨rfl, rfl, rfl, rfl, rfl, rfl, trivial⟩ ?_
 refine xc_sub (η' := hpR 3 1 r1 ([2, 4] : List Int).length (([2, 4] : List Int).map (.int .i64))) (((List.sublist_cons_self _ _)).trans (List.sublist_append_right _ _)) ?_
 with_reducible ((repeat apply xc_seq); apply xcR)
 refine xo_callB (fs := []) (cs := []) rfl rfl rfl before_enters rfl (fun w1 hw1 => before_calls w1) ?_
 refine xo_callB (fs := []) (cs := []) rfl rfl rfl melt_enters rfl (fun w1 hw1 => melt_calls w1) ?_
 refine xo_bsG T_ 7 rfl rfl rfl rfl rfl rfl rfl rfl rfl rfl (fun b31 => ?_)
 refine xo_call (fs := []) (cs := []) rfl rfl rfl lscene_enters rfl (fun w1 hw1 => (lscene_calls (some ⟨b31, 0, none⟩) 2 [beM, meM] w1 (by simp) (fun q => by cases q) (marks_cel (by simp) rfl (hw1.bl_of (fun e he => by repeat (first | exact he | exact List.mem_append_left _ he | apply List.mem_append_right | apply List.Mem.tail))))).mono ?_)
 rintro e w2 ⟨bg, bm, km, rfl, hz⟩
 refine ⟨_, _, rfl, hw1.join hz (fun e he => by simp only [List.mem_cons, List.not_mem_nil, or_false] at he; rcases he with rfl | rfl <;> rfl), ?_⟩
 clear hz hw1
 refine xo_call (fs := []) (cs := []) rfl rfl rfl Against_enters rfl (fun w1 hw1 => (Against_calls 3 30 _ _ 2 km exG (exM ++ [beM, meM]) w1 (own_scene (kg := 2) hw1 (by decide) (by decide) (x_by [beM, meM] (by simp)) (hglob.below hw1.kx.below) (by repeat first | exact mH | apply mT | apply mA) (by repeat first | exact mH | apply mT | apply mA))).mono ?_)
 rw [x_a.1, x_a.2]
 rintro e w2 ⟨r7, rfl, hrow, hb⟩
 have h7 := hrow.1
 refine ⟨_, _, rfl, hw1.row hb hrow, ?_⟩
 clear hrow hb hw1
 refine xoM ?_
 refine xo_ext rfl rfl rfl rfl ?_
 refine xo_ext rfl rfl rfl rfl ?_
 refine xoA ?_
 refine xoA ?_
 with_reducible (apply xo_nil; (repeat first | apply xqT | apply xqB | apply xqS))
 have h7 : r7 = none → ([2, 4] : List Int).length = 0 := fun q => by rw [h7 q]; rfl
 refine xc_slots [(0, .bool false), (1, .slice (valA r1) ([2, 4] : List Int).length (valC r1)), (2, .int .i64 0), (4, .int .i64 (namedC 3 30 exG (exM ++ []))), (5, .int .i64 (namedV 3 30 exG (exM ++ [beM]))), (6, .int .i64 (namedC 3 30 exG (exM ++ [beM]))), (7, .slice (valA r7) ([2, 4] : List Int).length (valC r7)), (8, .int .i64 0)] ⟨rfl, rfl, rfl, rfl, rfl, rfl, congrArg some (valR_eq h7), rfl, trivial⟩ ?_
 refine xc_sub (η' := hpR 3 1 r7 ([2, 4] : List Int).length (([2, 4] : List Int).map (.int .i64)) ++ hpR 3 1 r1 ([2, 4] : List Int).length (([2, 4] : List Int).map (.int .i64))) (List.Sublist.append (List.Sublist.refl _) (((List.sublist_cons_self _ _)).trans (List.sublist_append_right _ _))) ?_
 with_reducible ((repeat apply xc_seq); apply xcR)
 refine xo_callB (fs := []) (cs := []) rfl rfl rfl before_enters rfl (fun w1 hw1 => before_calls w1) ?_
 refine xo_callB (fs := []) (cs := []) rfl rfl rfl melt_enters rfl (fun w1 hw1 => melt_calls w1) ?_
 refine xo_bsG T_ 7 rfl rfl rfl rfl rfl rfl rfl rfl rfl rfl (fun b39 => ?_)
 refine xo_call (fs := []) (cs := []) rfl rfl rfl lscene_enters rfl (fun w1 hw1 => (lscene_calls (some ⟨b39, 0, none⟩) 2 [beM, meM] w1 (by simp) (fun q => by cases q) (marks_cel (by simp) rfl (hw1.bl_of (fun e he => by repeat (first | exact he | exact List.mem_append_left _ he | apply List.mem_append_right | apply List.Mem.tail))))).mono ?_)
 rintro e w2 ⟨bg, bm, km, rfl, hz⟩
 refine ⟨_, _, rfl, hw1.join hz (fun e he => by simp only [List.mem_cons, List.not_mem_nil, or_false] at he; rcases he with rfl | rfl <;> rfl), ?_⟩
 clear hz hw1
 refine xo_call (fs := []) (cs := []) rfl rfl rfl Rooms_enters rfl (fun w1 hw1 => (Rooms_calls 3 30 _ _ 2 km exG (exM ++ [beM, meM]) w1 (own_scene (kg := 2) hw1 (by decide) (by decide) (x_by [beM, meM] (by simp)) (hglob.below hw1.kx.below) (by repeat first | exact mH | apply mT | apply mA) (by repeat first | exact mH | apply mT | apply mA))).mono ?_)
 rw [x_a.1, x_r]
 rintro e w2 ⟨r9, rfl, hrow, hb⟩
 have h9 := hrow.1
 refine ⟨_, _, rfl, hw1.row hb hrow, ?_⟩
 clear hrow hb hw1
 refine xoM ?_
 refine xo_ext rfl rfl rfl rfl ?_
 refine xo_ext rfl rfl rfl rfl ?_
 refine xoA ?_
 refine xoA ?_
 with_reducible (apply xo_nil; (repeat first | apply xqT | apply xqB | apply xqS))
 have h9 : r9 = none → ([] : List Int).length = 0 := fun q => rfl
 refine xc_slots [(0, .bool false), (1, .slice (valA r1) ([2, 4] : List Int).length (valC r1)), (2, .int .i64 0), (4, .int .i64 (namedC 3 30 exG (exM ++ []))), (5, .int .i64 (namedV 3 30 exG (exM ++ [beM]))), (6, .int .i64 (namedC 3 30 exG (exM ++ [beM]))), (7, .slice (valA r7) ([2, 4] : List Int).length (valC r7)), (8, .int .i64 0), (9, .slice (valA r9) 0 (valC r9)), (10, .int .i64 0)] ⟨rfl, rfl, rfl, rfl, rfl, rfl, rfl, rfl, congrArg some (valR_eq h9), rfl, trivial⟩ ?_
 refine xc_sub (η' := hpR 3 1 r7 ([2, 4] : List Int).length (([2, 4] : List Int).map (.int .i64)) ++ hpR 3 1 r1 ([2, 4] : List Int).length (([2, 4] : List Int).map (.int .i64))) (((List.sublist_cons_self _ _).trans (List.sublist_append_right _ _)).trans (List.sublist_append_right _ _)) ?_
 rw [x_n, x_n3.1, x_n3.2]
 have e58 : decide (([2, 4] : List Int) = [2, 4]) = true := by decide
 with_reducible ((repeat apply xc_seq); apply xcR)
 refine xo_callB (fs := []) (cs := []) rfl rfl rfl lbegan_enters rfl (fun w1 hw1 => lbegan_calls 0 5 6 w1 (hglob.below hw1.kx.below) x_m0) ?_
 refine xoM ?_
 (first | refine xoN ?_ | refine xo_callB (fs := []) (cs := []) rfl rfl rfl lbegan_enters rfl (fun w1 hw1 => lbegan_calls 1 6 8 w1 (hglob.below hw1.kx.below) x_m1) ?_)
 first | refine xo_pickT rfl rfl rfl rfl ?_ | refine xo_pickF rfl rfl rfl rfl ?_
 refine xoM ?_
 (first | refine xoN ?_ | refine xo_callB (fs := []) (cs := []) rfl rfl rfl lbegan_enters rfl (fun w1 hw1 => lbegan_calls 2 10 12 w1 (hglob.below hw1.kx.below) x_m2) ?_)
 first | refine xo_pickT rfl rfl rfl rfl ?_ | refine xo_pickF rfl rfl rfl rfl ?_
 refine xoM ?_
 (first | refine xoN ?_ | refine xoM ?_)
 (first | refine xoN ?_ | refine xo_eql rfl rfl rfl rfl ?_)
 first | refine xo_pickT rfl rfl rfl rfl ?_ | refine xo_pickF rfl rfl rfl rfl ?_
 refine xoM ?_
 (first | refine xoN ?_ | refine xoM ?_)
 (first | refine xoN ?_ | refine xo_bs2 T_ rfl rfl rfl rfl rfl rfl rfl rfl rfl rfl (fun b57 => ?_))
 (first | refine xoN ?_ | refine xo_callB (fs := []) (cs := []) rfl rfl rfl sameInts_enters rfl (fun w1 hw1 => sameInts_calls (valA r1) (some ⟨b57, 0, none⟩) (valC r1) 2 [2, 4] [2, 4] w1 (intsAt_row (hw1.bl_of (fun e he => by repeat (first | exact he | exact List.mem_append_left _ he | apply List.mem_append_right | apply List.Mem.tail))) h1) (ints_cel (by simp) rfl (hw1.bl_of (fun e he => by repeat (first | exact he | exact List.mem_append_left _ he | apply List.mem_append_right | apply List.Mem.tail)))) (by simp)) ?_)
 first | refine xo_pickT rfl rfl rfl rfl ?_ | refine xo_pickF rfl rfl rfl rfl ?_
 refine xoM ?_
 (first | refine xoN ?_ | refine xoM ?_)
 (first | refine xoN ?_ | refine xo_eql rfl rfl rfl rfl ?_)
 first | refine xo_pickT rfl rfl rfl rfl ?_ | refine xo_pickF rfl rfl rfl rfl ?_
 refine xoM ?_
 (first | refine xoN ?_ | refine xoM ?_)
 (first | refine xoN ?_ | refine xo_eql rfl rfl rfl rfl ?_)
 first | refine xo_pickT rfl rfl rfl rfl ?_ | refine xo_pickF rfl rfl rfl rfl ?_
 refine xoM ?_
 (first | refine xoN ?_ | refine xoM ?_)
 (first | refine xoN ?_ | refine xo_eql rfl rfl rfl rfl ?_)
 first | refine xo_pickT rfl rfl rfl rfl ?_ | refine xo_pickF rfl rfl rfl rfl ?_
 refine xoM ?_
 (first | refine xoN ?_ | refine xo_callB (fs := []) (cs := []) rfl rfl rfl lwhy_enters rfl (fun w1 hw1 => lwhy_calls 1 3 w1 (hglob.below hw1.kx.below) x_w1) ?_)
 first | refine xo_pickT rfl rfl rfl rfl ?_ | refine xo_pickF rfl rfl rfl rfl ?_
 refine xoM ?_
 (first | refine xoN ?_ | refine xoM ?_)
 (first | refine xoN ?_ | refine xo_eql rfl rfl rfl rfl ?_)
 first | refine xo_pickT rfl rfl rfl rfl ?_ | refine xo_pickF rfl rfl rfl rfl ?_
 refine xoM ?_
 (first | refine xoN ?_ | refine xoM ?_)
 (first | refine xoN ?_ | refine xo_bs2 T_ rfl rfl rfl rfl rfl rfl rfl rfl rfl rfl (fun b81 => ?_))
 (first | refine xoN ?_ | refine xo_callB (fs := []) (cs := []) rfl rfl rfl sameInts_enters rfl (fun w1 hw1 => sameInts_calls (valA r7) (some ⟨b81, 0, none⟩) (valC r7) 2 [2, 4] [2, 4] w1 (intsAt_row (hw1.bl_of (fun e he => by repeat (first | exact he | exact List.mem_append_left _ he | apply List.mem_append_right | apply List.Mem.tail))) h7) (ints_cel (by simp) rfl (hw1.bl_of (fun e he => by repeat (first | exact he | exact List.mem_append_left _ he | apply List.mem_append_right | apply List.Mem.tail)))) (by simp)) ?_)
 first | refine xo_pickT rfl rfl rfl rfl ?_ | refine xo_pickF rfl rfl rfl rfl ?_
 refine xoM ?_
 (first | refine xoN ?_ | refine xoM ?_)
 (first | refine xoN ?_ | refine xo_eql rfl rfl rfl rfl ?_)
 first | refine xo_pickT rfl rfl rfl rfl ?_ | refine xo_pickF rfl rfl rfl rfl ?_
 refine xoM ?_
 (first | refine xoN ?_ | refine xoM ?_)
 (first | refine xoN ?_ | refine xo_len T_ rfl rfl rfl rfl ?_)
 (first | refine xoN ?_ | refine xo_eql rfl rfl rfl rfl ?_)
 first | refine xo_pickT rfl rfl rfl rfl ?_ | refine xo_pickF rfl rfl rfl rfl ?_
 refine xoA ?_
 with_reducible (apply xo_nil; (repeat first | apply xqT | apply xqB | apply xqS); (repeat apply xc_seq); apply xc_ret; (repeat (first | apply xq_thenR | apply xq_blockR | apply xq_scopeR)))
 exact xq_ret1 rfl rfl fun w' hw => ⟨rfl, hw.kx.below⟩
theorem alive_enters : ∀ args w, (callFunc 20 args).run Tryd.prog w = .ok (.enter 20 args) w := enters_of Tryd.func20 (by kernel_rfl) rfl
def wiG : List GatT := [⟨0, 0, ⟨2, 3⟩⟩, ⟨1, 2, ⟨4, 4⟩⟩]
theorem y_w2 : whyC 3 30 exG (exM ++ [beM]) 2 = 0 ∧ whyL 3 30 exG (exM ++ [beM]) 2 = [3] := by decide +kernel
theorem y_t05 : truthL 3 30 exG (exM ++ []) 0 5 = [2, 4] ∧ truthC 3 30 exG (exM ++ []) 0 5 = 0 := by decide +kernel
theorem y_r : roomsR 3 30 exG (exM ++ []) = [0, 1, 2] ∧ checkF 3 30 exG (exM ++ []) = 0 := by decide +kernel
theorem y_m3 : minutesC 3 30 exG (exM ++ []) 3 = 2 := by decide +kernel
theorem y_t07 : truthC 3 30 exG (exM ++ []) 0 7 = 91 := by decide +kernel
theorem y_w0 : whyC 3 30 exG (exM ++ []) 0 = 8 := by decide +kernel
theorem y_n34 : namedC 3 30 exG (exM ++ [beM, meM]) = 91 := by decide +kernel
theorem y_wn : whyC 3 30 exG (exM ++ []) (-1) = 2 := by decide +kernel
theorem y_a : againstL 3 30 exG (exM ++ []) = [] := by decide +kernel
theorem y_wild : checkF 3 30 wiG (exM ++ []) = 90 := by decide +kernel
set_option maxHeartbeats 40000000 in
theorem originExamples_law (w : World) (hglob : GlobO w) : Calls Tryd.prog 4 #[] w fun e w' => e = .returned (.bool true) ∧ Below w.heap.size w w' := by
 refine x_calls (X := XNone) Tryd.func4 rfl rfl rfl ?_
 with_reducible ((repeat apply xc_seq); apply xcR)
 refine xoA ?_
 with_reducible (apply xo_nil; (repeat first | apply xqT | apply xqB | apply xqS); (repeat apply xc_seq); apply xcR)
 refine xoM ?_
 (first | refine xoN ?_ | refine xo_callB (fs := []) (cs := []) rfl rfl rfl alive_enters rfl (fun w1 hw1 => alive_calls w1 (hglob.below hw1.kx.below)) ?_)
 (first | refine xoN ?_ | refine xo_notOp rfl rfl rfl ?_)
 first | refine xo_pickT rfl rfl rfl rfl ?_ | refine xo_pickF rfl rfl rfl rfl ?_
 refine xoM ?_
 (first | refine xoN ?_ | refine xo_callB (fs := []) (cs := []) rfl rfl rfl lwhy_enters rfl (fun w1 hw1 => lwhy_calls 2 3 w1 (hglob.below hw1.kx.below) y_w2) ?_)
 (first | refine xoN ?_ | refine xo_notOp rfl rfl rfl ?_)
 first | refine xo_pickT rfl rfl rfl rfl ?_ | refine xo_pickF rfl rfl rfl rfl ?_
 with_reducible (apply xo_nil; (repeat first | apply xqT | apply xqB | apply xqS); (repeat apply xc_seq))
 refine xc_condF rfl ?_
 with_reducible (apply xc_skip; (repeat first | apply xqT | apply xqB | apply xqS); (repeat apply xc_seq); apply xcR)
 refine xo_call (fs := []) (cs := []) rfl rfl rfl lscene_enters rfl (fun w1 hw1 => (lscene_calls none 0 [] w1 (by simp) (fun _ => rfl) (none_row w1)).mono ?_)
 rintro e w2 ⟨bg, bm, km, rfl, hz⟩
 refine ⟨_, _, rfl, hw1.join hz (fun e he => by simp only [List.mem_cons, List.not_mem_nil, or_false] at he; rcases he with rfl | rfl <;> rfl), ?_⟩
 clear hz hw1
 refine xo_call (fs := []) (cs := []) rfl rfl rfl Truth_enters rfl (fun w1 hw1 => (Truth_calls 3 30 _ _ 2 km exG (exM ++ []) 0 5 w1 (own_scene (kg := 2) hw1 (by decide) (by decide) (x_by [] (by simp)) (hglob.below hw1.kx.below) (by repeat first | exact mH | apply mT | apply mA) (by repeat first | exact mH | apply mT | apply mA))).mono ?_)
 rw [y_t05.1, y_t05.2]
 rintro e w2 ⟨r1, rfl, hrow, hb⟩
 have hr1 := hrow.1
 refine ⟨_, _, rfl, hw1.row hb hrow, ?_⟩
 clear hrow hb hw1
 refine xoM ?_
 refine xo_ext rfl rfl rfl rfl ?_
 refine xo_ext rfl rfl rfl rfl ?_
 refine xoA ?_
 refine xoA ?_
 with_reducible (apply xo_nil; (repeat first | apply xqT | apply xqB | apply xqS))
 have hr1 : r1 = none → ([2, 4] : List Int).length = 0 := fun q => by rw [hr1 q]; rfl
 refine xc_slots [(1, .slice (valA r1) ([2, 4] : List Int).length (valC r1)), (2, .int .i64 0)] ⟨congrArg some (valR_eq hr1), rfl, trivial⟩ ?_
 refine xc_sub (η' := hpR 3 1 r1 ([2, 4] : List Int).length (([2, 4] : List Int).map (.int .i64))) (List.sublist_append_left _ _) ?_
 with_reducible ((repeat apply xc_seq); apply xcR)
 refine xo_call (fs := []) (cs := []) rfl rfl rfl lscene_enters rfl (fun w1 hw1 => (lscene_calls none 0 [] w1 (by simp) (fun _ => rfl) (none_row w1)).mono ?_)
 rintro e w2 ⟨bg, bm, km, rfl, hz⟩
 refine ⟨_, _, rfl, hw1.join hz (fun e he => by simp only [List.mem_cons, List.not_mem_nil, or_false] at he; rcases he with rfl | rfl <;> rfl), ?_⟩
 clear hz hw1
 refine xo_call (fs := []) (cs := []) rfl rfl rfl Rooms_enters rfl (fun w1 hw1 => (Rooms_calls 3 30 _ _ 2 km exG (exM ++ []) w1 (own_scene (kg := 2) hw1 (by decide) (by decide) (x_by [] (by simp)) (hglob.below hw1.kx.below) (by repeat first | exact mH | apply mT | apply mA) (by repeat first | exact mH | apply mT | apply mA))).mono ?_)
 rw [y_r.1, y_r.2]
 rintro e w2 ⟨r3, rfl, hrow, hb⟩
 have hr3 := hrow.1
 refine ⟨_, _, rfl, hw1.row hb hrow, ?_⟩
 clear hrow hb hw1
 refine xoM ?_
 refine xo_ext rfl rfl rfl rfl ?_
 refine xo_ext rfl rfl rfl rfl ?_
 refine xoA ?_
 refine xoA ?_
 with_reducible (apply xo_nil; (repeat first | apply xqT | apply xqB | apply xqS))
 have hr3 : r3 = none → (intsN [0, 1, 2]).length = 0 := fun q => by rw [hr3 q]; rfl
 refine xc_slots [(1, .slice (valA r1) ([2, 4] : List Int).length (valC r1)), (2, .int .i64 0), (3, .slice (valA r3) (intsN [0, 1, 2]).length (valC r3)), (4, .int .i64 0)] ⟨rfl, rfl, congrArg some (valR_eq (n := (intsN [0, 1, 2]).length) hr3), rfl, trivial⟩ ?_
 have e37 : decide (([2, 4] : List Int) = [2, 4]) = true := decide_eq_true rfl
 have e47 : decide (intsN [0, 1, 2] = ([0, 1, 2] : List Int)) = true := by decide
 with_reducible ((repeat apply xc_seq); apply xcR)
 refine xoM ?_
 refine xo_neq rfl rfl rfl rfl ?_
 refine xoM ?_
 (first | refine xoN ?_ | refine xoM ?_)
 (first | refine xoN ?_ | refine xo_bs2 T_ rfl rfl rfl rfl rfl rfl rfl rfl rfl rfl (fun b36 => ?_))
 (first | refine xoN ?_ | refine xo_callB (fs := []) (cs := []) rfl rfl rfl sameInts_enters rfl (fun w1 hw1 => sameInts_calls (valA r1) (some ⟨b36, 0, none⟩) (valC r1) 2 [2, 4] [2, 4] w1 (intsAt_row (hw1.bl_of (fun e he => by repeat (first | exact he | exact List.mem_append_left _ he | apply List.mem_append_right | apply List.Mem.tail))) hr1) (ints_cel (by simp) rfl (hw1.bl_of (fun e he => by repeat (first | exact he | exact List.mem_append_left _ he | apply List.mem_append_right | apply List.Mem.tail)))) (by simp)) ?_)
 refine xo_as (i := 37) rfl (congrArg Value.bool e37) ?_
 (first | refine xoN ?_ | refine xo_notOp rfl rfl rfl ?_)
 first | refine xo_pickT rfl rfl rfl rfl ?_ | refine xo_pickF rfl rfl rfl rfl ?_
 refine xoM ?_
 (first | refine xoN ?_ | refine xoM ?_)
 (first | refine xoN ?_ | refine xo_neq rfl rfl rfl rfl ?_)
 first | refine xo_pickT rfl rfl rfl rfl ?_ | refine xo_pickF rfl rfl rfl rfl ?_
 refine xoM ?_
 (first | refine xoN ?_ | refine xoM ?_)
 (first | refine xoN ?_ | refine xo_bsG T_ 1 rfl rfl rfl rfl rfl rfl rfl rfl rfl rfl (fun b46 => ?_))
 (first | refine xoN ?_ | refine xo_callB (fs := []) (cs := []) rfl rfl rfl sameInts_enters rfl (fun w1 hw1 => sameInts_calls (valA r3) (some ⟨b46, 0, none⟩) (valC r3) 3 (intsN [0, 1, 2]) [0, 1, 2] w1 (intsAt_row (hw1.bl_of (fun e he => by repeat (first | exact he | exact List.mem_append_left _ he | apply List.mem_append_right | apply List.Mem.tail))) hr3) (ints_cel (by simp) rfl (hw1.bl_of (fun e he => by repeat (first | exact he | exact List.mem_append_left _ he | apply List.mem_append_right | apply List.Mem.tail)))) (by simp [intsN])) ?_)
 refine xo_as (i := 47) rfl (congrArg Value.bool e47) ?_
 (first | refine xoN ?_ | refine xo_notOp rfl rfl rfl ?_)
 first | refine xo_pickT rfl rfl rfl rfl ?_ | refine xo_pickF rfl rfl rfl rfl ?_
 with_reducible (apply xo_nil; (repeat first | apply xqT | apply xqB | apply xqS); (repeat apply xc_seq))
 refine xc_condF rfl ?_
 with_reducible (apply xc_skip; (repeat first | apply xqT | apply xqB | apply xqS))
 refine xc_sub (η' := []) (List.nil_sublist _) ?_
 with_reducible ((repeat apply xc_seq); apply xcR)
 refine xo_call (fs := []) (cs := []) rfl rfl rfl lscene_enters rfl (fun w1 hw1 => (lscene_calls none 0 [] w1 (by simp) (fun _ => rfl) (none_row w1)).mono ?_)
 rintro e w2 ⟨bw, bv, kv, rfl, hz⟩
 refine ⟨_, [(bv, true, orow 60 7 (exM ++ [] : List MarT).length kv (marL (exM ++ [] : List MarT))), (bw, true, orow 57 4 exG.length 2 (gatL exG))], rfl, hw1.join hz (fun e he => by simp only [List.mem_cons, List.not_mem_nil, or_false] at he; rcases he with rfl | rfl <;> rfl), ?_⟩
 clear hz hw1
 refine xo_alloc T_ rfl rfl rfl rfl (fun b5 => ?_)
 refine xo_store T_ rfl rfl rfl rfl (by repeat first | exact mH | apply mT | apply mA) rfl rfl rfl rfl (by repeat first | exact Upd.head | apply Upd.tail | apply Upd.app) rfl ?_
 with_reducible (apply xo_nil; (repeat first | apply xqT | apply xqB | apply xqS))
 refine xc_slots [(5, .pointer (some ⟨b5, 0, none⟩))] ⟨rfl, trivial⟩ ?_
 refine xc_sub (η' := [(b5, true, cel (scnV 3 (some ⟨bw, 0, none⟩) exG.length 2 30 (some ⟨bv, 0, none⟩) (exM ++ [] : List MarT).length kv) 25), (bv, true, orow 60 7 (exM ++ [] : List MarT).length kv (marL (exM ++ [] : List MarT))), (bw, true, orow 57 4 exG.length 2 (gatL exG))]) (List.Sublist.refl _) ?_
 with_reducible ((repeat apply xc_seq); apply xcR)
 refine xo_fa T_ rfl rfl rfl rfl rfl ?_
 refine xo_load0 T_ rfl rfl rfl (by repeat first | exact mH | apply mT | apply mA) rfl rfl ?_
 refine xo_ia T_ (i := 0) rfl rfl rfl rfl rfl ⟨by decide, by decide⟩ rfl ?_
 refine xo_faR T_ rfl rfl rfl rfl rfl ?_
 refine xo_storeZ T_ (b := bw) (k := 1) (η' := [(b5, true, cel (scnV 3 (some ⟨bw, 0, none⟩) wiG.length 2 30 (some ⟨bv, 0, none⟩) (exM ++ [] : List MarT).length kv) 25), (bv, true, orow 60 7 (exM ++ [] : List MarT).length kv (marL (exM ++ [] : List MarT))), (bw, true, orow 57 4 wiG.length 2 (gatL wiG))]) rfl rfl rfl (by rw [add_two, Addr.add_lit]; rfl) rfl (by repeat first | exact mH | apply mT | apply mA) rfl rfl (by decide) (by repeat first | exact Upd.head | apply Upd.tail | apply Upd.app) rfl ?_
 with_reducible (apply xo_nil; (repeat first | apply xqT | apply xqB | apply xqS))
 refine xc_slots [(5, .pointer (some ⟨b5, 0, none⟩))] ⟨rfl, trivial⟩ ?_
 refine xc_sub (η' := [(b5, true, cel (scnV 3 (some ⟨bw, 0, none⟩) wiG.length 2 30 (some ⟨bv, 0, none⟩) (exM ++ [] : List MarT).length kv) 25), (bv, true, orow 60 7 (exM ++ [] : List MarT).length kv (marL (exM ++ [] : List MarT))), (bw, true, orow 57 4 wiG.length 2 (gatL wiG))]) (by repeat (first | exact List.Sublist.refl _ | refine List.Sublist.trans ?_ (List.sublist_append_right _ _) | refine List.Sublist.trans ?_ (List.sublist_cons_self _ _))) ?_
 with_reducible ((repeat apply xc_seq); apply xcR)
 refine xo_call (fs := []) (cs := []) rfl rfl rfl lscene_enters rfl (fun w1 hw1 => (lscene_calls none 0 [] w1 (by simp) (fun _ => rfl) (none_row w1)).mono ?_)
 rintro e w2 ⟨bg, bm, km, rfl, hz⟩
 refine ⟨_, _, rfl, hw1.join hz (fun e he => by simp only [List.mem_cons, List.not_mem_nil, or_false] at he; rcases he with rfl | rfl <;> rfl), ?_⟩
 clear hz hw1
 refine xo_call (fs := []) (cs := []) rfl rfl rfl Minutes_enters rfl (fun w1 hw1 => (Minutes_calls 3 30 _ _ 2 km exG (exM ++ []) 3 w1 (own_scene (kg := 2) hw1 (by decide) (by decide) (x_by [] (by simp)) (hglob.below hw1.kx.below) (by repeat first | exact mH | apply mT | apply mA) (by repeat first | exact mH | apply mT | apply mA))).mono ?_)
 rw [y_m3]
 rintro e w2 ⟨r9, rfl, hrow, hb⟩
 have hr9 := hrow.1
 refine ⟨_, _, rfl, hw1.rowZ hb hrow, ?_⟩
 clear hrow hb hw1
 refine xoM ?_
 refine xo_ext rfl rfl rfl rfl ?_
 refine xo_ext rfl rfl rfl rfl ?_
 refine xoA ?_
 with_reducible (apply xo_nil; (repeat first | apply xqT | apply xqB | apply xqS))
 refine xc_slots [(5, .pointer (some ⟨b5, 0, none⟩)), (2, .int .i64 2)] ⟨rfl, rfl, trivial⟩ ?_
 refine xc_sub (η' := [(b5, true, cel (scnV 3 (some ⟨bw, 0, none⟩) wiG.length 2 30 (some ⟨bv, 0, none⟩) (exM ++ [] : List MarT).length kv) 25), (bv, true, orow 60 7 (exM ++ [] : List MarT).length kv (marL (exM ++ [] : List MarT))), (bw, true, orow 57 4 wiG.length 2 (gatL wiG))]) (by repeat (first | exact List.Sublist.refl _ | refine List.Sublist.trans ?_ (List.sublist_append_right _ _) | refine List.Sublist.trans ?_ (List.sublist_cons_self _ _))) ?_
 with_reducible ((repeat apply xc_seq); apply xcR)
 refine xo_call (fs := []) (cs := []) rfl rfl rfl lscene_enters rfl (fun w1 hw1 => (lscene_calls none 0 [] w1 (by simp) (fun _ => rfl) (none_row w1)).mono ?_)
 rintro e w2 ⟨bg, bm, km, rfl, hz⟩
 refine ⟨_, _, rfl, hw1.join hz (fun e he => by simp only [List.mem_cons, List.not_mem_nil, or_false] at he; rcases he with rfl | rfl <;> rfl), ?_⟩
 clear hz hw1
 refine xo_call (fs := []) (cs := []) rfl rfl rfl Truth_enters rfl (fun w1 hw1 => (Truth_calls 3 30 _ _ 2 km exG (exM ++ []) 0 7 w1 (own_scene (kg := 2) hw1 (by decide) (by decide) (x_by [] (by simp)) (hglob.below hw1.kx.below) (by repeat first | exact mH | apply mT | apply mA) (by repeat first | exact mH | apply mT | apply mA))).mono ?_)
 rw [y_t07]
 rintro e w2 ⟨r10, rfl, hrow, hb⟩
 have hr10 := hrow.1
 refine ⟨_, _, rfl, hw1.row hb hrow, ?_⟩
 clear hrow hb hw1
 refine xoM ?_
 refine xo_ext rfl rfl rfl rfl ?_
 refine xo_ext rfl rfl rfl rfl ?_
 refine xoA ?_
 with_reducible (apply xo_nil; (repeat first | apply xqT | apply xqB | apply xqS))
 refine xc_slots [(5, .pointer (some ⟨b5, 0, none⟩)), (2, .int .i64 2), (4, .int .i64 91)] ⟨rfl, rfl, rfl, trivial⟩ ?_
 refine xc_sub (η' := [(b5, true, cel (scnV 3 (some ⟨bw, 0, none⟩) wiG.length 2 30 (some ⟨bv, 0, none⟩) (exM ++ [] : List MarT).length kv) 25), (bv, true, orow 60 7 (exM ++ [] : List MarT).length kv (marL (exM ++ [] : List MarT))), (bw, true, orow 57 4 wiG.length 2 (gatL wiG))]) (by repeat (first | exact List.Sublist.refl _ | refine List.Sublist.trans ?_ (List.sublist_append_right _ _) | refine List.Sublist.trans ?_ (List.sublist_cons_self _ _))) ?_
 with_reducible ((repeat apply xc_seq); apply xcR)
 refine xo_call (fs := []) (cs := []) rfl rfl rfl lscene_enters rfl (fun w1 hw1 => (lscene_calls none 0 [] w1 (by simp) (fun _ => rfl) (none_row w1)).mono ?_)
 rintro e w2 ⟨bg, bm, km, rfl, hz⟩
 refine ⟨_, _, rfl, hw1.join hz (fun e he => by simp only [List.mem_cons, List.not_mem_nil, or_false] at he; rcases he with rfl | rfl <;> rfl), ?_⟩
 clear hz hw1
 refine xo_call (fs := []) (cs := []) rfl rfl rfl Why_enters rfl (fun w1 hw1 => (Why_calls 3 30 _ _ 2 km exG (exM ++ []) 0 w1 (own_scene (kg := 2) hw1 (by decide) (by decide) (x_by [] (by simp)) (hglob.below hw1.kx.below) (by repeat first | exact mH | apply mT | apply mA) (by repeat first | exact mH | apply mT | apply mA))).mono ?_)
 rw [y_w0]
 rintro e w2 ⟨r11, rfl, hrow, hb⟩
 have hr11 := hrow.1
 refine ⟨_, _, rfl, hw1.row hb hrow, ?_⟩
 clear hrow hb hw1
 refine xoM ?_
 refine xo_ext rfl rfl rfl rfl ?_
 refine xo_ext rfl rfl rfl rfl ?_
 refine xoA ?_
 refine xoA ?_
 with_reducible (apply xo_nil; (repeat first | apply xqT | apply xqB | apply xqS))
 refine xc_slots [(5, .pointer (some ⟨b5, 0, none⟩)), (2, .int .i64 2), (4, .int .i64 91), (7, .int .i64 8)] ⟨rfl, rfl, rfl, rfl, trivial⟩ ?_
 refine xc_sub (η' := [(b5, true, cel (scnV 3 (some ⟨bw, 0, none⟩) wiG.length 2 30 (some ⟨bv, 0, none⟩) (exM ++ [] : List MarT).length kv) 25), (bv, true, orow 60 7 (exM ++ [] : List MarT).length kv (marL (exM ++ [] : List MarT))), (bw, true, orow 57 4 wiG.length 2 (gatL wiG))]) (by repeat (first | exact List.Sublist.refl _ | refine List.Sublist.trans ?_ (List.sublist_append_right _ _) | refine List.Sublist.trans ?_ (List.sublist_cons_self _ _))) ?_
 with_reducible ((repeat apply xc_seq); apply xcR)
 refine xo_callB (fs := []) (cs := []) rfl rfl rfl before_enters rfl (fun w1 hw1 => before_calls w1) ?_
 refine xo_callB (fs := []) (cs := []) rfl rfl rfl melt_enters rfl (fun w1 hw1 => melt_calls w1) ?_
 refine xo_bsG T_ 7 rfl rfl rfl rfl rfl rfl rfl rfl rfl rfl (fun b73 => ?_)
 refine xo_call (fs := []) (cs := []) rfl rfl rfl lscene_enters rfl (fun w1 hw1 => (lscene_calls (some ⟨b73, 0, none⟩) 2 [beM, meM] w1 (by simp) (fun q => by cases q) (marks_cel (by simp) rfl (hw1.bl_of (fun e he => by repeat (first | exact he | exact List.mem_append_left _ he | apply List.mem_append_right | apply List.Mem.tail))))).mono ?_)
 rintro e w2 ⟨bg, bm, km, rfl, hz⟩
 refine ⟨_, _, rfl, hw1.join hz (fun e he => by simp only [List.mem_cons, List.not_mem_nil, or_false] at he; rcases he with rfl | rfl <;> rfl), ?_⟩
 clear hz hw1
 refine xo_callB (fs := []) (cs := []) rfl rfl rfl Named_enters rfl (fun w1 hw1 => by have h := Named_calls 3 30 _ _ 2 km exG (exM ++ [beM, meM]) w1 (own_scene (kg := 2) hw1 (by decide) (by decide) (x_by [beM, meM] (by simp)) (hglob.below hw1.kx.below) (by repeat first | exact mH | apply mT | apply mA) (by repeat first | exact mH | apply mT | apply mA)); rw [y_n34] at h; exact h) ?_
 refine xoM ?_
 refine xo_ext rfl rfl rfl rfl ?_
 refine xo_ext rfl rfl rfl rfl ?_
 refine xoA ?_
 refine xoA ?_
 with_reducible (apply xo_nil; (repeat first | apply xqT | apply xqB | apply xqS))
 refine xc_slots [(5, .pointer (some ⟨b5, 0, none⟩)), (2, .int .i64 2), (4, .int .i64 91), (7, .int .i64 8), (9, .int .i64 91)] ⟨rfl, rfl, rfl, rfl, rfl, trivial⟩ ?_
 refine xc_sub (η' := [(b5, true, cel (scnV 3 (some ⟨bw, 0, none⟩) wiG.length 2 30 (some ⟨bv, 0, none⟩) (exM ++ [] : List MarT).length kv) 25), (bv, true, orow 60 7 (exM ++ [] : List MarT).length kv (marL (exM ++ [] : List MarT))), (bw, true, orow 57 4 wiG.length 2 (gatL wiG))]) (by repeat (first | exact List.Sublist.refl _ | refine List.Sublist.trans ?_ (List.sublist_append_right _ _) | refine List.Sublist.trans ?_ (List.sublist_cons_self _ _))) ?_
 with_reducible ((repeat apply xc_seq); apply xcR)
 refine xo_call (fs := []) (cs := []) rfl rfl rfl lscene_enters rfl (fun w1 hw1 => (lscene_calls none 0 [] w1 (by simp) (fun _ => rfl) (none_row w1)).mono ?_)
 rintro e w2 ⟨bg, bm, km, rfl, hz⟩
 refine ⟨_, _, rfl, hw1.join hz (fun e he => by simp only [List.mem_cons, List.not_mem_nil, or_false] at he; rcases he with rfl | rfl <;> rfl), ?_⟩
 clear hz hw1
 refine xo_call (fs := []) (cs := []) rfl rfl rfl Why_enters rfl (fun w1 hw1 => (Why_calls 3 30 _ _ 2 km exG (exM ++ []) (-1) w1 (own_scene (kg := 2) hw1 (by decide) (by decide) (x_by [] (by simp)) (hglob.below hw1.kx.below) (by repeat first | exact mH | apply mT | apply mA) (by repeat first | exact mH | apply mT | apply mA))).mono ?_)
 rw [y_wn]
 rintro e w2 ⟨r13, rfl, hrow, hb⟩
 have hr13 := hrow.1
 refine ⟨_, _, rfl, hw1.row hb hrow, ?_⟩
 clear hrow hb hw1
 refine xoM ?_
 refine xo_ext rfl rfl rfl rfl ?_
 refine xo_ext rfl rfl rfl rfl ?_
 refine xoA ?_
 refine xoA ?_
 with_reducible (apply xo_nil; (repeat first | apply xqT | apply xqB | apply xqS))
 refine xc_slots [(5, .pointer (some ⟨b5, 0, none⟩)), (2, .int .i64 2), (4, .int .i64 91), (7, .int .i64 8), (9, .int .i64 91), (11, .int .i64 2)] ⟨rfl, rfl, rfl, rfl, rfl, rfl, trivial⟩ ?_
 refine xc_sub (η' := [(b5, true, cel (scnV 3 (some ⟨bw, 0, none⟩) wiG.length 2 30 (some ⟨bv, 0, none⟩) (exM ++ [] : List MarT).length kv) 25), (bv, true, orow 60 7 (exM ++ [] : List MarT).length kv (marL (exM ++ [] : List MarT))), (bw, true, orow 57 4 wiG.length 2 (gatL wiG))]) (by repeat (first | exact List.Sublist.refl _ | refine List.Sublist.trans ?_ (List.sublist_append_right _ _) | refine List.Sublist.trans ?_ (List.sublist_cons_self _ _))) ?_
 with_reducible ((repeat apply xc_seq); apply xcR)
 refine xo_call (fs := []) (cs := []) rfl rfl rfl lscene_enters rfl (fun w1 hw1 => (lscene_calls none 0 [] w1 (by simp) (fun _ => rfl) (none_row w1)).mono ?_)
 rintro e w2 ⟨bg, bm, km, rfl, hz⟩
 refine ⟨_, _, rfl, hw1.join hz (fun e he => by simp only [List.mem_cons, List.not_mem_nil, or_false] at he; rcases he with rfl | rfl <;> rfl), ?_⟩
 clear hz hw1
 refine xo_call (fs := []) (cs := []) rfl rfl rfl Against_enters rfl (fun w1 hw1 => (Against_calls 3 30 _ _ 2 km exG (exM ++ []) w1 (own_scene (kg := 2) hw1 (by decide) (by decide) (x_by [] (by simp)) (hglob.below hw1.kx.below) (by repeat first | exact mH | apply mT | apply mA) (by repeat first | exact mH | apply mT | apply mA))).mono ?_)
 rw [y_a, y_r.2]
 rintro e w2 ⟨r12, rfl, hrow, hb⟩
 have hr12 := hrow.1
 refine ⟨_, _, rfl, hw1.row hb hrow, ?_⟩
 clear hrow hb hw1
 refine xoM ?_
 refine xo_ext rfl rfl rfl rfl ?_
 refine xo_ext rfl rfl rfl rfl ?_
 refine xoA ?_
 refine xoA ?_
 with_reducible (apply xo_nil; (repeat first | apply xqT | apply xqB | apply xqS))
 have hr12 : r12 = none → ([] : List Int).length = 0 := fun _ => rfl
 refine xc_slots [(5, .pointer (some ⟨b5, 0, none⟩)), (2, .int .i64 2), (4, .int .i64 91), (7, .int .i64 8), (9, .int .i64 91), (11, .int .i64 2), (12, .slice (valA r12) ([] : List Int).length (valC r12)), (13, .int .i64 0)] ⟨rfl, rfl, rfl, rfl, rfl, rfl, congrArg some (valR_eq hr12), rfl, trivial⟩ ?_
 refine xc_sub (η' := [(b5, true, cel (scnV 3 (some ⟨bw, 0, none⟩) wiG.length 2 30 (some ⟨bv, 0, none⟩) (exM ++ [] : List MarT).length kv) 25), (bv, true, orow 60 7 (exM ++ [] : List MarT).length kv (marL (exM ++ [] : List MarT))), (bw, true, orow 57 4 wiG.length 2 (gatL wiG))]) (by repeat (first | exact List.Sublist.refl _ | refine List.Sublist.trans ?_ (List.sublist_append_right _ _) | refine List.Sublist.trans ?_ (List.sublist_cons_self _ _))) ?_
 with_reducible ((repeat apply xc_seq); apply xcR)
 refine xoM ?_
 refine xo_eql rfl rfl rfl rfl ?_
 refine xoM ?_
 (first | refine xoN ?_ | refine xoM ?_)
 (first | refine xoN ?_ | refine xo_eql rfl rfl rfl rfl ?_)
 first | refine xo_pickT rfl rfl rfl rfl ?_ | refine xo_pickF rfl rfl rfl rfl ?_
 refine xoM ?_
 (first | refine xoN ?_ | refine xoM ?_)
 (first | refine xoN ?_ | refine xo_eql rfl rfl rfl rfl ?_)
 first | refine xo_pickT rfl rfl rfl rfl ?_ | refine xo_pickF rfl rfl rfl rfl ?_
 refine xoM ?_
 (first | refine xoN ?_ | refine xoM ?_)
 (first | refine xoN ?_ | refine xo_eql rfl rfl rfl rfl ?_)
 first | refine xo_pickT rfl rfl rfl rfl ?_ | refine xo_pickF rfl rfl rfl rfl ?_
 refine xoM ?_
 (first | refine xoN ?_ | refine xoM ?_)
 (first | refine xoN ?_ | refine xo_eql rfl rfl rfl rfl ?_)
 first | refine xo_pickT rfl rfl rfl rfl ?_ | refine xo_pickF rfl rfl rfl rfl ?_
 refine xoM ?_
 (first | refine xoN ?_ | refine xoM ?_)
 (first | refine xoN ?_ | refine xo_eql rfl rfl rfl rfl ?_)
 first | refine xo_pickT rfl rfl rfl rfl ?_ | refine xo_pickF rfl rfl rfl rfl ?_
 refine xoM ?_
 (first | refine xoN ?_ | refine xoM ?_)
 (first | refine xoN ?_ | refine xo_len T_ rfl rfl rfl rfl ?_)
 (first | refine xoN ?_ | refine xo_eql rfl rfl rfl rfl ?_)
 first | refine xo_pickT rfl rfl rfl rfl ?_ | refine xo_pickF rfl rfl rfl rfl ?_
 refine xoM ?_
 (first | refine xoN ?_ | refine xo_loadN T_ (b := b5) (cs := scnV 3 (some ⟨bw, 0, none⟩) wiG.length 2 30 (some ⟨bv, 0, none⟩) (exM ++ [] : List MarT).length kv) rfl rfl rfl (by repeat first | exact mH | apply mT | apply mA) rfl rfl ?_)
 (first | refine xoN ?_ | (refine xo_callB (fs := []) (cs := []) rfl rfl rfl enter_check rfl (fun w1 hw1 => by have h := check_calls 3 30 (some ⟨bw, 0, none⟩) (some ⟨bv, 0, none⟩) 2 kv wiG (exM ++ []) w1 (gates_C (by decide) (hw1.bl_of fun e he => by rw [List.mem_singleton.1 he]; exact (by repeat first | exact mH | apply mT | apply mA))) (marks_C (by decide) (hw1.bl_of fun e he => by rw [List.mem_singleton.1 he]; exact (by repeat first | exact mH | apply mT | apply mA))) (x_by [] (by simp)); rw [y_wild] at h; exact h) ?_))
 (first | refine xoN ?_ | refine xo_eql rfl rfl rfl rfl ?_)
 first | refine xo_pickT rfl rfl rfl rfl ?_ | refine xo_pickF rfl rfl rfl rfl ?_
 refine xoA ?_
 with_reducible (apply xo_nil; (repeat first | apply xqT | apply xqB | apply xqS); (repeat apply xc_seq); apply xc_ret; (repeat (first | apply xq_thenR | apply xq_blockR | apply xq_scopeR)))
 exact xq_ret1 rfl rfl fun w' hw => ⟨rfl, hw.kx.below⟩
end Go.Proofs.YtommeljlfkmpjaaDoor
namespace Go.Proofs.YtommeljlfkmpjaaDoor
open Go.ChangeShapes Go.WideShapes Go.RowKit
def laidL : List (String × DataW Unit) := [("cottonpad/origin.nowhere", Rows.laid_cottonpad_origin_nowhere)]
theorem gNow : Tryd.prog.globalNamed "cottonpad/origin.nowhere" = some 0 := by kernel_rfl
theorem tNow : (Tryd.prog.globals[0]?).map (·.type) = some 55 := by kernel_rfl
theorem door_met (os : Os) (args : Array Value) : laidMetH Tryd.prog laidL ((World.doorLaid Tryd.prog 400 os).forCall (fun _ _ => 0) ⟨#[], args, []⟩).memory :=
 laidMetH_of_parts3 (fuel := 8) (laidMet_of_run' 8 (by kernel_rfl) (by kernel_rfl)) (by kernel_rfl) (by kernel_rfl)
theorem trod_pair {P : Program} {H : Type} {enc : TypeId × Value → H} {w : World} {fuel : Nat} {bb : Bool} {t ta tb : TypeId} {f g : Field} {a b : Value} {d : DataW H} {ps : List MemPlace}
  (ht : P.underlying t = some (.struct #[f, g])) (h1 : f.type = ta) (h2 : f.offset = 0) (h3 : g.type = tb) (h4 : g.offset = 1) (hA : P.cellsOf ta = 1) (hB : P.cellsOf tb = 1)
  (h : DataW.trod enc P w 0 (fun _ => true) bb (fuel + 1) t [a, b] = some (d, ps)) :
  ∃ x y, DataW.trod enc P w 0 (fun _ => true) bb fuel ta [a] = some x ∧ DataW.trod enc P w 0 (fun _ => true) bb fuel tb [b] = some y ∧ d = .agg [x.1, y.1] := by
 unfold DataW.trod at h
 rw [ht] at h
 simp only [List.length_cons, List.length_nil] at h
 split at h
 ·simp only [List.mapM_cons, List.mapM_nil, h1, h2, h3, h4, hA, hB, List.drop_zero, List.take_succ_cons, List.take_zero, List.drop_succ_cons, Option.map_eq_some_iff] at h
  obtain ⟨xs, h, e⟩ := h
  cases hx : DataW.trod enc P w 0 (fun _ => true) bb fuel ta [a] with
  | none => simp [hx] at h
  | some x =>
   cases hy : DataW.trod enc P w 0 (fun _ => true) bb fuel tb [b] with
   | none => simp [hx, hy] at h
   | some y =>
    simp [hx, hy] at h
    subst h
    simp at e
    exact ⟨x, y, rfl, rfl, e.1.symm⟩
 ·simp at h
theorem trod_lenS {P : Program} {H : Type} {enc : TypeId × Value → H} {w : World} {fuel : Nat} {bb : Bool} {t : TypeId} {fs : Array Field} {l : List Value} {x : DataW H × List MemPlace}
  (ht : P.underlying t = some (.struct fs)) (h : DataW.trod enc P w 0 (fun _ => true) bb fuel t l = some x) : l.length = P.cellsOf t := by
 cases fuel with
 | zero => simp [DataW.trod] at h
 | succ m =>
  by_cases hl : l.length = P.cellsOf t
  ·exact hl
  ·exfalso
   unfold DataW.trod at h
   rw [ht] at h
   simp [hl] at h
theorem trod_int {P : Program} {H : Type} {enc : TypeId × Value → H} {w : World} {fuel : Nat} {bb : Bool} {t : TypeId} {k : IntKind} {a : Value} {n : Int} {ps : List MemPlace} (hu : P.underlying t = some (.int k))
  (h : DataW.trod enc P w 0 (fun _ => true) bb fuel t [a] = some (.lit (.int .i64 n), ps)) : a = .int .i64 n := by
 cases fuel with
 | zero => simp [DataW.trod] at h
 | succ fuel =>
  unfold DataW.trod at h
  rw [hu] at h
  split at h <;> simp_all
set_option maxRecDepth 100000 in
theorem glob_of_laid {W : World} (h : laidMetH Tryd.prog laidL W) : GlobO W := by
 have h' : laidMet Tryd.prog laidL W := h
 obtain ⟨ps, ⟨g, t, cs, fuel, p, q, hg, ht, hv, hd, _, _⟩, _, _⟩ := h'
 obtain rfl := Option.some.inj (gNow.symm.trans hg)
 obtain rfl := Option.some.inj (tNow.symm.trans ht)
 have hd' : DataW.trod (fun _ => ()) Tryd.prog W 0 (fun _ => true) false fuel 55 cs.toList = some (.agg [.lit (.int .i64 1073741824), .lit (.int .i64 (-1073741824))], p) := hd
 have hlen : cs.toList.length = 2 := (trod_lenS Tryd.underlying55 hd').trans (by kernel_rfl)
 obtain ⟨l⟩ := cs
 match l, hlen with
 | [a, b], _ =>
  cases fuel with
  | zero => simp [DataW.trod] at hd'
  | succ n =>
   obtain ⟨x, y, hx, hy, e⟩ := trod_pair (ta := 3) (tb := 3) Tryd.underlying55 rfl rfl rfl rfl (by kernel_rfl) (by kernel_rfl) hd'
   simp only [DataW.agg.injEq, List.cons.injEq, and_true] at e
   obtain ⟨x1, x2⟩ := x
   obtain ⟨y1, y2⟩ := y
   simp only at e
   obtain ⟨rfl, rfl⟩ := e
   obtain rfl := trod_int Tryd.underlying3 hx
   obtain rfl := trod_int Tryd.underlying3 hy
   unfold World.var? at hv
   rw [gNow] at hv
   simp only [Option.bind_some] at hv
   cases hh : W.heap[0]? with
   | none => simp [hh] at hv
   | some o =>
    cases o <;> simp [hh] at hv
    subst hv
    refine ro_of fun j v hj => ?_
    rw [Addr.add_lit, Nat.zero_add]
    unfold World.cell?
    rw [hh]
    have hj' : ([.int .i64 1073741824, .int .i64 (-1073741824)] : List Value)[j]? = some v := hj
    simpa using hj'
end Go.Proofs.YtommeljlfkmpjaaDoor
