/- origin: chosen, first, fewest. / origin.fewest: the numbers of the fewest marks of which s -/
import Derived.Test.YtommeljlfkmpjaaGreatDoorPkLawOriginLater8
import Derived.Test.YtommeljlfkmpjaaGreatDoorPkLawOriginLater3
import Derived.Test.YtommeljlfkmpjaaGreatDoorPkLawOriginLater4
set_option linter.unusedVariables false
set_option linter.unusedSimpArgs false
namespace Go.Proofs.YtommeljlfkmpjaaGreatDoor
open Go.RowKit Go.Proofs.YtommeljlfkmpjaaGreatDoorW.PrintWords
section
variable {P : Program} {ro : Option Nat} {n N : Nat} {ds : List Deferred} {w0 : World} {X : Nat → Prop} {Q : Exit → Act → World → Prop} {σ : Slots} {η : Hp} {ops rest : List Oper}
theorem xo_less {η' : Hp} (hs : List.Sublist η' η) (h : XO P ro n N ds w0 X Q ops σ η' rest) : XO P ro n N ds w0 X Q ops σ η rest := fun a w ha hw => h a w ha (hw.sub hs)
theorem xc_anew {c : Code} (h : ∀ w, WOK w0 X η w → XC P ro n N ds w XNone Q σ [] c) : XC P ro n N ds w0 X Q σ η c := fun a w ha hw => h w hw a w ha (WOK.start XNone w)
end
def marL (l : List MarT) : List Value := (l.map marV).flatten
theorem marL_len (l : List MarT) : (marL l).length = l.length * 7 := by
 unfold marL
 rw [flat_len 7 _ (by intro c hc; obtain ⟨x, _, rfl⟩ := List.mem_map.1 hc; rfl), List.length_map]
theorem marL_app (l : List MarT) (x : MarT) : marL (l ++ [x]) = marL l ++ marV x := by simp [marL]
theorem marV_one (x : MarT) : (marV x).all (·.oneCell') = true := rfl
theorem rowOf_orow {w : World} {b cap : Nat} {l : List MarT} {o : Obj} (h : w.heap[b]? = some o) (hr : orow 56 7 l.length cap (marL l) o) : RowOf marV 7 zMar w (some ⟨b, 0, none⟩) l := by
 obtain ⟨cur, rfl, h5, h6, h7, h8⟩ := hr
 intro k hk
 refine ⟨_, rfl, ro_of fun j v hj => ?_⟩
 have hj7 : j < 7 := (List.getElem?_eq_some_iff.1 hj).1
 rw [add_add, Addr.add_lit, Nat.zero_add, cell_of_row w b _ _ _ _ h, ← Array.getElem?_toList]
 have hx : (marL l)[k * 7 + j]? = some v := by
  unfold marL
  rw [flat_at 7 _ k j (by intro c hc; obtain ⟨x, _, rfl⟩ := List.mem_map.1 hc; rfl) hj7, List.getElem?_map, List.getElem?_eq_getElem hk]
  rw [show l.getD k zMar = l[k] by simp [List.getD_eq_getElem?_getD, List.getElem?_eq_getElem hk]] at hj
  simpa using hj
 rw [← h8, List.getElem?_take] at hx
 rw [show (k : Int).toNat * szN 7 + j = k * 7 + j by rw [Int.toNat_natCast]; rfl]
 split at hx
 ·exact hx
 ·cases hx
set_option maxHeartbeats 4000000 in
theorem chosen_calls (bs R : Nat) (E : Int) (gs : List GatT) (B : Option Addr) (c2 : Nat) (ms : List MarT) (s : Nat) (w : World) (hs : SiteOK w bs R E gs B ms.length c2) (hM : RowOf marV 7 zMar w B ms) (hm8 : ms.length ≤ 8) (hs8 : s ≤ 256) :
  Calls Tryz.prog 58 #[.pointer (some ⟨bs, 0, none⟩), .int .i64 (s : Int)] w fun e w' => ∃ r : RowR, e = .returned (valR r (setOf ms s).length) ∧ RowZ 56 7 (setOf ms s).length w.heap.size w' r (marL (setOf ms s)) ∧ Below w.heap.size w w' := by
 obtain ⟨hR6, hE6, hG, hglob, fb, fc, wv, A, c, hS⟩ := hs
 have hsV := hS.site
 refine x_calls (X := XNone) Tryz.func58 rfl rfl rfl ?_
 with_reducible ((repeat apply xc_seq); apply xcR)
 refine xoA ?_
 with_reducible (apply xo_nil; (repeat first | apply xqT | apply xqB | apply xqS); (repeat apply xc_seq); apply xcR)
 refine xoA ?_
 with_reducible (apply xo_nil; (repeat first | apply xqT | apply xqB | apply xqS); (repeat apply xc_seq); apply xcR)
 refine xoM ?_
 refine xo_nilck rfl rfl rfl ?_
 refine xo_fa T_ rfl rfl rfl rfl rfl ?_
 refine xo_fa T_ rfl rfl rfl rfl rfl ?_
 refine xo_loadR0 T_ rfl rfl rfl (hsV.lit (j := 3) rfl) rfl ?_
 refine xo_len T_ rfl rfl rfl rfl ?_
 refine xoM ?_
 with_reducible (apply xo_nil; (repeat first | apply xqT | apply xqB | apply xqS); (repeat apply xc_seq); apply xc_block)
 refine xc_loop (γ := Nat × RowR) (fun q => q.1 ≤ ms.length ∧ (q.2 = none → (chosenL s ms q.1).length = 0)) (fun q => [(1, .int .i64 (s : Int)), (5, valR q.2 (chosenL s ms q.1).length), (12, .slice B ms.length c2), (13, .int .i64 (ms.length : Int)), (14, .int .i64 (q.1 : Int))])
  (fun q => hpR 56 7 q.2 (chosenL s ms q.1).length (marL (chosenL s ms q.1)) ++ []) (fun q => ms.length - q.1) (0, none) ⟨Nat.zero_le _, fun _ => rfl⟩ ⟨rfl, rfl, rfl, rfl, rfl, trivial⟩ (List.nil_sublist _) ?_
 rintro ⟨k, rr⟩ ⟨hk, hrr⟩
 simp only at hk hrr
 have hcl := chosenL_len s ms k
 with_reducible ((repeat apply xc_seq); apply xcR)
 refine xo_lss rfl rfl rfl rfl ?_
 with_reducible (apply xo_nil; (repeat first | apply xqT | apply xqB | apply xqS); (repeat apply xc_seq))
 refine xc_cond rfl (fun h => ?_) (fun h => ?_)
 ·have hlt : k < ms.length := by have := of_decide_eq_true h; omega
  obtain ⟨ad, rfl, hRm⟩ := hM k hlt
  have hst : chosenL s ms (k + 1) = if bitN s k = true then chosenL s ms k ++ [ms.getD k zMar] else chosenL s ms k := rfl
  generalize chosenL s ms k = l at hrr hcl hst ⊢
  generalize ms.getD k zMar = m at hRm hst
  with_reducible (apply xc_skip; (repeat first | apply xqT | apply xqB | apply xqS); (repeat apply xc_seq); apply xc_block; (repeat apply xc_seq); apply xcR)
  refine xoM ?_
  refine xo_ia T_ rfl rfl rfl rfl rfl ⟨by omega, by omega⟩ rfl ?_
  refine xo_loadRN T_ rfl rfl rfl hRm rfl rfl ?_
  refine xo_alloc T_ rfl rfl rfl rfl (fun b7 => ?_)
  refine xoA ?_
  refine xo_store T_ rfl rfl rfl rfl (by repeat first | exact mH | apply mT | apply mA) rfl rfl rfl rfl (by repeat first | exact Upd.head | apply Upd.tail | apply Upd.app) rfl ?_
  with_reducible (apply xo_nil; (repeat first | apply xqT | apply xqB | apply xqS))
  cases hb : bitN s k
  ·rw [hb, if_neg Bool.false_ne_true] at hst
   with_reducible ((repeat apply xc_seq); apply xcR)
   refine xoM ?_
   refine xoM ?_
   refine xo_shr rfl rfl rfl (by omega) rfl ?_
   refine xo_and1 rfl rfl rfl (Nat.lt_of_le_of_lt (Nat.div_le_self _ _) (by omega)) rfl ?_
   refine xo_eql rfl rfl rfl rfl ?_
   refine xo_as (i := 23) rfl (congrArg Value.bool hb) ?_
   with_reducible (apply xo_nil; (repeat first | apply xqT | apply xqB | apply xqS); (repeat apply xc_seq))
   refine xc_condF rfl ?_
   with_reducible (apply xc_skip; (repeat first | apply xqT | apply xqB | apply xqS); (repeat apply xc_seq); apply xcR)
   refine xo_add rfl rfl rfl (by omega) rfl ?_
   refine xoM ?_
   with_reducible (apply xo_nil; (repeat first | apply xqT | apply xqB | apply xqS))
   exact xq_again _ _ _ _ _ (k + 1, rr) ⟨hlt, fun q => by rw [hst]; exact hrr q⟩ (by simp only; omega) ⟨rfl, by rw [hst]; rfl, rfl, rfl, rfl, trivial⟩ (by rw [hst]; exact List.sublist_cons_self _ _)
  ·rw [hb, if_pos rfl] at hst
   with_reducible ((repeat apply xc_seq); apply xcR)
   refine xoM ?_
   refine xoM ?_
   refine xo_shr rfl rfl rfl (by omega) rfl ?_
   refine xo_and1 rfl rfl rfl (Nat.lt_of_le_of_lt (Nat.div_le_self _ _) (by omega)) rfl ?_
   refine xo_eql rfl rfl rfl rfl ?_
   refine xo_as (i := 23) rfl (congrArg Value.bool hb) ?_
   with_reducible (apply xo_nil; (repeat first | apply xqT | apply xqB | apply xqS); (repeat apply xc_seq))
   refine xc_condT rfl ?_
   with_reducible ((repeat apply xc_seq); apply xcR)
   refine xoM ?_
   refine xo_loadN T_ rfl rfl rfl (by repeat first | exact mH | apply mT | apply mA) rfl rfl ?_
   refine xo_bsG T_ 7 rfl rfl rfl rfl rfl rfl rfl rfl rfl rfl (fun b26 => ?_)
   refine xo_less (η' := (b26, true, cel (marV m) 56) :: (hpR 56 7 rr l.length (marL l) ++ [])) (List.Sublist.cons_cons _ (List.sublist_cons_self _ _)) ?_
   refine xo_app TR_ rfl rfl rfl rfl rfl rfl rfl rfl (marL_len l) rfl rfl hrr (by omega) rfl rfl (fun r' hr' => ?_)
   refine xoA ?_
   with_reducible (apply xo_nil; (repeat first | apply xqT | apply xqB | apply xqS); (repeat apply xc_seq); apply xcR)
   refine xo_add rfl rfl rfl (by omega) rfl ?_
   refine xoM ?_
   with_reducible (apply xo_nil; (repeat first | apply xqT | apply xqB | apply xqS))
   exact xq_again _ _ _ _ _ (k + 1, r') ⟨hlt, fun q => absurd q hr'⟩ (by simp only; omega) ⟨rfl, by rw [hst, List.length_append]; rfl, rfl, rfl, rfl, trivial⟩ (by rw [hst, List.length_append, marL_app]; exact List.Sublist.refl _)
 have hge : k = ms.length := by have := of_decide_eq_false h; omega
 subst hge
 with_reducible (apply xc_exit; (repeat (first | apply xq_blockX | apply xq_thenE | refine xq_blockE rfl ?_ | apply xq_scopeE)); (repeat first | apply xqT | apply xqB | apply xqS); (repeat apply xc_seq); apply xcR)
 refine xoM ?_
 refine xoA ?_
 with_reducible (apply xo_nil; (repeat first | apply xqT | apply xqB | apply xqS); (repeat apply xc_seq); apply xc_ret; (repeat (first | apply xq_thenR | apply xq_blockR | apply xq_scopeR)))
 exact xq_ret1 rfl rfl fun w' hw => ⟨rr, rfl, RowZ.of hw hrr, hw.kx.below⟩
theorem chosen_enters : ∀ args w, (callFunc 58 args).run Tryz.prog w = .ok (.enter 58 args) w := enters_of Tryz.func58 (by kernel_rfl) rfl
def AsksS (P : Program) (w : World) (g : Nat) (cs : List Value) (p : List MarT → Bool) (ok : World → SetV → Prop) : Prop := ∀ (x : SetV) (W : World), Below w.heap.size w W → ok W x → Calls P g ([setS x] ++ cs).toArray W fun e W' => e = .returned (.bool (p x.l)) ∧ Below W.heap.size W W'
theorem AsksS.below {P : Program} {w w' : World} {g : Nat} {cs : List Value} {p : List MarT → Bool} {ok : World → SetV → Prop} (h : AsksS P w g cs p ok) (hb : Below w.heap.size w w') : AsksS P w' g cs p ok := fun x W hW hx => h x W (below_step hb hW) hx
def zSet : SetV := ⟨none, 0, []⟩
theorem find_none {p : List MarT → Bool} {ys : List SetV} (h : ∀ j, j < ys.length → p (ys.getD j zSet).l = false) : ys.find? (fun x => p x.l) = none := by
 rw [List.find?_eq_none]
 intro x hx
 obtain ⟨j, hj, rfl⟩ := List.getElem_of_mem hx
 have := h j hj
 rw [show ys.getD j zSet = ys[j] by simp [List.getD_eq_getElem?_getD, List.getElem?_eq_getElem hj]] at this
 rw [this]
 exact Bool.false_ne_true
theorem find_some {p : List MarT → Bool} {ys : List SetV} {k : Nat} (hk : k < ys.length) (h : ∀ j, j < k → p (ys.getD j zSet).l = false) (hp : p (ys.getD k zSet).l = true) : ys.find? (fun x => p x.l) = some (ys.getD k zSet) := by
 have e : ys.take k ++ ys.getD k zSet :: ys.drop (k + 1) = ys := by
  rw [← drop_at ys zSet k hk, List.take_append_drop]
 have h2 : (ys.take k ++ ys.getD k zSet :: ys.drop (k + 1)).find? (fun x => p x.l) = some (ys.getD k zSet) := by
  rw [List.find?_append, List.find?_eq_none.2, List.find?_cons_of_pos (p := fun x : SetV => p x.l) hp, Option.none_or]
  intro x hx
  obtain ⟨j, hj, rfl⟩ := List.getElem_of_mem hx
  rw [List.length_take] at hj
  have := h j (by omega)
  rw [show ys.getD j zSet = ys[j] by simp [List.getD_eq_getElem?_getD, List.getElem?_eq_getElem (show j < ys.length by omega)]] at this
  rw [List.getElem_take, this]
  exact Bool.false_ne_true
 rwa [e] at h2
def SetsAt (w : World) (b : Nat) (ys : List SetV) : Prop := ∀ j, j < ys.length → w.cell? ⟨b, j, none⟩ = some (setS (ys.getD j zSet))
theorem SetsAt.below {w w' : World} {b : Nat} {ys : List SetV} (h : SetsAt w b ys) (hb : Below w.heap.size w w') : SetsAt w' b ys := fun j hj => (Kx.of_below (X := XNone) hb).cell (h j hj) (fun q => q)
theorem SetsAt.ro {w : World} {b : Nat} {ys : List SetV} (h : SetsAt w b ys) {j : Nat} (hj : j < ys.length) : RO w XNone (Addr.add ⟨b, 0, none⟩ ((j : Int).toNat * szN 0)) [setS (ys.getD j zSet)] := by
 refine ro1 ?_
 rw [Addr.add_lit, Nat.zero_add, show (j : Int).toNat * szN 0 = j by simp [szN]]
 exact h j hj
theorem indexS_calls (p : List MarT → Bool) (g : Nat) (cs : List Value) (eg : ∀ args w, (callFunc g args).run Tryz.prog w = .ok (.enter g args) w) (b cap : Nat) (ys : List SetV) (w : World) (ok : World → SetV → Prop) (hok : ∀ x ∈ ys, ∀ W, Below w.heap.size w W → ok W x) (hl : ys.length ≤ 1000000) (hr : SetsAt w b ys) (hp : AsksS Tryz.prog w g cs p ok) :
  Calls Tryz.prog 82 #[.slice (some ⟨b, 0, none⟩) ys.length cap, .func (.func g) #[] cs.toArray] w fun e w' => ((e = .returned (.int .i64 (-1)) ∧ ys.find? (fun x => p x.l) = none) ∨ ∃ k, k < ys.length ∧ e = .returned (.int .i64 (k : Int)) ∧ ys.find? (fun x => p x.l) = some (ys.getD k zSet)) ∧ Below w.heap.size w w' := by
 refine x_calls (X := XNone) Tryz.func82 rfl rfl rfl ?_
 with_reducible ((repeat apply xc_seq); apply xcR)
 refine xoA ?_
 with_reducible (apply xo_nil; (repeat first | apply xqT | apply xqB | apply xqS); (repeat apply xc_seq); apply xcR)
 refine xoM ?_
 refine xo_len T_ rfl rfl rfl rfl ?_
 refine xoM ?_
 with_reducible (apply xo_nil; (repeat first | apply xqT | apply xqB | apply xqS); (repeat apply xc_seq); apply xc_block)
 refine xc_loop (γ := Nat) (fun k => k ≤ ys.length ∧ ∀ j, j < k → p (ys.getD j zSet).l = false) (fun k => [(0, .slice (some ⟨b, 0, none⟩) ys.length cap), (1, .func (.func g) #[] cs.toArray), (7, .int .i64 (ys.length : Int)), (8, .int .i64 (k : Int))]) (fun _ => []) (fun k => ys.length - k) 0
  ⟨Nat.zero_le _, fun j hj => absurd hj (Nat.not_lt_zero _)⟩ ⟨rfl, rfl, rfl, rfl, trivial⟩ (List.nil_sublist _) ?_
 rintro k ⟨hk, hno⟩
 with_reducible ((repeat apply xc_seq); apply xcR)
 refine xo_lss rfl rfl rfl rfl ?_
 with_reducible (apply xo_nil; (repeat first | apply xqT | apply xqB | apply xqS); (repeat apply xc_seq))
 refine xc_cond rfl (fun h => ?_) (fun h => ?_)
 ·have hlt : k < ys.length := by have := of_decide_eq_true h; omega
  have r1 := hr.ro hlt
  with_reducible (apply xc_skip; (repeat first | apply xqT | apply xqB | apply xqS); (repeat apply xc_seq); apply xc_block; (repeat apply xc_seq); apply xcR)
  refine xoM ?_
  refine xoA ?_
  with_reducible (apply xo_nil; (repeat first | apply xqT | apply xqB | apply xqS); (repeat apply xc_seq); apply xcR)
  refine xoM ?_
  refine xoM ?_
  refine xoM ?_
  refine xo_ia T_ rfl rfl rfl rfl rfl ⟨by omega, by omega⟩ rfl ?_
  refine xo_loadR0 T_ rfl rfl rfl r1 rfl ?_
  refine xo_callB (fs := []) rfl rfl rfl eg rfl (fun w1 hw1 => hp (ys.getD k zSet) _ hw1.kx.below (hok _ (getD_mem ys zSet k hlt) _ hw1.kx.below)) ?_
  with_reducible (apply xo_nil; (repeat first | apply xqT | apply xqB | apply xqS); (repeat apply xc_seq))
  refine xc_cond rfl (fun h2 => ?_) (fun h2 => ?_)
  ·with_reducible repeat apply xc_seq
   with_reducible apply xcR
   refine xoM ?_
   refine xoA ?_
   with_reducible (apply xo_nil; (repeat first | apply xqT | apply xqB | apply xqS); (repeat apply xc_seq); apply xc_ret; (repeat (first | apply xq_thenR | apply xq_blockR | apply xq_scopeR)))
   exact (xq_ret1 rfl rfl fun w' hw => ⟨.inr ⟨k, hlt, rfl, find_some hlt hno h2⟩, hw.kx.below⟩)
  ·with_reducible apply xc_skip
   with_reducible ((repeat first | apply xqT | apply xqB | apply xqS); (repeat apply xc_seq); apply xcR)
   refine xo_add rfl rfl rfl (by omega) rfl ?_
   refine xoM ?_
   with_reducible (apply xo_nil; (repeat first | apply xqT | apply xqB | apply xqS))
   refine xq_again _ _ _ _ _ (k + 1) ⟨by omega, fun j hj => ?_⟩ (by omega) ⟨rfl, rfl, rfl, rfl, trivial⟩ (List.nil_sublist _)
   by_cases e : j = k
   ·subst e; exact h2
   ·exact hno j (by omega)
 ·have hge : ¬ k < ys.length := by have := of_decide_eq_false h; omega
  with_reducible (apply xc_exit; (repeat (first | apply xq_blockX | apply xq_thenE | refine xq_blockE rfl ?_ | apply xq_scopeE)); (repeat first | apply xqT | apply xqB | apply xqS); (repeat apply xc_seq); apply xcR)
  refine xoA ?_
  with_reducible (apply xo_nil; (repeat first | apply xqT | apply xqB | apply xqS); (repeat apply xc_seq); apply xc_ret; (repeat (first | apply xq_thenR | apply xq_blockR | apply xq_scopeR)))
  exact xq_ret1 rfl rfl fun w' hw => ⟨.inl ⟨rfl, find_none fun j hj => hno j (by omega)⟩, hw.kx.below⟩
theorem indexS_enters : ∀ args w, (callFunc 82 args).run Tryz.prog w = .ok (.enter 82 args) w := enters_of Tryz.func82 (by kernel_rfl) rfl
theorem first_calls (p : List MarT → Bool) (g : Nat) (cs : List Value) (eg : ∀ args w, (callFunc g args).run Tryz.prog w = .ok (.enter g args) w) (b cap : Nat) (ys : List SetV) (w : World) (ok : World → SetV → Prop) (hok : ∀ x ∈ ys, ∀ W, Below w.heap.size w W → ok W x) (hl : ys.length ≤ 1000000) (hr : SetsAt w b ys) (hp : AsksS Tryz.prog w g cs p ok) :
  Calls Tryz.prog 64 #[.slice (some ⟨b, 0, none⟩) ys.length cap, .func (.func g) #[] cs.toArray] w fun e w' => (∃ t, e = .returned (.tuple #[setS ((ys.find? fun x => p x.l).getD zSet), .bool t])) ∧ Below w.heap.size w w' := by
 refine x_calls (X := XNone) Tryz.func64 rfl rfl rfl ?_
 with_reducible ((repeat apply xc_seq); apply xcR)
 refine xoA ?_
 refine xoA ?_
 with_reducible (apply xo_nil; (repeat first | apply xqT | apply xqB | apply xqS); (repeat apply xc_seq); apply xcR)
 refine xoM ?_
 refine xoM ?_
 refine xo_call (fs := []) (cs := []) rfl rfl rfl indexS_enters rfl (fun w1 hw1 => (indexS_calls p g cs eg b cap ys w1 ok (fun x hx W hW => hok x hx W (below_step hw1.kx.below hW)) hl (hr.below hw1.kx.below) (hp.below hw1.kx.below)).mono ?_)
 rintro e w2 ⟨⟨rfl, hf⟩ | ⟨k, hk, rfl, hf⟩, hb⟩
 rw [hf]
 ·refine ⟨_, _, rfl, hw1.below hb, ?_⟩
  clear hb hw1
  refine xoA ?_
  with_reducible (apply xo_nil; (repeat first | apply xqT | apply xqB | apply xqS); (repeat apply xc_seq); apply xcR)
  refine xoM ?_
  refine xo_geq rfl rfl rfl rfl ?_
  with_reducible (apply xo_nil; (repeat first | apply xqT | apply xqB | apply xqS); (repeat apply xc_seq))
  refine xc_condF rfl ?_
  with_reducible (apply xc_skip; (repeat first | apply xqT | apply xqB | apply xqS); (repeat apply xc_seq); apply xcR)
  refine xoA ?_
  with_reducible (apply xo_nil; (repeat first | apply xqT | apply xqB | apply xqS); (repeat apply xc_seq); apply xcR)
  refine xoM ?_
  refine xoA ?_
  refine xoA ?_
  with_reducible (apply xo_nil; (repeat first | apply xqT | apply xqB | apply xqS); (repeat apply xc_seq); apply xc_ret; (repeat (first | apply xq_thenR | apply xq_blockR | apply xq_scopeR)))
  exact xq_ret2 rfl rfl rfl fun w' hw => ⟨⟨_, rfl⟩, hw.kx.below⟩
 rw [hf]
 refine ⟨_, _, rfl, hw1.below hb, ?_⟩
 clear hb hw1
 refine xoA ?_
 with_reducible (apply xo_nil; (repeat first | apply xqT | apply xqB | apply xqS))
 have r1 := hr.ro hk
 have hd : decide ((0 : Int) ≤ (k : Int)) = true := by simp
 with_reducible ((repeat apply xc_seq); apply xcR)
 refine xoM ?_
 refine xo_geq rfl rfl rfl rfl ?_
 refine xo_as (i := 12) rfl (congrArg Value.bool hd) ?_
 with_reducible (apply xo_nil; (repeat first | apply xqT | apply xqB | apply xqS); (repeat apply xc_seq))
 refine xc_condT rfl ?_
 with_reducible ((repeat apply xc_seq); apply xcR)
 refine xoM ?_
 refine xoM ?_
 refine xo_ia T_ rfl rfl rfl rfl rfl ⟨by omega, by omega⟩ rfl ?_
 refine xo_loadR0 T_ rfl rfl rfl r1 rfl ?_
 refine xoA ?_
 refine xoA ?_
 with_reducible (apply xo_nil; (repeat first | apply xqT | apply xqB | apply xqS); (repeat apply xc_seq); apply xc_ret; (repeat (first | apply xq_thenR | apply xq_blockR | apply xq_scopeR)))
 exact xq_ret2 rfl rfl rfl fun w' hw => ⟨⟨_, rfl⟩, hw.kx.below⟩
theorem first_enters : ∀ args w, (callFunc 64 args).run Tryz.prog w = .ok (.enter 64 args) w := enters_of Tryz.func64 (by kernel_rfl) rfl
abbrev SetW := RowR × List MarT
def toSet (x : SetW) : SetV := ⟨valA x.1, valC x.1, x.2⟩
def haS (x : SetW) : Hp := hpR 56 7 x.1 x.2.length (marL x.2)
def setH (pre : List SetW) : Hp := pre.reverse.flatMap haS
theorem setH_app (pre : List SetW) (x : SetW) : setH (pre ++ [x]) = haS x ++ setH pre := by simp [setH]
def sliceS (x : SetW) : Value := valR x.1 x.2.length
theorem sliceS_eq {x : SetW} (h : x.1 = none → x.2.length = 0) : sliceS x = setS (toSet x) := valR_eq h
def allSets (ms : List MarT) : List (List MarT) := (List.range (2 ^ ms.length)).map (setOf ms)
theorem two8 {n : Nat} (h : n ≤ 8) : 0 < 2 ^ n ∧ 2 ^ n ≤ 256 := ⟨Nat.pow_pos (by omega), Nat.le_trans (Nat.pow_le_pow_right (by omega) h) (by decide)⟩
theorem setRow {w : World} {x : SetW} (hx : x.1 = none → x.2.length = 0) (h : ∀ e ∈ haS x, ∃ o, w.heap[e.1]? = some o ∧ e.2.2 o) : RowOf marV 7 zMar w (valA x.1) x.2 := by
 obtain ⟨r, l⟩ := x
 cases r with
 | none =>
  have h0 : l.length = 0 := hx rfl
  intro k hk
  have h1 : k < l.length := hk
  omega
 | some p =>
  obtain ⟨o, h1, h2⟩ := h (p.1, true, orow 56 7 l.length p.2 (marL l)) (List.Mem.head _)
  exact rowOf_orow h1 h2
theorem haS_mem {pre : List SetW} {x : SetW} (hx : x ∈ pre) {e : Nat × Bool × HP} (he : e ∈ haS x) : e ∈ setH pre := List.mem_flatMap.2 ⟨x, List.mem_reverse.2 hx, he⟩
theorem setsAt_of {w : World} {b cap : Nat} {ys : List SetV} {o : Obj} (h : w.heap[b]? = some o) (hr : orow 23 1 ys.length cap (ys.map setS) o) : SetsAt w b ys := by
 obtain ⟨cur, rfl, h5, h6, h7, h8⟩ := hr
 rw [Nat.mul_one] at h8
 intro j hj
 rw [cell_of_row w b j _ _ _ h, ← Array.getElem?_toList]
 have hx : (ys.map setS)[j]? = some (setS (ys.getD j zSet)) := by
  rw [List.getElem?_map, List.getElem?_eq_getElem hj]
  simp [List.getD_eq_getElem?_getD, List.getElem?_eq_getElem hj]
 rw [← h8, List.getElem?_take_of_lt hj] at hx
 exact hx
def okM (ms : List MarT) (W : World) (x : SetV) : Prop := (RowOf marV 7 zMar W x.A x.l ∧ ∀ m ∈ x.l, m ∈ ms) ∧ x.l.length ≤ 8
set_option maxHeartbeats 40000000 in
theorem fewest_calls (p : List MarT → Bool) (g : Nat) (cs : List Value) (eg : ∀ args w, (callFunc g args).run Tryz.prog w = .ok (.enter g args) w) (bs R : Nat) (E : Int) (gs : List GatT) (B : Option Addr) (c2 : Nat) (ms : List MarT) (w : World) (hs : SiteOK w bs R E gs B ms.length c2) (hM : RowOf marV 7 zMar w B ms) (hms : IdsOK ms)
  (hp : AsksS Tryz.prog w g cs p (okM ms)) :
  Calls Tryz.prog 37 #[.pointer (some ⟨bs, 0, none⟩), .func (.func g) #[] cs.toArray] w fun e w' => ∃ r : RowR, e = .returned (valR r (fewestL p (allSets ms)).length) ∧ RowAt 3 w.heap.size w' r (fewestL p (allSets ms)) ∧ Below w.heap.size w w' := by
 have hm8 := hms.1
 have h256 := two8 hm8
 have hsite := hs
 obtain ⟨hR6, hE6, hG, hglob, fb, fc, wv, A, c, hS⟩ := hs
 have hsV := hS.site
 refine x_calls (X := XNone) Tryz.func37 rfl rfl rfl ?_
 with_reducible ((repeat apply xc_seq); apply xcR)
 refine xoA ?_
 with_reducible (apply xo_nil; (repeat first | apply xqT | apply xqB | apply xqS); (repeat apply xc_seq); apply xcR)
 refine xoA ?_
 with_reducible (apply xo_nil; (repeat first | apply xqT | apply xqB | apply xqS); (repeat apply xc_seq); apply xcR)
 refine xoM ?_
 refine xo_nilck rfl rfl rfl ?_
 refine xo_fa T_ rfl rfl rfl rfl rfl ?_
 refine xo_fa T_ rfl rfl rfl rfl rfl ?_
 refine xo_loadR0 T_ rfl rfl rfl (hsV.lit (j := 3) rfl) rfl ?_
 refine xo_len T_ rfl rfl rfl rfl ?_
 refine xo_shl1 rfl rfl rfl (by omega) rfl ?_
 refine xoM ?_
 with_reducible (apply xo_nil; (repeat first | apply xqT | apply xqB | apply xqS); (repeat apply xc_seq); apply xc_block)
 refine xc_loop (γ := List SetW × RowR) (fun q => q.1.length ≤ 2 ^ ms.length ∧ q.1.map (·.2) = (List.range q.1.length).map (setOf ms) ∧ (∀ x ∈ q.1, x.1 = none → x.2.length = 0) ∧ (q.2 = none → q.1.length = 0)) (fun q => [(0, .pointer (some ⟨bs, 0, none⟩)), (1, .func (.func g) #[] cs.toArray), (5, valR q.2 q.1.length), (19, .int .i64 ((2 ^ ms.length : Nat) : Int)), (20, .int .i64 (q.1.length : Int))])
  (fun q => hpR 23 1 q.2 q.1.length (q.1.map sliceS) ++ setH q.1) (fun q => 2 ^ ms.length - q.1.length) ([], none) ⟨Nat.zero_le _, rfl, (fun x hx => by cases hx), fun _ => rfl⟩ ⟨rfl, rfl, rfl, rfl, rfl, trivial⟩ (List.nil_sublist _) ?_
 rintro ⟨pre, rr⟩ ⟨hk, hsets, hnn, hrr⟩
 have hk : pre.length ≤ 2 ^ ms.length := hk
 have hsets : pre.map (·.2) = (List.range pre.length).map (setOf ms) := hsets
 have hnn : ∀ x ∈ pre, x.1 = none → x.2.length = 0 := hnn
 have hrr : rr = none → pre.length = 0 := hrr
 with_reducible ((repeat apply xc_seq); apply xcR)
 refine xo_lss rfl rfl rfl rfl ?_
 with_reducible (apply xo_nil; (repeat first | apply xqT | apply xqB | apply xqS); (repeat apply xc_seq))
 refine xc_cond rfl (fun h => ?_) (fun h => ?_)
 ·have hlt : pre.length < 2 ^ ms.length := by
   have h' : ((pre.length : Nat) : Int) < ((2 ^ ms.length : Nat) : Int) := of_decide_eq_true h
   omega
  with_reducible (apply xc_skip; (repeat first | apply xqT | apply xqB | apply xqS); (repeat apply xc_seq); apply xc_block; (repeat apply xc_seq); apply xcR)
  refine xoM ?_
  refine xoA ?_
  with_reducible (apply xo_nil; (repeat first | apply xqT | apply xqB | apply xqS); (repeat apply xc_seq); apply xcR)
  refine xoM ?_
  refine xoM ?_
  refine xoM ?_
  refine xo_call (fs := []) (cs := []) rfl rfl rfl chosen_enters rfl (fun w1 hw1 => (chosen_calls bs R E gs B c2 ms pre.length w1 (hsite.below hw1.kx.below) (hM.below hw1.kx.below) hm8 (by omega)).mono ?_)
  rintro e w2 ⟨r, rfl, hrw, hb⟩
  have h11 := hrw.1
  refine ⟨_, _, rfl, hw1.rowZ hb hrw, ?_⟩
  clear hrw hb hw1
  refine xo_bs1 T_ rfl rfl rfl rfl rfl rfl (by cases r <;> rfl) rfl (fun b27 => ?_)
  refine xo_perm ((List.perm_append_comm_assoc _ _ _).cons _) ?_
  refine xo_app TR_ rfl rfl rfl rfl rfl rfl rfl rfl (by simp) rfl (by cases r <;> rfl) hrr (by omega) rfl rfl (fun r' hr' => ?_)
  refine xoA ?_
  with_reducible (apply xo_nil; (repeat first | apply xqT | apply xqB | apply xqS); (repeat apply xc_seq); apply xcR)
  refine xo_add rfl rfl rfl (by omega) rfl ?_
  refine xoM ?_
  with_reducible (apply xo_nil; (repeat first | apply xqT | apply xqB | apply xqS))
  refine xq_again _ _ _ _ _ (pre ++ [(r, setOf ms pre.length)], r') ⟨by simp; omega, ?_, fun x hx => ?_, fun q => absurd q hr'⟩ (by simp; omega) ⟨rfl, rfl, by simp only [List.length_append, List.length_singleton]; rfl, rfl, by simp only [List.length_append, List.length_singleton]; rfl, trivial⟩ ?_
  ·simp only [List.length_append, List.length_singleton, List.range_succ, List.map_append, hsets, List.map_cons, List.map_nil]
  ·rcases List.mem_append.1 hx with hx | hx
   ·exact hnn x hx
   ·rw [List.mem_singleton.1 hx]; exact h11
  ·rw [setH_app, List.map_append]
   simp only [List.length_append, List.length_singleton]
   exact List.Sublist.refl _
 have hge : pre.length = 2 ^ ms.length := by
  have h' : ¬ ((pre.length : Nat) : Int) < ((2 ^ ms.length : Nat) : Int) := of_decide_eq_false h
  omega
 rcases rr with _ | ⟨b, cap⟩
 ·have := hrr rfl
  omega
 have hids : ∀ x ∈ pre, IdsOK x.2 ∧ ∀ m ∈ x.2, m ∈ ms := fun x hx => by
  have h1 : x.2 ∈ pre.map (·.2) := List.mem_map.2 ⟨x, hx, rfl⟩
  rw [hsets] at h1
  obtain ⟨k, _, e⟩ := List.mem_map.1 h1
  have h2 : ∀ m ∈ x.2, m ∈ ms := fun m hm => chosenL_mem k ms ms.length (Nat.le_refl _) m (by rw [← e] at hm; exact hm)
  refine ⟨⟨?_, fun m hm => hms.2 m (h2 m hm)⟩, h2⟩
  have := chosenL_len k ms ms.length
  rw [show chosenL k ms ms.length = x.2 from e] at this
  omega
 have hall : (pre.map toSet).map (·.l) = allSets ms := by
  rw [List.map_map]
  show pre.map (·.2) = _
  rw [hsets, hge]
  rfl
 have hhd : pre.map sliceS = (pre.map toSet).map setS := by
  rw [List.map_map]
  exact List.map_congr_left fun x hx => sliceS_eq (hnn x hx)
 rw [hhd]
 with_reducible (apply xc_exit; (repeat (first | apply xq_blockX | apply xq_thenE | refine xq_blockE rfl ?_ | apply xq_scopeE)); (repeat first | apply xqT | apply xqB | apply xqS); (repeat apply xc_seq); apply xcR)
 refine xo_alloc T_ rfl rfl rfl rfl (fun b7 => ?_)
 refine xo_store T_ rfl rfl rfl rfl (by repeat first | exact mH | apply mT | apply mA) rfl rfl rfl rfl (by repeat first | exact Upd.head | apply Upd.tail | apply Upd.app) rfl ?_
 with_reducible (apply xo_nil; (repeat first | apply xqT | apply xqB | apply xqS); (repeat apply xc_seq); apply xcR)
 refine xoM ?_
 refine xo_mkf rfl rfl rfl rfl ?_
 refine xo_call (fs := []) (vs := [.slice (some ⟨b, 0, none⟩) (pre.map toSet).length cap, .func (.func 61) #[] #[.pointer (some ⟨b7, 0, none⟩)]]) rfl rfl (by rw [List.length_map]; rfl) sortSets_enters rfl (fun w1 hw1 => ?_)
 have hb7 := hw1.ro (b := b7) (wr := true) (t := 105) (by repeat first | exact mH | apply mT | apply mA)
 obtain ⟨o1, ho1, ho2⟩ := hw1.bl (b, true, orow 23 1 pre.length cap ((pre.map toSet).map setS)) (List.Mem.tail _ (List.Mem.head _))
 have hnd := hw1.nd
 simp only [hpR, List.cons_append, List.nil_append, List.map_cons, List.nodup_cons, List.mem_cons, not_or] at hnd
 have hok : ∀ x ∈ pre.map toSet, SetOK b w1 x := fun x hx => by
  obtain ⟨q, hq, rfl⟩ := List.mem_map.1 hx
  refine ⟨setRow (hnn q hq) (fun e he => hw1.bl e (List.mem_cons_of_mem _ (List.mem_cons_of_mem _ (haS_mem hq he)))), (hids q hq).1, fun h0 ad e => ?_⟩
  obtain ⟨r, l⟩ := q
  cases r with
  | none => cases e
  | some p =>
   cases e
   exact fun q2 => hnd.2.1 (List.mem_map.2 ⟨(p.1, true, _), haS_mem hq (List.Mem.head _), q2⟩)
 refine (sortSets_calls b cap b7 (pre.map toSet) w1 o1 ho1 (by rw [List.length_map]; exact ho2) hok (by rw [List.length_map]; omega) hb7 hnd.1.1).mono ?_
 rintro e w3 ⟨rfl, hk3, ys, hys, hsd, o3, ho3, ho4⟩
 rw [List.length_map] at ho4
 have hyl : ys.length = pre.length := by rw [hys.length_eq, List.length_map]
 refine ⟨_, _, rfl, hw1.updK (η' := (b7, true, cel [.func (.func 59) #[] #[]] 105) :: (b, true, orow 23 1 pre.length cap (ys.map setS)) :: setH pre) (φ' := orow 23 1 pre.length cap (ys.map setS)) (Upd.tail Upd.head) hk3 ho3 ho4, ?_⟩
 clear ho3 ho4 hk3 ho1 ho2 hw1 hok hnd hb7
 with_reducible (apply xo_nil; (repeat first | apply xqT | apply xqB | apply xqS))
 have hin : ∀ x ∈ ys, ∃ q ∈ pre, toSet q = x := fun x hx => List.mem_map.1 (hys.mem_iff.1 hx)
 have hbest := first_best p (ls := allSets ms) (ys := ys.map (·.l)) (by rw [← hall]; exact hys.map _) hsd
 rw [← hyl]
 refine xc_slots [(1, .func (.func g) #[] cs.toArray), (5, .slice (some ⟨b, 0, none⟩) ys.length cap), (7, .pointer (some ⟨b7, 0, none⟩))] ⟨rfl, by rw [hyl]; rfl, rfl, trivial⟩ ?_
 refine xc_anew fun wA hwA => ?_
 have hbA := hwA.kx.below
 have hsA : SetsAt wA b ys := by
  obtain ⟨o1, ho1, ho2⟩ := hwA.bl (b, true, orow 23 1 ys.length cap (ys.map setS)) (List.Mem.tail _ (List.Mem.head _))
  exact setsAt_of ho1 ho2
 have hrows : ∀ x ∈ ys, RowOf marV 7 zMar wA x.A x.l ∧ ∀ m ∈ x.l, m ∈ ms := fun x hx => by
  obtain ⟨q, hq, rfl⟩ := hin x hx
  exact ⟨setRow (hnn q hq) (fun e he => hwA.bl e (List.mem_cons_of_mem _ (List.mem_cons_of_mem _ (haS_mem hq he)))), (hids q hq).2⟩
 have hb7A := hwA.ro (b := b7) (wr := true) (t := 105) (by repeat first | exact mH | apply mT | apply mA)
 have hyl2 : ys.length ≤ 1000000 := by omega
 have h8 : ∀ x ∈ ys, x.l.length ≤ 8 := fun x hx => by
  obtain ⟨q, hq, rfl⟩ := hin x hx
  exact (hids q hq).1.1
 have hpA := hp.below hbA
 clear hwA hin hys hsd hall hhd hids hyl hsets hnn hsV hS hsite
 with_reducible ((repeat apply xc_seq); apply xcR)
 refine xoM ?_
 refine xoM ?_
 refine xo_call (fs := []) (cs := []) rfl rfl rfl first_enters rfl (fun w1 hw1 => (first_calls p g cs eg b cap ys w1 (okM ms) (fun x hx W hW => ⟨⟨(hrows x hx).1.below (below_step hw1.kx.below hW), (hrows x hx).2⟩, h8 x hx⟩) hyl2 (hsA.below hw1.kx.below) (hpA.below hw1.kx.below)).mono ?_)
 rintro e w2 ⟨⟨t, rfl⟩, hb⟩
 refine ⟨_, _, rfl, hw1.below hb, ?_⟩
 clear hb hw1
 refine xoM ?_
 refine xo_ext rfl rfl rfl rfl ?_
 refine xo_ext rfl rfl rfl rfl ?_
 refine xoA ?_
 refine xoA ?_
 with_reducible (apply xo_nil; (repeat first | apply xqT | apply xqB | apply xqS))
 have hfx : ∀ x, (ys.find? fun x => p x.l).getD zSet = x → RowOf marV 7 zMar wA x.A x.l ∧ x.l.length ≤ 8 ∧ idsL x.l = fewestL p (allSets ms) := by
  rintro x rfl
  rw [List.find?_map] at hbest
  rw [← hbest]
  cases hf : ys.find? fun x => p x.l with
  | none =>
   have hf' : ys.find? (p ∘ fun x => x.l) = none := hf
   rw [hf']
   exact ⟨fun k hk => absurd hk (Nat.not_lt_zero _), Nat.zero_le _, rfl⟩
  | some x =>
   have hf' : ys.find? (p ∘ fun x => x.l) = some x := hf
   rw [hf']
   have hx := List.mem_of_find?_eq_some hf
   exact ⟨(hrows x hx).1, h8 x hx, rfl⟩
 obtain ⟨hrx, hx8, hidx⟩ := hfx _ rfl
 generalize (ys.find? fun x => p x.l).getD zSet = x at hrx hx8 hidx
 obtain ⟨xA, xC, xl⟩ := x
 rw [← hidx]
 simp only at hrx hx8
 have hil : (idsL xl).length = xl.length := by simp [idsL]
 with_reducible ((repeat apply xc_seq); apply xcR)
 refine xoA ?_
 with_reducible (apply xo_nil; (repeat first | apply xqT | apply xqB | apply xqS); (repeat apply xc_seq); apply xcR)
 refine xoM ?_
 refine xo_len T_ (len := xl.length) rfl rfl rfl rfl ?_
 refine xoM ?_
 with_reducible (apply xo_nil; (repeat first | apply xqT | apply xqB | apply xqS); (repeat apply xc_seq); apply xc_block)
 refine xc_loop (γ := Nat × RowR) (fun q => q.1 ≤ xl.length ∧ (q.2 = none → q.1 = 0)) (fun q => [(7, .pointer (some ⟨b7, 0, none⟩)), (10, valR q.2 q.1), (39, .slice xA xl.length xC), (40, .int .i64 (xl.length : Int)), (41, .int .i64 (q.1 : Int))])
  (fun q => hpR 3 1 q.2 q.1 (((idsL xl).take q.1).map (.int .i64)) ++ []) (fun q => xl.length - q.1) (0, none) ⟨Nat.zero_le _, fun _ => rfl⟩ ⟨rfl, rfl, rfl, rfl, rfl, trivial⟩ (List.nil_sublist _) ?_
 rintro ⟨k, rr⟩ ⟨hk, hrr⟩
 have hk : k ≤ xl.length := hk
 have hrr : rr = none → k = 0 := hrr
 with_reducible ((repeat apply xc_seq); apply xcR)
 refine xo_lss rfl rfl rfl rfl ?_
 with_reducible (apply xo_nil; (repeat first | apply xqT | apply xqB | apply xqS); (repeat apply xc_seq))
 refine xc_cond rfl (fun h => ?_) (fun h => ?_)
 ·have hlt : k < xl.length := by have := of_decide_eq_true h; omega
  obtain ⟨ad, rfl, hRm⟩ := hrx k hlt
  have hst : (idsL xl).take (k + 1) = (idsL xl).take k ++ [(xl.getD k zMar).f0] := by
   rw [List.take_add_one]
   unfold idsL
   rw [List.getElem?_map, List.getElem?_eq_getElem hlt]
   simp [List.getD_eq_getElem?_getD, List.getElem?_eq_getElem hlt]
  have htl : ((idsL xl).take k).length = k := by rw [List.length_take, hil]; omega
  generalize xl.getD k zMar = m at hRm hst
  with_reducible (apply xc_skip; (repeat first | apply xqT | apply xqB | apply xqS); (repeat apply xc_seq); apply xc_block; (repeat apply xc_seq); apply xcR)
  refine xo_ia T_ rfl rfl rfl rfl rfl ⟨by omega, by omega⟩ rfl ?_
  refine xo_loadRN T_ rfl rfl rfl hRm rfl rfl ?_
  refine xo_alloc T_ rfl rfl rfl rfl (fun b12 => ?_)
  refine xo_store T_ rfl rfl rfl rfl (by repeat first | exact mH | apply mT | apply mA) rfl rfl rfl rfl (by repeat first | exact Upd.head | apply Upd.tail | apply Upd.app) rfl ?_
  with_reducible (apply xo_nil; (repeat first | apply xqT | apply xqB | apply xqS); (repeat apply xc_seq); apply xcR)
  refine xoM ?_
  refine xo_loadR0 T_ rfl rfl rfl hb7A rfl ?_
  refine xo_loadN T_ rfl rfl rfl (by repeat first | exact mH | apply mT | apply mA) rfl rfl ?_
  refine xo_callB (fs := []) (cs := []) rfl rfl rfl Q.number_enters rfl (fun w1 hw1 => (Q.number_calls m w1).mono fun e w' ⟨h1, h2⟩ => ⟨h1, h2.kx.below⟩) ?_
  refine xo_bs1 T_ rfl rfl rfl rfl rfl rfl rfl rfl (fun b49 => ?_)
  refine xo_less (η' := (b49, true, cel [.int .i64 m.f0] 3) :: (hpR 3 1 rr k (((idsL xl).take k).map (.int .i64)) ++ [])) (List.Sublist.cons_cons _ (List.sublist_cons_self _ _)) ?_
  refine xo_app TR_ rfl rfl rfl rfl rfl rfl rfl rfl (by rw [List.length_map, htl, Nat.mul_one]) rfl rfl hrr (by omega) rfl rfl (fun r' hr' => ?_)
  refine xoA ?_
  with_reducible (apply xo_nil; (repeat first | apply xqT | apply xqB | apply xqS); (repeat apply xc_seq); apply xcR)
  refine xo_add rfl rfl rfl (by omega) rfl ?_
  refine xoM ?_
  with_reducible (apply xo_nil; (repeat first | apply xqT | apply xqB | apply xqS))
  exact xq_again _ _ _ _ _ (k + 1, r') ⟨hlt, fun q => absurd q hr'⟩ (by simp only; omega) ⟨rfl, rfl, rfl, rfl, rfl, trivial⟩ (by rw [hst, List.map_append]; exact List.Sublist.refl _)
 have hge : k = xl.length := by have := of_decide_eq_false h; omega
 subst hge
 rw [List.take_of_length_le (by omega), ← hil]
 with_reducible (apply xc_exit; (repeat (first | apply xq_blockX | apply xq_thenE | refine xq_blockE rfl ?_ | apply xq_scopeE)); (repeat first | apply xqT | apply xqB | apply xqS); (repeat apply xc_seq); apply xcR)
 refine xoM ?_
 refine xoA ?_
 with_reducible (apply xo_nil; (repeat first | apply xqT | apply xqB | apply xqS); (repeat apply xc_seq); apply xc_ret; (repeat (first | apply xq_thenR | apply xq_blockR | apply xq_scopeR)))
 refine xq_ret1 rfl rfl fun w' hw => ⟨rr, rfl, (RowAt.of hw (fun q => by have := hrr q; exact List.eq_nil_of_length_eq_zero (by omega))).mono hbA.size, below_step hbA hw.kx.below⟩
theorem fewest_enters : ∀ args w, (callFunc 37 args).run Tryz.prog w = .ok (.enter 37 args) w := enters_of Tryz.func37 (by kernel_rfl) rfl
theorem ids_of {R : Int} : ∀ {ms : List MarT} {last : Int}, -1 ≤ last → marksF R last ms = true → ∀ m ∈ ms, 0 ≤ m.f0 ∧ m.f0 ≤ 9999
 | [], _, _, _, m, hm => by cases hm
 | x :: ms, last, hl, h, m, hm => by
  simp only [marksF, Bool.and_eq_true] at h
  obtain ⟨⟨⟨⟨h1, h2⟩, h3⟩, h4⟩, h5⟩ := h
  have q1 := inF_iff.1 h1
  rcases List.mem_cons.1 hm with rfl | hm
  ·omega
  ·exact ids_of (last := x.f0) (by omega) h5 m hm
theorem whyF_calls (bs bp bq : Nat) (R : Nat) (E : Int) (gs : List GatT) (B : Option Addr) (c2 : Nat) (ms : List MarT) (room : Nat) (w : World) (hs : SiteOK w bs R E gs B ms.length c2) (hm8 : ms.length ≤ 8) (hmk : ∀ m ∈ ms, MarkOK m) (hroom : room < 6)
  (h1 : RO w XNone ⟨bp, 0, none⟩ [.pointer (some ⟨bs, 0, none⟩)]) (h2 : RO w XNone ⟨bq, 0, none⟩ [.int .i64 (room : Int)]) : AsksS Tryz.prog w 38 [.pointer (some ⟨bp, 0, none⟩), .pointer (some ⟨bq, 0, none⟩)] (fun l => !canF E R gs room l) (okM ms) := by
 rintro x W hW ⟨⟨hx1, hx2⟩, hx8⟩
 have h1 := h1.below hW
 have h2 := h2.below hW
 have hs := hs.below hW
 refine x_calls (X := XNone) (vs := [.slice x.A x.l.length x.C, .pointer (some ⟨bp, 0, none⟩), .pointer (some ⟨bq, 0, none⟩)]) Tryz.func38 rfl rfl rfl ?_
 with_reducible ((repeat apply xc_seq); apply xcR)
 refine xoA ?_
 with_reducible (apply xo_nil; (repeat first | apply xqT | apply xqB | apply xqS); (repeat apply xc_seq); apply xcR)
 refine xo_loadR0 T_ rfl rfl rfl h1 rfl ?_
 refine xo_loadR0 T_ rfl rfl rfl h2 rfl ?_
 refine xoM ?_
 refine xo_callB (fs := []) (cs := []) rfl rfl rfl can_enters rfl (fun w1 hw1 => can_calls bs R E gs B x.A ms.length c2 x.C x.l room w1 (hs.below hw1.kx.below) (hx1.below hw1.kx.below) hx8 (fun m hm => hmk m (hx2 m hm)) hroom) ?_
 refine xo_notOp rfl rfl rfl ?_
 refine xoA ?_
 with_reducible (apply xo_nil; (repeat first | apply xqT | apply xqB | apply xqS); (repeat apply xc_seq); apply xc_ret; (repeat (first | apply xq_thenR | apply xq_blockR | apply xq_scopeR)))
 exact xq_ret1 rfl rfl fun w' hw => ⟨rfl, hw.kx.below⟩
theorem whyF_enters : ∀ args w, (callFunc 38 args).run Tryz.prog w = .ok (.enter 38 args) w := enters_of Tryz.func38 (by kernel_rfl) rfl
theorem againstF_calls (bs bp : Nat) (R : Nat) (E : Int) (gs : List GatT) (B : Option Addr) (c2 : Nat) (ms : List MarT) (w : World) (hs : SiteOK w bs R E gs B ms.length c2) (hm8 : ms.length ≤ 8) (hmk : ∀ m ∈ ms, MarkOK m)
  (h1 : RO w XNone ⟨bp, 0, none⟩ [.pointer (some ⟨bs, 0, none⟩)]) : AsksS Tryz.prog w 47 [.pointer (some ⟨bp, 0, none⟩)] (fun l => decide (((roomsN E R gs l).length : Int) = 0)) (okM ms) := by
 rintro x W hW ⟨⟨hx1, hx2⟩, hx8⟩
 have h1 := h1.below hW
 have hs := hs.below hW
 refine x_calls (X := XNone) (vs := [.slice x.A x.l.length x.C, .pointer (some ⟨bp, 0, none⟩)]) Tryz.func47 rfl rfl rfl ?_
 with_reducible ((repeat apply xc_seq); apply xcR)
 refine xoA ?_
 with_reducible (apply xo_nil; (repeat first | apply xqT | apply xqB | apply xqS); (repeat apply xc_seq); apply xcR)
 refine xo_loadR0 T_ rfl rfl rfl h1 rfl ?_
 refine xoM ?_
 refine xo_call (fs := []) (cs := []) rfl rfl rfl rooms_enters rfl (fun w1 hw1 => (rooms_calls bs R E gs B x.A ms.length c2 x.C x.l w1 (hs.below hw1.kx.below) (hx1.below hw1.kx.below) hx8 (fun m hm => hmk m (hx2 m hm))).mono ?_)
 rintro e w2 ⟨r, rfl, hrw, hb⟩
 have h11 := hrw.1
 refine ⟨_, _, rfl, hw1.below hb, ?_⟩
 clear hrw hb hw1
 refine xo_len T_ rfl (show _ = some (Value.slice (valA r) (roomsN E R gs x.l).length (valC r)) from congrArg some (valR_eq (fun q => by have := h11 q; simpa [intsN] using this))) rfl rfl ?_
 refine xo_eql rfl rfl rfl rfl ?_
 refine xoA ?_
 with_reducible (apply xo_nil; (repeat first | apply xqT | apply xqB | apply xqS); (repeat apply xc_seq); apply xc_ret; (repeat (first | apply xq_thenR | apply xq_blockR | apply xq_scopeR)))
 exact xq_ret1 rfl rfl fun w' hw => ⟨rfl, hw.kx.below⟩
theorem againstF_enters : ∀ args w, (callFunc 47 args).run Tryz.prog w = .ok (.enter 47 args) w := enters_of Tryz.func47 (by kernel_rfl) rfl
def whyC (R E : Int) (gs : List GatT) (ms : List MarT) (room : Int) : Int := if sceneF R E gs ms = true then (if roomOK R room = true then (if canF E R.toNat gs room.toNat ms = true then 8 else 0) else 2) else 90
def whyL (R E : Int) (gs : List GatT) (ms : List MarT) (room : Int) : List Int := if whyC R E gs ms room = 0 then fewestL (fun l => !canF E R.toNat gs room.toNat l) (allSets ms) else []
set_option maxHeartbeats 8000000 in
theorem Why_calls (R E : Int) (A B : Option Addr) (c c2 : Nat) (gs : List GatT) (ms : List MarT) (room : Int) (w : World) (hs : SceneAt w A B gs ms) :
  Calls Tryz.prog 14 #[.agg (scnV R A gs.length c E B ms.length c2).toArray, .int .i64 room] w fun e w' => ∃ rr : RowR, e = .returned (.tuple #[valR rr (whyL R E gs ms room).length, .int .i64 (whyC R E gs ms room)]) ∧ RowAt 3 w.heap.size w' rr (whyL R E gs ms room) ∧ Below w.heap.size w w' := by
 refine x_calls (X := XNone) Tryz.func14 rfl rfl rfl ?_
 with_reducible ((repeat apply xc_seq); apply xcR)
 refine xo_box rfl rfl rfl rfl (fun b2 => ?_)
 refine xo_box rfl rfl rfl rfl (fun b3 => ?_)
 refine xoA ?_
 refine xoA ?_
 with_reducible (apply xo_nil; (repeat first | apply xqT | apply xqB | apply xqS))
 cases hsc : sceneF R E gs ms
 ·have e1 : whyC R E gs ms room = 90 := by simp [whyC, hsc]
  have e2 : whyL R E gs ms room = [] := by rw [whyL, if_neg (by rw [e1]; decide)]
  with_reducible ((repeat apply xc_seq); apply xcR)
  refine xo_loadN T_ rfl rfl rfl (by repeat first | exact mH | apply mT | apply mA) rfl rfl ?_
  refine xo_load0 T_ rfl rfl rfl (by repeat first | exact mH | apply mT | apply mA) rfl rfl ?_
  refine xo_callB (fs := []) (cs := []) rfl rfl rfl roomed_enters rfl (fun w1 hw1 => roomed_no R E A B c c2 gs ms room w1 (hs.below hw1.kx.below).gates (hs.below hw1.kx.below).marks hs.bytes hsc) ?_
  refine xoM ?_
  refine xo_ext rfl rfl rfl rfl ?_
  refine xo_ext rfl rfl rfl rfl ?_
  refine xo_alloc T_ rfl rfl rfl rfl (fun b6 => ?_)
  refine xo_store T_ rfl rfl rfl rfl (by repeat first | exact mH | apply mT | apply mA) rfl rfl rfl rfl (by repeat first | exact Upd.head | apply Upd.tail | apply Upd.app) rfl ?_
  refine xoA ?_
  with_reducible (apply xo_nil; (repeat first | apply xqT | apply xqB | apply xqS); (repeat apply xc_seq); apply xcR)
  refine xoM ?_
  refine xo_neq rfl rfl rfl rfl ?_
  with_reducible (apply xo_nil; (repeat first | apply xqT | apply xqB | apply xqS); (repeat apply xc_seq))
  refine xc_condT rfl ?_
  with_reducible ((repeat apply xc_seq); apply xcR)
  refine xoM ?_
  refine xoA ?_
  refine xoA ?_
  with_reducible (apply xo_nil; (repeat first | apply xqT | apply xqB | apply xqS); (repeat apply xc_seq); apply xc_ret; (repeat (first | apply xq_thenR | apply xq_blockR | apply xq_scopeR)))
  exact xq_ret2 rfl rfl rfl fun w' hw => ⟨none, by rw [e1, e2]; rfl, by rw [e2]; exact ⟨fun _ => rfl, fun p hp => by cases hp⟩, hw.kx.below⟩
 cases hrm : roomOK R room
 ·have e1 : whyC R E gs ms room = 2 := by simp [whyC, hsc, hrm]
  have e2 : whyL R E gs ms room = [] := by rw [whyL, if_neg (by rw [e1]; decide)]
  with_reducible ((repeat apply xc_seq); apply xcR)
  refine xo_loadN T_ rfl rfl rfl (by repeat first | exact mH | apply mT | apply mA) rfl rfl ?_
  refine xo_load0 T_ rfl rfl rfl (by repeat first | exact mH | apply mT | apply mA) rfl rfl ?_
  refine xo_callB (fs := []) (cs := []) rfl rfl rfl roomed_enters rfl (fun w1 hw1 => roomed_arg R E A B c c2 gs ms room w1 (hs.below hw1.kx.below).gates (hs.below hw1.kx.below).marks hs.bytes hsc hrm) ?_
  refine xoM ?_
  refine xo_ext rfl rfl rfl rfl ?_
  refine xo_ext rfl rfl rfl rfl ?_
  refine xo_alloc T_ rfl rfl rfl rfl (fun b6 => ?_)
  refine xo_store T_ rfl rfl rfl rfl (by repeat first | exact mH | apply mT | apply mA) rfl rfl rfl rfl (by repeat first | exact Upd.head | apply Upd.tail | apply Upd.app) rfl ?_
  refine xoA ?_
  with_reducible (apply xo_nil; (repeat first | apply xqT | apply xqB | apply xqS); (repeat apply xc_seq); apply xcR)
  refine xoM ?_
  refine xo_neq rfl rfl rfl rfl ?_
  with_reducible (apply xo_nil; (repeat first | apply xqT | apply xqB | apply xqS); (repeat apply xc_seq))
  refine xc_condT rfl ?_
  with_reducible ((repeat apply xc_seq); apply xcR)
  refine xoM ?_
  refine xoA ?_
  refine xoA ?_
  with_reducible (apply xo_nil; (repeat first | apply xqT | apply xqB | apply xqS); (repeat apply xc_seq); apply xc_ret; (repeat (first | apply xq_thenR | apply xq_blockR | apply xq_scopeR)))
  exact xq_ret2 rfl rfl rfl fun w' hw => ⟨none, by rw [e1, e2]; rfl, by rw [e2]; exact ⟨fun _ => rfl, fun p hp => by cases hp⟩, hw.kx.below⟩
 have e1 : whyC R E gs ms room = if canF E R.toNat gs room.toNat ms = true then 8 else 0 := by simp [whyC, hsc, hrm]
 unfold whyL
 rw [e1]
 clear e1
 obtain ⟨hR6, hE6, hG, hm8, hmk⟩ := sceneF_ok hsc
 have hmk' := marks_ok hR6 hmk
 have hids : IdsOK ms := ⟨hm8, ids_of (by omega) hmk⟩
 clear hmk
 obtain ⟨n, rfl, hn1, hn6⟩ := nat_of hR6
 obtain ⟨r, rfl, hr⟩ := roomOK_nat hn6 hrm
 have en : ((n : Nat) : Int).toNat = n := rfl
 have er : ((r : Nat) : Int).toNat = r := rfl
 rw [en, er]
 with_reducible ((repeat apply xc_seq); apply xcR)
 refine xo_loadN T_ rfl rfl rfl (by repeat first | exact mH | apply mT | apply mA) rfl rfl ?_
 refine xo_load0 T_ rfl rfl rfl (by repeat first | exact mH | apply mT | apply mA) rfl rfl ?_
 refine xo_call (fs := []) (cs := []) rfl rfl rfl roomed_enters rfl (fun w1 hw1 => (roomed_yes n E A B c c2 gs ms r w1 (hs.below hw1.kx.below).gates (hs.below hw1.kx.below).marks hs.bytes hsc hrm).mono ?_)
 rintro e w2 ⟨bs, pre, fb, fc, wb, wc, rfl, hp, hz⟩
 rw [en] at hz
 refine ⟨_, _, rfl, (hw1.join hz (fun e he => (siteH_own e he).1)).deflag, ?_⟩
 clear hz hw1
 refine xoM ?_
 refine xo_ext rfl rfl rfl rfl ?_
 refine xo_ext rfl rfl rfl rfl ?_
 refine xo_alloc T_ rfl rfl rfl rfl (fun b6 => ?_)
 refine xo_store T_ rfl rfl rfl rfl (by repeat first | exact mH | apply mT | apply mA) rfl rfl rfl rfl (by repeat first | exact Upd.head | apply Upd.tail | apply Upd.app) rfl ?_
 refine xoA ?_
 with_reducible (apply xo_nil; (repeat first | apply xqT | apply xqB | apply xqS); (repeat apply xc_seq); apply xcR)
 refine xoM ?_
 refine xo_neq rfl rfl rfl rfl ?_
 with_reducible (apply xo_nil; (repeat first | apply xqT | apply xqB | apply xqS); (repeat apply xc_seq))
 refine xc_condF rfl ?_
 with_reducible (apply xc_skip; (repeat first | apply xqT | apply xqB | apply xqS))
 refine xc_anew fun wA hwA => ?_
 have hbA := hwA.kx.below
 have hsA := siteOK_of (pre := pre) (c := c) (A := A) (nm := ms.length) (c2 := c2) (B := B) (bs := bs) (fb := fb) (fc := fc) (rw_ := some (wb, wc)) ⟨hn1, hn6⟩ hE6 hG (hs.below hbA).glob (hwA.inW fun e he => List.mem_cons_of_mem _ (List.mem_append_left _ (List.mem_map.2 ⟨e, he, rfl⟩))) hp
 have h6 := hwA.ro (b := b6) (wr := true) (t := 74) (List.Mem.head _)
 have h3 := hwA.ro (b := b3) (wr := true) (t := 3) (cs := [.int .i64 (r : Int)]) (by repeat first | exact mH | apply mT | apply mA)
 have h2 := hwA.ro (b := b2) (wr := true) (t := 25) (cs := scnV n A gs.length c E B ms.length c2) (by repeat first | exact mH | apply mT | apply mA)
 have hMA := mar_row (hs.below hbA).marks
 refine xc_slots [(2, .pointer (some ⟨b2, 0, none⟩)), (3, .pointer (some ⟨b3, 0, none⟩)), (6, .pointer (some ⟨b6, 0, none⟩))] ⟨rfl, rfl, rfl, trivial⟩ ?_
 clear hwA
 cases hc : canF E n gs r ms
 ·with_reducible repeat apply xc_seq
  with_reducible apply xcR
  refine xo_loadR0 T_ rfl rfl rfl h6 rfl ?_
  refine xo_loadR0 T_ rfl rfl rfl h3 rfl ?_
  refine xo_fa T_ rfl rfl rfl rfl rfl ?_
  refine xo_loadR0 T_ rfl rfl rfl (h2.lit (j := 3) rfl) rfl ?_
  refine xo_callB (fs := []) (cs := []) rfl rfl rfl can_enters rfl (fun w1 hw1 => can_calls bs n E gs B B ms.length c2 c2 ms r w1 (hsA.below hw1.kx.below) (hMA.below hw1.kx.below) hm8 hmk' (by omega)) ?_
  refine xo_as (i := 21) rfl (congrArg Value.bool hc) ?_
  with_reducible (apply xo_nil; (repeat first | apply xqT | apply xqB | apply xqS); (repeat apply xc_seq))
  refine xc_condF rfl ?_
  with_reducible (apply xc_skip; (repeat first | apply xqT | apply xqB | apply xqS); (repeat apply xc_seq); apply xcR)
  refine xo_loadR0 T_ rfl rfl rfl h6 rfl ?_
  refine xo_mkf rfl rfl rfl rfl ?_
  refine xo_call (fs := []) (cs := []) rfl rfl rfl fewest_enters rfl (fun w1 hw1 => (fewest_calls (fun l => !canF E n gs r l) 38 [.pointer (some ⟨b6, 0, none⟩), .pointer (some ⟨b3, 0, none⟩)] whyF_enters bs n E gs B c2 ms w1 (hsA.below hw1.kx.below) (hMA.below hw1.kx.below) hids (fun x W hW hx => whyF_calls bs b6 b3 n E gs B c2 ms r wA hsA hm8 hmk' (by omega) h6 h3 x W (below_step hw1.kx.below hW) hx)).mono ?_)
  rintro e w2 ⟨rr, rfl, hrw, hb⟩
  have h11 := hrw.1
  refine ⟨_, _, rfl, hw1.row hb hrw, ?_⟩
  clear hrw hb hw1
  refine xoA ?_
  refine xoA ?_
  with_reducible (apply xo_nil; (repeat first | apply xqT | apply xqB | apply xqS); (repeat apply xc_seq); apply xc_ret; (repeat (first | apply xq_thenR | apply xq_blockR | apply xq_scopeR)))
  exact xq_ret2 rfl rfl rfl fun w' hw => ⟨rr, rfl, (RowAt.of hw h11).mono hbA.size, below_step hbA hw.kx.below⟩
 ·with_reducible repeat apply xc_seq
  with_reducible apply xcR
  refine xo_loadR0 T_ rfl rfl rfl h6 rfl ?_
  refine xo_loadR0 T_ rfl rfl rfl h3 rfl ?_
  refine xo_fa T_ rfl rfl rfl rfl rfl ?_
  refine xo_loadR0 T_ rfl rfl rfl (h2.lit (j := 3) rfl) rfl ?_
  refine xo_callB (fs := []) (cs := []) rfl rfl rfl can_enters rfl (fun w1 hw1 => can_calls bs n E gs B B ms.length c2 c2 ms r w1 (hsA.below hw1.kx.below) (hMA.below hw1.kx.below) hm8 hmk' (by omega)) ?_
  refine xo_as (i := 21) rfl (congrArg Value.bool hc) ?_
  with_reducible (apply xo_nil; (repeat first | apply xqT | apply xqB | apply xqS); (repeat apply xc_seq))
  refine xc_condT rfl ?_
  with_reducible ((repeat apply xc_seq); apply xcR)
  refine xoA ?_
  refine xoA ?_
  with_reducible (apply xo_nil; (repeat first | apply xqT | apply xqB | apply xqS); (repeat apply xc_seq); apply xc_ret; (repeat (first | apply xq_thenR | apply xq_blockR | apply xq_scopeR)))
  exact xq_ret2 rfl rfl rfl fun w' hw => ⟨none, rfl, ⟨fun _ => rfl, fun p hp => by cases hp⟩, below_step hbA hw.kx.below⟩
theorem Why_enters : ∀ args w, (callFunc 14 args).run Tryz.prog w = .ok (.enter 14 args) w := enters_of Tryz.func14 (by kernel_rfl) rfl
def againstL (R E : Int) (gs : List GatT) (ms : List MarT) : List Int := if sceneF R E gs ms = true ∧ (roomsN E R.toNat gs ms).length = 0 then fewestL (fun l => decide (((roomsN E R.toNat gs l).length : Int) = 0)) (allSets ms) else []
set_option maxHeartbeats 8000000 in
theorem Against_calls (R E : Int) (A B : Option Addr) (c c2 : Nat) (gs : List GatT) (ms : List MarT) (w : World) (hs : SceneAt w A B gs ms) :
  Calls Tryz.prog 16 #[.agg (scnV R A gs.length c E B ms.length c2).toArray] w fun e w' => ∃ rr : RowR, e = .returned (.tuple #[valR rr (againstL R E gs ms).length, .int .i64 (checkF R E gs ms)]) ∧ RowAt 3 w.heap.size w' rr (againstL R E gs ms) ∧ Below w.heap.size w w' := by
 refine x_calls (X := XNone) Tryz.func16 rfl rfl rfl ?_
 with_reducible ((repeat apply xc_seq); apply xcR)
 refine xo_box rfl rfl rfl rfl (fun b1 => ?_)
 refine xoA ?_
 refine xoA ?_
 with_reducible (apply xo_nil; (repeat first | apply xqT | apply xqB | apply xqS))
 cases hsc : sceneF R E gs ms
 ·have e1 := check_no hsc
  have e2 : againstL R E gs ms = [] := by rw [againstL, if_neg (by simp [hsc])]
  with_reducible ((repeat apply xc_seq); apply xcR)
  refine xo_loadN T_ rfl rfl rfl (by repeat first | exact mH | apply mT | apply mA) rfl rfl ?_
  refine xo_callB (fs := []) (cs := []) rfl rfl rfl open_enters rfl (fun w1 hw1 => open_no R E A B c c2 gs ms w1 (hs.below hw1.kx.below).gates (hs.below hw1.kx.below).marks hs.bytes hsc) ?_
  refine xoM ?_
  refine xo_ext rfl rfl rfl rfl ?_
  refine xo_ext rfl rfl rfl rfl ?_
  refine xo_alloc T_ rfl rfl rfl rfl (fun b4 => ?_)
  refine xo_store T_ rfl rfl rfl rfl (by repeat first | exact mH | apply mT | apply mA) rfl rfl rfl rfl (by repeat first | exact Upd.head | apply Upd.tail | apply Upd.app) rfl ?_
  refine xoA ?_
  with_reducible (apply xo_nil; (repeat first | apply xqT | apply xqB | apply xqS); (repeat apply xc_seq); apply xcR)
  refine xoM ?_
  refine xo_neq rfl rfl rfl rfl ?_
  with_reducible (apply xo_nil; (repeat first | apply xqT | apply xqB | apply xqS); (repeat apply xc_seq))
  refine xc_condT rfl ?_
  with_reducible ((repeat apply xc_seq); apply xcR)
  refine xoM ?_
  refine xoA ?_
  refine xoA ?_
  with_reducible (apply xo_nil; (repeat first | apply xqT | apply xqB | apply xqS); (repeat apply xc_seq); apply xc_ret; (repeat (first | apply xq_thenR | apply xq_blockR | apply xq_scopeR)))
  exact xq_ret2 rfl rfl rfl fun w' hw => ⟨none, by rw [e1, e2]; rfl, by rw [e2]; exact ⟨fun _ => rfl, fun p hp => by cases hp⟩, hw.kx.below⟩
 have e1 : checkF R E gs ms = 0 := by rw [checkF, if_pos hsc]
 rw [e1]
 clear e1
 have e2 : againstL R E gs ms = if (roomsN E R.toNat gs ms).length = 0 then fewestL (fun l => decide (((roomsN E R.toNat gs l).length : Int) = 0)) (allSets ms) else [] := by
  unfold againstL
  simp [hsc]
 rw [e2]
 clear e2
 obtain ⟨hR6, hE6, hG, hm8, hmk⟩ := sceneF_ok hsc
 have hmk' := marks_ok hR6 hmk
 have hids : IdsOK ms := ⟨hm8, ids_of (by omega) hmk⟩
 clear hmk
 obtain ⟨n, rfl, hn1, hn6⟩ := nat_of hR6
 have en : ((n : Nat) : Int).toNat = n := rfl
 rw [en]
 with_reducible ((repeat apply xc_seq); apply xcR)
 refine xo_loadN T_ rfl rfl rfl (by repeat first | exact mH | apply mT | apply mA) rfl rfl ?_
 refine xo_call (fs := []) (cs := []) rfl rfl rfl open_enters rfl (fun w1 hw1 => (open_yes n E A B c c2 gs ms w1 (hs.below hw1.kx.below).gates (hs.below hw1.kx.below).marks hs.bytes hsc).mono ?_)
 rintro e w2 ⟨bs, pre, fb, fc, wb, wc, rfl, hp, hz⟩
 rw [en] at hz
 refine ⟨_, _, rfl, (hw1.join hz (fun e he => (siteH_own e he).1)).deflag, ?_⟩
 clear hz hw1
 refine xoM ?_
 refine xo_ext rfl rfl rfl rfl ?_
 refine xo_ext rfl rfl rfl rfl ?_
 refine xo_alloc T_ rfl rfl rfl rfl (fun b4 => ?_)
 refine xo_store T_ rfl rfl rfl rfl (by repeat first | exact mH | apply mT | apply mA) rfl rfl rfl rfl (by repeat first | exact Upd.head | apply Upd.tail | apply Upd.app) rfl ?_
 refine xoA ?_
 with_reducible (apply xo_nil; (repeat first | apply xqT | apply xqB | apply xqS); (repeat apply xc_seq); apply xcR)
 refine xoM ?_
 refine xo_neq rfl rfl rfl rfl ?_
 with_reducible (apply xo_nil; (repeat first | apply xqT | apply xqB | apply xqS); (repeat apply xc_seq))
 refine xc_condF rfl ?_
 with_reducible (apply xc_skip; (repeat first | apply xqT | apply xqB | apply xqS))
 refine xc_anew fun wA hwA => ?_
 have hbA := hwA.kx.below
 have hsA := siteOK_of (pre := pre) (c := c) (A := A) (nm := ms.length) (c2 := c2) (B := B) (bs := bs) (fb := fb) (fc := fc) (rw_ := some (wb, wc)) ⟨hn1, hn6⟩ hE6 hG (hs.below hbA).glob (hwA.inW fun e he => List.mem_cons_of_mem _ (List.mem_append_left _ (List.mem_map.2 ⟨e, he, rfl⟩))) hp
 have h4 := hwA.ro (b := b4) (wr := true) (t := 74) (List.Mem.head _)
 have h1 := hwA.ro (b := b1) (wr := true) (t := 25) (cs := scnV n A gs.length c E B ms.length c2) (by repeat first | exact mH | apply mT | apply mA)
 have hMA := mar_row (hs.below hbA).marks
 refine xc_slots [(1, .pointer (some ⟨b1, 0, none⟩)), (4, .pointer (some ⟨b4, 0, none⟩))] ⟨rfl, rfl, trivial⟩ ?_
 clear hwA
 cases hc : decide ((0 : Int) < (roomsN E n gs ms).length)
 ·have h0 : (roomsN E n gs ms).length = 0 := by have := of_decide_eq_false hc; omega
  rw [if_pos h0]
  with_reducible ((repeat apply xc_seq); apply xcR)
  refine xo_loadR0 T_ rfl rfl rfl h4 rfl ?_
  refine xo_fa T_ rfl rfl rfl rfl rfl ?_
  refine xo_loadR0 T_ rfl rfl rfl (h1.lit (j := 3) rfl) rfl ?_
  refine xo_call (fs := []) (cs := []) rfl rfl rfl rooms_enters rfl (fun w1 hw1 => (rooms_calls bs n E gs B B ms.length c2 c2 ms w1 (hsA.below hw1.kx.below) (hMA.below hw1.kx.below) hm8 hmk').mono ?_)
  rintro e w2 ⟨r, rfl, hrw, hb⟩
  have h11 := hrw.1
  refine ⟨_, _, rfl, hw1.below hb, ?_⟩
  clear hrw hb hw1
  refine xo_len T_ rfl (show _ = some (Value.slice (valA r) (roomsN E n gs ms).length (valC r)) from congrArg some (valR_eq (fun q => by have := h11 q; simpa [intsN] using this))) rfl rfl ?_
  refine xo_gtr rfl rfl rfl rfl ?_
  refine xo_as (i := 19) rfl (congrArg Value.bool hc) ?_
  with_reducible (apply xo_nil; (repeat first | apply xqT | apply xqB | apply xqS); (repeat apply xc_seq))
  refine xc_condF rfl ?_
  with_reducible (apply xc_skip; (repeat first | apply xqT | apply xqB | apply xqS); (repeat apply xc_seq); apply xcR)
  refine xo_loadR0 T_ rfl rfl rfl h4 rfl ?_
  refine xo_mkf rfl rfl rfl rfl ?_
  refine xo_call (fs := []) (cs := []) rfl rfl rfl fewest_enters rfl (fun w1 hw1 => (fewest_calls (fun l => decide (((roomsN E n gs l).length : Int) = 0)) 47 [.pointer (some ⟨b4, 0, none⟩)] againstF_enters bs n E gs B c2 ms w1 (hsA.below hw1.kx.below) (hMA.below hw1.kx.below) hids (fun x W hW hx => againstF_calls bs b4 n E gs B c2 ms wA hsA hm8 hmk' h4 x W (below_step hw1.kx.below hW) hx)).mono ?_)
  rintro e w2 ⟨rr, rfl, hrw, hb⟩
  have h11 := hrw.1
  refine ⟨_, _, rfl, hw1.row hb hrw, ?_⟩
  clear hrw hb hw1
  refine xoA ?_
  refine xoA ?_
  with_reducible (apply xo_nil; (repeat first | apply xqT | apply xqB | apply xqS); (repeat apply xc_seq); apply xc_ret; (repeat (first | apply xq_thenR | apply xq_blockR | apply xq_scopeR)))
  exact xq_ret2 rfl rfl rfl fun w' hw => ⟨rr, rfl, (RowAt.of hw h11).mono hbA.size, below_step hbA hw.kx.below⟩
 ·have h0 : ¬ (roomsN E n gs ms).length = 0 := by have := of_decide_eq_true hc; omega
  rw [if_neg h0]
  with_reducible ((repeat apply xc_seq); apply xcR)
  refine xo_loadR0 T_ rfl rfl rfl h4 rfl ?_
  refine xo_fa T_ rfl rfl rfl rfl rfl ?_
  refine xo_loadR0 T_ rfl rfl rfl (h1.lit (j := 3) rfl) rfl ?_
  refine xo_call (fs := []) (cs := []) rfl rfl rfl rooms_enters rfl (fun w1 hw1 => (rooms_calls bs n E gs B B ms.length c2 c2 ms w1 (hsA.below hw1.kx.below) (hMA.below hw1.kx.below) hm8 hmk').mono ?_)
  rintro e w2 ⟨r, rfl, hrw, hb⟩
  have h11 := hrw.1
  refine ⟨_, _, rfl, hw1.below hb, ?_⟩
  clear hrw hb hw1
  refine xo_len T_ rfl (show _ = some (Value.slice (valA r) (roomsN E n gs ms).length (valC r)) from congrArg some (valR_eq (fun q => by have := h11 q; simpa [intsN] using this))) rfl rfl ?_
  refine xo_gtr rfl rfl rfl rfl ?_
  refine xo_as (i := 19) rfl (congrArg Value.bool hc) ?_
  with_reducible (apply xo_nil; (repeat first | apply xqT | apply xqB | apply xqS); (repeat apply xc_seq))
  refine xc_condT rfl ?_
  with_reducible ((repeat apply xc_seq); apply xcR)
  refine xoA ?_
  refine xoA ?_
  with_reducible (apply xo_nil; (repeat first | apply xqT | apply xqB | apply xqS); (repeat apply xc_seq); apply xc_ret; (repeat (first | apply xq_thenR | apply xq_blockR | apply xq_scopeR)))
  exact xq_ret2 rfl rfl rfl fun w' hw => ⟨none, rfl, ⟨fun _ => rfl, fun p hp => by cases hp⟩, below_step hbA hw.kx.below⟩
theorem Against_enters : ∀ args w, (callFunc 16 args).run Tryz.prog w = .ok (.enter 16 args) w := enters_of Tryz.func16 (by kernel_rfl) rfl
end Go.Proofs.YtommeljlfkmpjaaGreatDoor
namespace Go.Proofs.YtommeljlfkmpjaaGreatDoor
open Go.RowKit
section
variable {P : Program} {ro : Option Nat} {n N : Nat} {ds : List Deferred} {w0 : World} {X : Nat → Prop} {Q : Exit → Act → World → Prop} {σ : Slots} {η : Hp} {ops rest : List Oper}
theorem xc_meet2 {γ : Type} {x y : Code} (C : γ → Prop) (S : γ → Slots) (H : γ → Hp) (h1 : XC P ro n N ds w0 X (Exit.then (fun a w => ∃ g, C g ∧ SOK N ds (S g) a ∧ WOK w0 X (H g) w) Q) σ η x)
  (h2 : ∀ g, C g → XC P ro n N ds w0 X Q (S g) (H g) y) : XC P ro n N ds w0 X (Exit.then (y.wpIn (wideR ro) n P Q) Q) σ η x := fun a w ha hw => wpIn_mono (h1 a w ha hw) (by
 intro e a' w' hq
 cases e with
 | normal => obtain ⟨g, hg, h3, h4⟩ := hq; exact h2 g hg a' w' h3 h4
 | exit id => exact hq
 | goto l => exact hq
 | ret => exact hq
 | panic c => exact hq
 | outgrown => exact hq)
theorem xo_lit {i : Tmp} {b : Bool} (hb : slot i σ = some (.bool b)) (h : XO P ro n N ds w0 X Q ops σ η rest) : XO P ro n N ds w0 X Q ops σ η rest := h
end
end Go.Proofs.YtommeljlfkmpjaaGreatDoor
namespace Go.Proofs.YtommeljlfkmpjaaGreatDoor
open Go.RowKit Go.Proofs.YtommeljlfkmpjaaGreatDoorW.PrintWords
theorem within_calls (n lo hi : Int) (w : World) : Calls Tryz.prog 40 #[.int .i64 n, .int .i64 lo, .int .i64 hi] w fun e w' => e = .returned (.bool (inF lo hi n)) ∧ Below w.heap.size w w' := by
 refine x_calls (X := XNone) Tryz.func40 rfl rfl rfl ?_
 with_reducible ((repeat apply xc_seq); apply xcR)
 refine xoA ?_
 with_reducible (apply xo_nil; (repeat first | apply xqT | apply xqB | apply xqS); (repeat apply xc_seq))
 refine xc_meet2 (γ := Unit) (fun _ => True) (fun _ => [(6, .bool (inF lo hi n))]) (fun _ => []) ?_ (fun _ _ => ?_)
 ·with_reducible apply xcR
  refine xoM ?_
  refine xoM ?_
  refine xo_geq rfl rfl rfl rfl ?_
  refine xoM ?_
  first
   | refine xo_lit (i := 10) (b := true) rfl ?_
   | refine xo_lit (i := 10) (b := false) rfl ?_
   | refine xo_split (i := 10) rfl rfl (fun h10 => ?_) (fun h10 => ?_)
  all_goals
   try simp only [decide_eq_true_eq, decide_eq_false_iff_not] at h10
   (first | refine xoN ?_ | refine xoM ?_)
   (first | refine xoN ?_ | refine xoM ?_)
   (first | refine xoN ?_ | refine xo_leq rfl rfl rfl rfl ?_)
   first | refine xo_pickT rfl rfl rfl rfl ?_ | refine xo_pickF rfl rfl rfl rfl ?_
   refine xoA ?_
   with_reducible apply xo_nil
   exact xq_meet (fun _ => True) _ _ () trivial ⟨(by first | rfl | exact congrArg (fun b => some (Value.bool b)) (by first | simp [h10, inF] | simp [inF])), trivial⟩ (by repeat (first | exact List.Sublist.refl _ | apply List.Sublist.cons_cons | apply List.Sublist.cons | exact List.nil_sublist _))
 with_reducible ((repeat first | apply xqT | apply xqB | apply xqS); (repeat apply xc_seq); apply xc_ret; (repeat (first | apply xq_thenR | apply xq_blockR | apply xq_scopeR)))
 exact xq_ret1 rfl rfl fun w' hw => ⟨rfl, hw.kx.below⟩
theorem within_enters : ∀ args w, (callFunc 40 args).run Tryz.prog w = .ok (.enter 40 args) w := enters_of Tryz.func40 (by kernel_rfl) rfl
def greatF (gs : List GatT) (ms : List MarT) : Bool := decide ((10 : Int) < gs.length) || decide ((12 : Int) < ms.length)
theorem great_calls (R E : Int) (A B : Option Addr) (c c2 : Nat) (gs : List GatT) (ms : List MarT) (w : World) : Calls Tryz.prog 12 #[.agg (scnV R A gs.length c E B ms.length c2).toArray] w fun e w' => e = .returned (.bool (greatF gs ms)) ∧ Below w.heap.size w w' := by
 refine x_calls (X := XNone) Tryz.func12 rfl rfl rfl ?_
 with_reducible ((repeat apply xc_seq); apply xcR)
 refine xo_box rfl rfl rfl rfl (fun b1 => ?_)
 refine xoA ?_
 with_reducible (apply xo_nil; (repeat first | apply xqT | apply xqB | apply xqS); (repeat apply xc_seq))
 refine xc_meet2 (γ := Unit) (fun _ => True) (fun _ => [(2, .bool (greatF gs ms))]) (fun _ => []) ?_ (fun _ _ => ?_)
 ·with_reducible apply xcR
  refine xo_fa T_ rfl rfl rfl rfl rfl ?_
  refine xo_load0 T_ (cs := scnV R A gs.length c E B ms.length c2) rfl rfl rfl (List.Mem.head _) rfl rfl ?_
  refine xo_len T_ rfl rfl rfl rfl ?_
  refine xo_gtr rfl rfl rfl rfl ?_
  refine xoM ?_
  first
   | refine xo_lit (i := 7) (b := true) rfl ?_
   | refine xo_lit (i := 7) (b := false) rfl ?_
   | refine xo_split (i := 7) rfl rfl (fun h7 => ?_) (fun h7 => ?_)
  all_goals
   try simp only [decide_eq_true_eq, decide_eq_false_iff_not] at h7
   (first | refine xoN ?_ | refine xo_fa T_ rfl rfl rfl rfl rfl ?_)
   (first | refine xoN ?_ | refine xo_load0 T_ (cs := scnV R A gs.length c E B ms.length c2) rfl rfl rfl (List.Mem.head _) rfl rfl ?_)
   (first | refine xoN ?_ | refine xo_len T_ rfl rfl rfl rfl ?_)
   (first | refine xoN ?_ | refine xo_gtr rfl rfl rfl rfl ?_)
   first | refine xo_pickT rfl rfl rfl rfl ?_ | refine xo_pickF rfl rfl rfl rfl ?_
   refine xoA ?_
   with_reducible apply xo_nil
   exact xq_meet (fun _ => True) _ _ () trivial ⟨(by first | rfl | exact congrArg (fun b => some (Value.bool b)) (by first | simp [h7, greatF] | simp [greatF])), trivial⟩ (by repeat (first | exact List.Sublist.refl _ | apply List.Sublist.cons_cons | apply List.Sublist.cons | exact List.nil_sublist _))
 with_reducible ((repeat first | apply xqT | apply xqB | apply xqS); (repeat apply xc_seq); apply xc_ret; (repeat (first | apply xq_thenR | apply xq_blockR | apply xq_scopeR)))
 exact xq_ret1 rfl rfl fun w' hw => ⟨rfl, hw.kx.below⟩
theorem great_enters : ∀ args w, (callFunc 12 args).run Tryz.prog w = .ok (.enter 12 args) w := enters_of Tryz.func12 (by kernel_rfl) rfl
def spaE (x y : SpaT) : Bool := decide (x.f0 = y.f0) && decide (x.f1 = y.f1)
theorem spaE_iff {x y : SpaT} : spaE x y = true ↔ x = y := by
 obtain ⟨a, b⟩ := x
 obtain ⟨c, d⟩ := y
 simp [spaE]
theorem spa_ne (p q : Operand) (x y : SpaT) (w : World) : (eqGuard .neq 45 p q (.agg (spaV x).toArray) (.agg (spaV y).toArray)).run Tryz.prog w = .ok () w ∧ (binOp .neq 45 (.agg (spaV x).toArray) (.agg (spaV y).toArray)).run Tryz.prog w = .ok (.bool (!spaE x y)) w := by
 obtain ⟨a, b⟩ := x
 obtain ⟨c, d⟩ := y
 refine ⟨by simp only [spaV]; go_simp, ?_⟩
 simp only [spaE, spaV]
 go_simp
 repeat' split
 all_goals simp_all
section
variable {P : Program} {ro : Option Nat} {n N : Nat} {ds : List Deferred} {w0 : World} {X : Nat → Prop} {Q : Exit → Act → World → Prop} {σ : Slots} {η : Hp} {ops rest : List Oper} {d : Option Tmp} {ty : TypeId} {pos : String} {aft : Array Edge} {g : Option (Nat × Bool)}
theorem xo_neqV {t t' : TypeId} {x y : Operand} {u v : Value} {r : Bool} (hg : gS ops σ g = some true) (hx : ev σ x = some u) (hy : ev σ y = some v) (he : ∀ w, (eqGuard .neq t x y u v).run P w = .ok () w ∧ (binOp .neq t u v).run P w = .ok (.bool r) w) (hN : dstOK N d = true)
  (h : XO P ro n N ds w0 X Q ops (putS d (.bool r) σ) η rest) : XO P ro n N ds w0 X Q ops σ η (⟨d, .binOp .neq t x y t', ty, pos, aft, g⟩ :: rest) :=
 xo_val _ rfl hg hN (fun _ w ha hw => by
  obtain ⟨h1, h2⟩ := he w
  simp [execOp, ha.ev hx, ha.ev hy, h1, h2]) h
end
theorem take_eq_succ {α : Type} {xs ys : List α} (z : α) {k : Nat} (h1 : k < xs.length) (h2 : k < ys.length) (h : xs.take k = ys.take k) (e : xs.getD k z = ys.getD k z) : xs.take (k + 1) = ys.take (k + 1) := by
 have a1 : xs.getD k z = xs[k] := by simp [List.getD_eq_getElem?_getD, List.getElem?_eq_getElem h1]
 have a2 : ys.getD k z = ys[k] := by simp [List.getD_eq_getElem?_getD, List.getElem?_eq_getElem h2]
 rw [List.take_add_one, List.take_add_one, List.getElem?_eq_getElem h1, List.getElem?_eq_getElem h2, h, ← a1, ← a2, e]
abbrev IntsAt (w : World) (A : Option Addr) (xs : List Int) : Prop := RowOf (fun x : Int => [Value.int .i64 x]) 0 0 w A xs
theorem sameInts_calls (A1 A2 : Option Addr) (c1 c2 : Nat) (xs ys : List Int) (w : World) (r1 : IntsAt w A1 xs) (r2 : IntsAt w A2 ys) (l1 : xs.length ≤ 1000000) :
  Calls Tryz.prog 18 #[.slice A1 xs.length c1, .slice A2 ys.length c2] w fun e w' => e = .returned (.bool (decide (xs = ys))) ∧ Below w.heap.size w w' := by
 refine x_calls (X := XNone) Tryz.func18 rfl rfl rfl ?_
 with_reducible ((repeat apply xc_seq); apply xcR)
 refine xoA ?_
 with_reducible (apply xo_nil; (repeat first | apply xqT | apply xqB | apply xqS))
 cases hl : decide ((xs.length : Int) = ys.length)
 ·have hne : ¬ xs = ys := fun e => (of_decide_eq_false hl) (by rw [e])
  with_reducible ((repeat apply xc_seq); apply xcR)
  refine xoM ?_
  refine xo_len T_ rfl rfl rfl rfl ?_
  refine xoM ?_
  refine xo_len T_ rfl rfl rfl rfl ?_
  refine xo_neq rfl rfl rfl rfl ?_
  refine xo_as (i := 10) rfl (congrArg (fun b => Value.bool !b) hl) ?_
  with_reducible (apply xo_nil; (repeat first | apply xqT | apply xqB | apply xqS); (repeat apply xc_seq))
  refine xc_condT rfl ?_
  with_reducible ((repeat apply xc_seq); apply xcR)
  refine xoA ?_
  with_reducible (apply xo_nil; (repeat first | apply xqT | apply xqB | apply xqS); (repeat apply xc_seq); apply xc_ret; (repeat (first | apply xq_thenR | apply xq_blockR | apply xq_scopeR)))
  exact xq_ret1 rfl rfl fun w' hw => ⟨by rw [decide_eq_false hne], hw.kx.below⟩
 have hlen : xs.length = ys.length := by have := of_decide_eq_true hl; omega
 with_reducible ((repeat apply xc_seq); apply xcR)
 refine xoM ?_
 refine xo_len T_ rfl rfl rfl rfl ?_
 refine xoM ?_
 refine xo_len T_ rfl rfl rfl rfl ?_
 refine xo_neq rfl rfl rfl rfl ?_
 refine xo_as (i := 10) rfl (congrArg (fun b => Value.bool !b) hl) ?_
 with_reducible (apply xo_nil; (repeat first | apply xqT | apply xqB | apply xqS); (repeat apply xc_seq))
 refine xc_condF rfl ?_
 with_reducible (apply xc_skip; (repeat first | apply xqT | apply xqB | apply xqS); (repeat apply xc_seq); apply xcR)
 refine xoA ?_
 with_reducible (apply xo_nil; (repeat first | apply xqT | apply xqB | apply xqS); (repeat apply xc_seq); apply xc_block)
 refine xc_loop (γ := Nat) (fun k => k ≤ xs.length ∧ xs.take k = ys.take k) (fun k => [(0, .slice A1 xs.length c1), (1, .slice A2 ys.length c2), (5, .int .i64 (k : Int))]) (fun _ => []) (fun k => xs.length - k) 0 ⟨Nat.zero_le _, rfl⟩ ⟨rfl, rfl, rfl, trivial⟩ (List.nil_sublist _) ?_
 rintro k ⟨hk, heq⟩
 with_reducible ((repeat apply xc_seq); apply xcR)
 refine xoM ?_
 refine xoM ?_
 refine xo_len T_ rfl rfl rfl rfl ?_
 refine xo_lss rfl rfl rfl rfl ?_
 with_reducible (apply xo_nil; (repeat first | apply xqT | apply xqB | apply xqS); (repeat apply xc_seq))
 refine xc_cond rfl (fun h => ?_) (fun h => ?_)
 ·have hlt : k < xs.length := by have := of_decide_eq_true h; omega
  obtain ⟨ad1, rfl, q1⟩ := r1 k hlt
  obtain ⟨ad2, rfl, q2⟩ := r2 k (by omega)
  with_reducible (apply xc_skip; (repeat first | apply xqT | apply xqB | apply xqS); (repeat apply xc_seq); apply xc_block)
  refine xc_slots [(0, .slice (some ad1) xs.length c1), (1, .slice (some ad2) ys.length c2), (5, .int .i64 (k : Int))] ⟨rfl, rfl, rfl, trivial⟩ ?_
  with_reducible (repeat apply xc_seq)
  apply xc_drawN
  ·exact T_.mixed
  ·rfl
  ·rfl
  ·rfl
  ·rfl
  ·apply DrawOps.cons
   ·intro τ
    refine xoM ?_
    exact xoF
   apply DrawOps.cons
   ·intro τ
    refine xoM ?_
    exact xoF
   apply DrawOps.cons
   ·intro τ
    refine xo_ia T_ rfl rfl rfl rfl rfl ⟨by omega, by omega⟩ rfl ?_
    exact xoF
   apply DrawOps.cons
   ·intro τ
    refine xo_loadR0 T_ rfl rfl rfl q1 rfl ?_
    exact xoF
   apply DrawOps.cons
   ·intro τ
    refine xoM ?_
    exact xoF
   apply DrawOps.cons
   ·intro τ
    refine xoM ?_
    exact xoF
   apply DrawOps.cons
   ·intro τ
    refine xo_ia T_ rfl rfl rfl rfl rfl ⟨by omega, by omega⟩ rfl ?_
    exact xoF
   apply DrawOps.cons
   ·intro τ
    refine xo_loadR0 T_ rfl rfl rfl q2 rfl ?_
    exact xoF
   apply DrawOps.cons
   ·intro τ
    refine xo_neq rfl rfl rfl rfl ?_
    exact xoF
   exact DrawOps.nil
  ·rfl
  with_reducible ((repeat first | apply xqT | apply xqB | apply xqS); (repeat apply xc_seq))
  refine xc_cond rfl (fun h2 => ?_) (fun h2 => ?_)
  ·have hne : xs.getD k 0 ≠ ys.getD k 0 := by simpa using h2
   with_reducible ((repeat apply xc_seq); apply xcR)
   refine xoA ?_
   with_reducible (apply xo_nil; (repeat first | apply xqT | apply xqB | apply xqS); (repeat apply xc_seq); apply xc_ret; (repeat (first | apply xq_thenR | apply xq_blockR | apply xq_scopeR)))
   exact xq_ret1 rfl rfl fun w' hw => ⟨by rw [decide_eq_false (fun e => hne (by rw [e]))], hw.kx.below⟩
  ·have he : xs.getD k 0 = ys.getD k 0 := by simpa using h2
   with_reducible (apply xc_skip; (repeat first | apply xqT | apply xqB | apply xqS); (repeat apply xc_seq); apply xcR)
   refine xoM ?_
   refine xo_add rfl rfl rfl (by omega) rfl ?_
   refine xoA ?_
   with_reducible (apply xo_nil; (repeat first | apply xqT | apply xqB | apply xqS))
   exact xq_again _ _ _ _ _ (k + 1) ⟨hlt, take_eq_succ 0 hlt (by omega) heq he⟩ (by omega) ⟨rfl, rfl, rfl, trivial⟩ (List.nil_sublist _)
 have hge : k = xs.length := by have := of_decide_eq_false h; omega
 have hxy : xs = ys := by rwa [List.take_of_length_le (by omega), List.take_of_length_le (by omega)] at heq
 with_reducible (apply xc_exit; (repeat (first | apply xq_blockX | apply xq_thenE | refine xq_blockE rfl ?_ | apply xq_scopeE)); (repeat first | apply xqT | apply xqB | apply xqS); (repeat apply xc_seq); apply xcR)
 refine xoA ?_
 with_reducible (apply xo_nil; (repeat first | apply xqT | apply xqB | apply xqS); (repeat apply xc_seq); apply xc_ret; (repeat (first | apply xq_thenR | apply xq_blockR | apply xq_scopeR)))
 exact xq_ret1 rfl rfl fun w' hw => ⟨by rw [decide_eq_true hxy], hw.kx.below⟩
theorem sameInts_enters : ∀ args w, (callFunc 18 args).run Tryz.prog w = .ok (.enter 18 args) w := enters_of Tryz.func18 (by kernel_rfl) rfl
open Classical in
noncomputable def eqL {α : Type} (x y : α) : Bool := decide (x = y)
theorem eqL_true {α : Type} {x y : α} (h : x = y) : eqL x y = true := by simp [eqL, h]
theorem eqL_false {α : Type} {x y : α} (h : ¬ x = y) : eqL x y = false := by simp [eqL, h]
abbrev SpansAt (w : World) (A : Option Addr) (xs : List SpaT) : Prop := RowOf spaV 2 zSpa w A xs
theorem sameSpans_calls (A1 A2 : Option Addr) (c1 c2 : Nat) (xs ys : List SpaT) (w : World) (r1 : SpansAt w A1 xs) (r2 : SpansAt w A2 ys) (l1 : xs.length ≤ 1000000) :
  Calls Tryz.prog 33 #[.slice A1 xs.length c1, .slice A2 ys.length c2] w fun e w' => e = .returned (.bool (eqL xs ys)) ∧ Below w.heap.size w w' := by
 refine x_calls (X := XNone) Tryz.func33 rfl rfl rfl ?_
 with_reducible ((repeat apply xc_seq); apply xcR)
 refine xoA ?_
 with_reducible (apply xo_nil; (repeat first | apply xqT | apply xqB | apply xqS))
 cases hl : decide ((xs.length : Int) = ys.length)
 ·have hne : ¬ xs = ys := fun e => (of_decide_eq_false hl) (by rw [e])
  with_reducible ((repeat apply xc_seq); apply xcR)
  refine xoM ?_
  refine xo_len T_ rfl rfl rfl rfl ?_
  refine xoM ?_
  refine xo_len T_ rfl rfl rfl rfl ?_
  refine xo_neq rfl rfl rfl rfl ?_
  refine xo_as (i := 10) rfl (congrArg (fun b => Value.bool !b) hl) ?_
  with_reducible (apply xo_nil; (repeat first | apply xqT | apply xqB | apply xqS); (repeat apply xc_seq))
  refine xc_condT rfl ?_
  with_reducible ((repeat apply xc_seq); apply xcR)
  refine xoA ?_
  with_reducible (apply xo_nil; (repeat first | apply xqT | apply xqB | apply xqS); (repeat apply xc_seq); apply xc_ret; (repeat (first | apply xq_thenR | apply xq_blockR | apply xq_scopeR)))
  exact xq_ret1 rfl rfl fun w' hw => ⟨by rw [eqL_false hne], hw.kx.below⟩
 have hlen : xs.length = ys.length := by have := of_decide_eq_true hl; omega
 with_reducible ((repeat apply xc_seq); apply xcR)
 refine xoM ?_
 refine xo_len T_ rfl rfl rfl rfl ?_
 refine xoM ?_
 refine xo_len T_ rfl rfl rfl rfl ?_
 refine xo_neq rfl rfl rfl rfl ?_
 refine xo_as (i := 10) rfl (congrArg (fun b => Value.bool !b) hl) ?_
 with_reducible (apply xo_nil; (repeat first | apply xqT | apply xqB | apply xqS); (repeat apply xc_seq))
 refine xc_condF rfl ?_
 with_reducible (apply xc_skip; (repeat first | apply xqT | apply xqB | apply xqS); (repeat apply xc_seq); apply xcR)
 refine xoA ?_
 with_reducible (apply xo_nil; (repeat first | apply xqT | apply xqB | apply xqS); (repeat apply xc_seq); apply xc_block)
 refine xc_loop (γ := Nat) (fun k => k ≤ xs.length ∧ xs.take k = ys.take k) (fun k => [(0, .slice A1 xs.length c1), (1, .slice A2 ys.length c2), (5, .int .i64 (k : Int))]) (fun _ => []) (fun k => xs.length - k) 0 ⟨Nat.zero_le _, rfl⟩ ⟨rfl, rfl, rfl, trivial⟩ (List.nil_sublist _) ?_
 rintro k ⟨hk, heq⟩
 with_reducible ((repeat apply xc_seq); apply xcR)
 refine xoM ?_
 refine xoM ?_
 refine xo_len T_ rfl rfl rfl rfl ?_
 refine xo_lss rfl rfl rfl rfl ?_
 with_reducible (apply xo_nil; (repeat first | apply xqT | apply xqB | apply xqS); (repeat apply xc_seq))
 refine xc_cond rfl (fun h => ?_) (fun h => ?_)
 ·have hlt : k < xs.length := by have := of_decide_eq_true h; omega
  obtain ⟨ad1, rfl, q1⟩ := r1 k hlt
  obtain ⟨ad2, rfl, q2⟩ := r2 k (by omega)
  with_reducible (apply xc_skip; (repeat first | apply xqT | apply xqB | apply xqS); (repeat apply xc_seq); apply xc_block)
  refine xc_slots [(0, .slice (some ad1) xs.length c1), (1, .slice (some ad2) ys.length c2), (5, .int .i64 (k : Int))] ⟨rfl, rfl, rfl, trivial⟩ ?_
  with_reducible (repeat apply xc_seq)
  apply xc_drawN
  ·exact T_.mixed
  ·rfl
  ·rfl
  ·rfl
  ·rfl
  ·apply DrawOps.cons
   ·intro τ
    refine xoM ?_
    exact xoF
   apply DrawOps.cons
   ·intro τ
    refine xoM ?_
    exact xoF
   apply DrawOps.cons
   ·intro τ
    refine xo_ia T_ rfl rfl rfl rfl rfl ⟨by omega, by omega⟩ rfl ?_
    exact xoF
   apply DrawOps.cons
   ·intro τ
    refine xo_loadRN T_ rfl rfl rfl q1 rfl rfl ?_
    exact xoF
   apply DrawOps.cons
   ·intro τ
    refine xoM ?_
    exact xoF
   apply DrawOps.cons
   ·intro τ
    refine xoM ?_
    exact xoF
   apply DrawOps.cons
   ·intro τ
    refine xo_ia T_ rfl rfl rfl rfl rfl ⟨by omega, by omega⟩ rfl ?_
    exact xoF
   apply DrawOps.cons
   ·intro τ
    refine xo_loadRN T_ rfl rfl rfl q2 rfl rfl ?_
    exact xoF
   apply DrawOps.cons
   ·intro τ
    refine xo_neqV rfl rfl rfl (fun w => spa_ne _ _ (xs.getD k zSpa) (ys.getD k zSpa) w) rfl ?_
    exact xoF
   exact DrawOps.nil
  ·rfl
  with_reducible ((repeat first | apply xqT | apply xqB | apply xqS); (repeat apply xc_seq))
  refine xc_cond rfl (fun h2 => ?_) (fun h2 => ?_)
  ·have hne : ¬ xs.getD k zSpa = ys.getD k zSpa := fun e => by rw [spaE_iff.2 e] at h2; cases h2
   with_reducible ((repeat apply xc_seq); apply xcR)
   refine xoA ?_
   with_reducible (apply xo_nil; (repeat first | apply xqT | apply xqB | apply xqS); (repeat apply xc_seq); apply xc_ret; (repeat (first | apply xq_thenR | apply xq_blockR | apply xq_scopeR)))
   exact xq_ret1 rfl rfl fun w' hw => ⟨by rw [eqL_false (fun e => hne (by rw [e]))], hw.kx.below⟩
  ·have he : xs.getD k zSpa = ys.getD k zSpa := spaE_iff.1 (by simpa using h2)
   with_reducible (apply xc_skip; (repeat first | apply xqT | apply xqB | apply xqS); (repeat apply xc_seq); apply xcR)
   refine xoM ?_
   refine xo_add rfl rfl rfl (by omega) rfl ?_
   refine xoA ?_
   with_reducible (apply xo_nil; (repeat first | apply xqT | apply xqB | apply xqS))
   exact xq_again _ _ _ _ _ (k + 1) ⟨hlt, take_eq_succ zSpa hlt (by omega) heq he⟩ (by omega) ⟨rfl, rfl, rfl, trivial⟩ (List.nil_sublist _)
 have hge : k = xs.length := by have := of_decide_eq_false h; omega
 have hxy : xs = ys := by rwa [List.take_of_length_le (by omega), List.take_of_length_le (by omega)] at heq
 with_reducible (apply xc_exit; (repeat (first | apply xq_blockX | apply xq_thenE | refine xq_blockE rfl ?_ | apply xq_scopeE)); (repeat first | apply xqT | apply xqB | apply xqS); (repeat apply xc_seq); apply xcR)
 refine xoA ?_
 with_reducible (apply xo_nil; (repeat first | apply xqT | apply xqB | apply xqS); (repeat apply xc_seq); apply xc_ret; (repeat (first | apply xq_thenR | apply xq_blockR | apply xq_scopeR)))
 exact xq_ret1 rfl rfl fun w' hw => ⟨by rw [eqL_true hxy], hw.kx.below⟩
theorem sameSpans_enters : ∀ args w, (callFunc 33 args).run Tryz.prog w = .ok (.enter 33 args) w := enters_of Tryz.func33 (by kernel_rfl) rfl
def noneB (m : MarT) : Bool := decide (m.f4.f0 = 0) && decide (m.f4.f1 = 0)
def kindB (R : Int) (m : MarT) : Bool :=
 if m.f1 = 1 ∨ m.f1 = 2 ∨ m.f1 = 3 then decide (m.f3 = 0) && decide (m.f5 = 0) && inF 0 m.f4.f1 m.f4.f0 && decide (m.f4.f1 ≤ 600)
 else if m.f1 = 4 ∨ m.f1 = 5 then decide (m.f3 = 0) && noneB m && inF 0 600 m.f5
 else if m.f1 = 6 then noneB m && decide (m.f5 = 0) && inF 0 (R - 1) m.f3 && !decide (m.f3 = m.f2) else false
def markB (R : Int) (m : MarT) : Bool := inF 0 9999 m.f0 && inF 0 (R - 1) m.f2 && kindB R m
set_option maxHeartbeats 4000000 in
theorem mark_calls (R E : Int) (A B : Option Addr) (n c k c2 : Nat) (m : MarT) (w : World) (hR : 1 ≤ R ∧ R ≤ 6) :
  Calls Tryz.prog 65 #[.agg (scnV R A n c E B k c2).toArray, .agg (marV m).toArray] w fun e w' => e = .returned (.bool (markB R m)) ∧ Below w.heap.size w w' := by
 refine x_calls (X := XNone) Tryz.func65 rfl rfl rfl ?_
 with_reducible ((repeat apply xc_seq); apply xcR)
 refine xo_box rfl rfl rfl rfl (fun b2 => ?_)
 refine xo_box rfl rfl rfl rfl (fun b3 => ?_)
 refine xoA ?_
 with_reducible (apply xo_nil; (repeat first | apply xqT | apply xqB | apply xqS); (repeat apply xc_seq))
 refine xc_meet2 (γ := Unit) (fun _ => True) (fun _ => [(2, .pointer (some ⟨b2, 0, none⟩)), (3, .pointer (some ⟨b3, 0, none⟩)), (18, .bool (!inF 0 9999 m.f0 || !inF 0 (R - 1) m.f2))]) (fun _ => [(b3, true, cel (marV m) 56), (b2, true, cel (scnV R A n c E B k c2) 25)]) ?_ (fun _ _ => ?_)
 ·with_reducible apply xcR
  refine xo_fa T_ rfl rfl rfl rfl rfl ?_
  refine xo_load0 T_ rfl rfl rfl (by repeat first | exact mH | apply mT | apply mA) rfl rfl ?_
  refine xo_callB (fs := []) (cs := []) rfl rfl rfl within_enters rfl (fun w1 hw1 => within_calls m.f0 0 9999 w1) ?_
  refine xo_notOp rfl rfl rfl ?_
  refine xoM ?_
  first
   | refine xo_lit (i := 10) (b := true) rfl ?_
   | refine xo_lit (i := 10) (b := false) rfl ?_
   | refine xo_split (i := 10) rfl rfl (fun h10 => ?_) (fun h10 => ?_)
  all_goals
   try simp only [decide_eq_true_eq, decide_eq_false_iff_not] at h10
   (first | refine xoN ?_ | refine xo_fa T_ rfl rfl rfl rfl rfl ?_)
   (first | refine xoN ?_ | refine xo_load0 T_ rfl rfl rfl (by repeat first | exact mH | apply mT | apply mA) rfl rfl ?_)
   (first | refine xoN ?_ | refine xo_fa T_ rfl rfl rfl rfl rfl ?_)
   (first | refine xoN ?_ | refine xo_load0 T_ rfl rfl rfl (by repeat first | exact mH | apply mT | apply mA) rfl rfl ?_)
   (first | refine xoN ?_ | refine xo_sub rfl rfl rfl (by omega) rfl ?_)
   (first | refine xoN ?_ | refine xo_callB (fs := []) (cs := []) rfl rfl rfl within_enters rfl (fun w1 hw1 => within_calls m.f2 0 (R - 1) w1) ?_)
   (first | refine xoN ?_ | refine xo_notOp rfl rfl rfl ?_)
   first | refine xo_pickT rfl rfl rfl rfl ?_ | refine xo_pickF rfl rfl rfl rfl ?_
   with_reducible apply xo_nil
   exact xq_meet (fun _ => True) _ _ () trivial ⟨(by first | rfl | exact congrArg (fun b => some (Value.bool b)) (by first | simp [h10] | simp [])), (by first | rfl | exact congrArg (fun b => some (Value.bool b)) (by first | simp [h10] | simp [])), (by first | rfl | exact congrArg (fun b => some (Value.bool b)) (by first | simp [h10] | simp [])), trivial⟩ (by repeat (first | exact List.Sublist.refl _ | apply List.Sublist.cons_cons | apply List.Sublist.cons | exact List.nil_sublist _))
 with_reducible (repeat first | apply xqT | apply xqB | apply xqS)
 cases hq : (!inF 0 9999 m.f0 || !inF 0 (R - 1) m.f2)
 rotate_left
 ·have e1 : markB R m = false := by
   unfold markB
   cases h1 : inF 0 9999 m.f0 <;> cases h2 : inF 0 (R - 1) m.f2 <;> simp [h1, h2] at hq ⊢
  rw [e1]
  with_reducible (repeat apply xc_seq)
  refine xc_condT rfl ?_
  with_reducible ((repeat apply xc_seq); apply xcR)
  refine xoA ?_
  with_reducible (apply xo_nil; (repeat first | apply xqT | apply xqB | apply xqS); (repeat apply xc_seq); apply xc_ret; (repeat (first | apply xq_thenR | apply xq_blockR | apply xq_scopeR)))
  exact xq_ret1 rfl rfl fun w' hw => ⟨rfl, hw.kx.below⟩
 have e1 : markB R m = kindB R m := by
  unfold markB
  cases h1 : inF 0 9999 m.f0 <;> cases h2 : inF 0 (R - 1) m.f2 <;> simp [h1, h2] at hq ⊢
 rw [e1]
 clear e1 hq
 with_reducible (repeat apply xc_seq)
 refine xc_condF rfl ?_
 with_reducible (apply xc_skip; (repeat first | apply xqT | apply xqB | apply xqS); (repeat apply xc_seq); apply xcR)
 refine xo_fa T_ rfl rfl rfl rfl rfl ?_
 refine xo_loadN T_ rfl rfl rfl (by repeat first | exact mH | apply mT | apply mA) rfl rfl ?_
 refine xo_build TB_ rfl rfl rfl rfl rfl ?_
 refine xo_eqlV rfl rfl rfl (fun w => spa_eq _ _ m.f4.f0 m.f4.f1 0 0 w) rfl ?_
 refine xoA ?_
 with_reducible (apply xo_nil; (repeat first | apply xqT | apply xqB | apply xqS); (repeat apply xc_seq); apply xcR)
 refine xo_fa T_ rfl rfl rfl rfl rfl ?_
 refine xo_load0 T_ rfl rfl rfl (by repeat first | exact mH | apply mT | apply mA) rfl rfl ?_
 with_reducible (apply xo_nil; (repeat first | apply xqT | apply xqB | apply xqS))
 refine xc_slots [(2, .pointer (some ⟨b2, 0, none⟩)), (3, .pointer (some ⟨b3, 0, none⟩)), (5, .bool (noneB m)), (24, .int .u8 m.f1)] ⟨rfl, rfl, rfl, rfl, trivial⟩ ?_
 have hk : m.f1 = 1 ∨ m.f1 = 2 ∨ m.f1 = 3 ∨ m.f1 = 4 ∨ m.f1 = 5 ∨ m.f1 = 6 ∨ (decide (m.f1 = 1) = false ∧ decide (m.f1 = 2) = false ∧ decide (m.f1 = 3) = false ∧ decide (m.f1 = 4) = false ∧ decide (m.f1 = 5) = false ∧ decide (m.f1 = 6) = false) := by
  simp only [decide_eq_false_iff_not]
  omega
 have early : ∀ (b : Bool), kindB R m = b → True := fun _ _ => trivial
 clear early
 with_reducible ((repeat apply xc_seq); apply xc_block)
 rcases hk with hk | hk | hk | hk | hk | hk | ⟨k1, k2, k3, k4, k5, k6⟩
 ·have e1 : kindB R m = (decide (m.f3 = 0) && decide (m.f5 = 0) && inF 0 m.f4.f1 m.f4.f0 && decide (m.f4.f1 ≤ 600)) := by unfold kindB; rw [if_pos (by omega)]
  rw [e1]
  obtain ⟨a0, a1, a2, a3, ⟨a4, a5⟩, a6⟩ := m
  simp only at hk
  subst hk
  with_reducible ((repeat apply xc_seq); apply xcR)
  refine xo_eql rfl rfl rfl rfl ?_
  refine xoA ?_
  with_reducible (apply xo_nil; (repeat first | apply xqT | apply xqB | apply xqS); (repeat apply xc_seq))
  refine xc_condT rfl ?_
  with_reducible (apply xc_skip; (repeat first | apply xqT | apply xqB | apply xqS); (repeat apply xc_seq))
  refine xc_condT rfl ?_
  with_reducible (repeat apply xc_seq)
  refine xc_meet2 (γ := Unit) (fun _ => True) (fun _ => [(4, .bool (decide (a3 = 0) && decide (a6 = 0) && inF 0 a5 a4 && decide (a5 ≤ 600)))]) (fun _ => []) ?_ (fun _ _ => ?_)
  ·with_reducible apply xcR
   refine xo_fa T_ rfl rfl rfl rfl rfl ?_
   refine xo_load0 T_ rfl rfl rfl (by repeat first | exact mH | apply mT | apply mA) rfl rfl ?_
   refine xo_eql rfl rfl rfl rfl ?_
   refine xoM ?_
   first
    | refine xo_lit (i := 32) (b := true) rfl ?_
    | refine xo_lit (i := 32) (b := false) rfl ?_
    | refine xo_split (i := 32) rfl rfl (fun h32 => ?_) (fun h32 => ?_)
   all_goals
    try simp only [decide_eq_true_eq, decide_eq_false_iff_not] at h32
    (first | refine xoN ?_ | refine xo_fa T_ rfl rfl rfl rfl rfl ?_)
    (first | refine xoN ?_ | refine xo_load0 T_ rfl rfl rfl (by repeat first | exact mH | apply mT | apply mA) rfl rfl ?_)
    (first | refine xoN ?_ | refine xo_eql rfl rfl rfl rfl ?_)
    first | refine xo_pickT rfl rfl rfl rfl ?_ | refine xo_pickF rfl rfl rfl rfl ?_
    refine xoM ?_
    first
     | refine xo_lit (i := 37) (b := true) rfl ?_
     | refine xo_lit (i := 37) (b := false) rfl ?_
     | refine xo_split (i := 37) rfl rfl (fun h37 => ?_) (fun h37 => ?_)
    all_goals
     try simp only [decide_eq_true_eq, decide_eq_false_iff_not] at h37
     (first | refine xoN ?_ | refine xo_fa T_ rfl rfl rfl rfl rfl ?_)
     (first | refine xoN ?_ | refine xo_fa T_ rfl rfl rfl rfl rfl ?_)
     (first | refine xoN ?_ | refine xo_load0 T_ rfl rfl rfl (by repeat first | exact mH | apply mT | apply mA) rfl rfl ?_)
     (first | refine xoN ?_ | refine xo_fa T_ rfl rfl rfl rfl rfl ?_)
     (first | refine xoN ?_ | refine xo_fa T_ rfl rfl rfl rfl rfl ?_)
     (first | refine xoN ?_ | refine xo_load0 T_ rfl rfl rfl (by repeat first | exact mH | apply mT | apply mA) rfl rfl ?_)
     (first | refine xoN ?_ | refine xo_callB (fs := []) (cs := []) rfl rfl rfl within_enters rfl (fun w1 hw1 => within_calls a4 0 a5 w1) ?_)
     first | refine xo_pickT rfl rfl rfl rfl ?_ | refine xo_pickF rfl rfl rfl rfl ?_
     refine xoM ?_
     first
      | refine xo_lit (i := 46) (b := true) rfl ?_
      | refine xo_lit (i := 46) (b := false) rfl ?_
      | refine xo_split (i := 46) rfl rfl (fun h46 => ?_) (fun h46 => ?_)
     all_goals
      try simp only [decide_eq_true_eq, decide_eq_false_iff_not] at h46
      (first | refine xoN ?_ | refine xo_fa T_ rfl rfl rfl rfl rfl ?_)
      (first | refine xoN ?_ | refine xo_fa T_ rfl rfl rfl rfl rfl ?_)
      (first | refine xoN ?_ | refine xo_load0 T_ rfl rfl rfl (by repeat first | exact mH | apply mT | apply mA) rfl rfl ?_)
      (first | refine xoN ?_ | refine xo_leq rfl rfl rfl rfl ?_)
      first | refine xo_pickT rfl rfl rfl rfl ?_ | refine xo_pickF rfl rfl rfl rfl ?_
      refine xoA ?_
      with_reducible apply xo_nil
      exact xq_meet (fun _ => True) _ _ () trivial ⟨(by first | rfl | exact congrArg (fun b => some (Value.bool b)) (by first | simp [h32, h37, h46] | simp [h32, h37] | simp [h32] | simp [])), trivial⟩ (by repeat (first | exact List.Sublist.refl _ | apply List.Sublist.cons_cons | apply List.Sublist.cons | exact List.nil_sublist _))
  with_reducible ((repeat first | apply xqT | apply xqB | apply xqS); (repeat apply xc_seq); apply xc_ret; (repeat (first | apply xq_thenR | apply xq_blockR | apply xq_scopeR)))
  exact xq_ret1 rfl rfl fun w' hw => ⟨rfl, hw.kx.below⟩
 ·have e1 : kindB R m = (decide (m.f3 = 0) && decide (m.f5 = 0) && inF 0 m.f4.f1 m.f4.f0 && decide (m.f4.f1 ≤ 600)) := by unfold kindB; rw [if_pos (by omega)]
  rw [e1]
  obtain ⟨a0, a1, a2, a3, ⟨a4, a5⟩, a6⟩ := m
  simp only at hk
  subst hk
  with_reducible ((repeat apply xc_seq); apply xcR)
  refine xo_eql rfl rfl rfl rfl ?_
  refine xoA ?_
  with_reducible (apply xo_nil; (repeat first | apply xqT | apply xqB | apply xqS); (repeat apply xc_seq))
  refine xc_condF rfl ?_
  with_reducible ((repeat apply xc_seq); apply xcR)
  refine xo_eql rfl rfl rfl rfl ?_
  refine xoA ?_
  with_reducible (apply xo_nil; (repeat first | apply xqT | apply xqB | apply xqS); (repeat apply xc_seq))
  refine xc_condT rfl ?_
  with_reducible (apply xc_skip; (repeat first | apply xqT | apply xqB | apply xqS); (repeat apply xc_seq))
  refine xc_condT rfl ?_
  with_reducible (repeat apply xc_seq)
  refine xc_meet2 (γ := Unit) (fun _ => True) (fun _ => [(4, .bool (decide (a3 = 0) && decide (a6 = 0) && inF 0 a5 a4 && decide (a5 ≤ 600)))]) (fun _ => []) ?_ (fun _ _ => ?_)
  ·with_reducible apply xcR
   refine xo_fa T_ rfl rfl rfl rfl rfl ?_
   refine xo_load0 T_ rfl rfl rfl (by repeat first | exact mH | apply mT | apply mA) rfl rfl ?_
   refine xo_eql rfl rfl rfl rfl ?_
   refine xoM ?_
   first
    | refine xo_lit (i := 32) (b := true) rfl ?_
    | refine xo_lit (i := 32) (b := false) rfl ?_
    | refine xo_split (i := 32) rfl rfl (fun h32 => ?_) (fun h32 => ?_)
   all_goals
    try simp only [decide_eq_true_eq, decide_eq_false_iff_not] at h32
    (first | refine xoN ?_ | refine xo_fa T_ rfl rfl rfl rfl rfl ?_)
    (first | refine xoN ?_ | refine xo_load0 T_ rfl rfl rfl (by repeat first | exact mH | apply mT | apply mA) rfl rfl ?_)
    (first | refine xoN ?_ | refine xo_eql rfl rfl rfl rfl ?_)
    first | refine xo_pickT rfl rfl rfl rfl ?_ | refine xo_pickF rfl rfl rfl rfl ?_
    refine xoM ?_
    first
     | refine xo_lit (i := 37) (b := true) rfl ?_
     | refine xo_lit (i := 37) (b := false) rfl ?_
     | refine xo_split (i := 37) rfl rfl (fun h37 => ?_) (fun h37 => ?_)
    all_goals
     try simp only [decide_eq_true_eq, decide_eq_false_iff_not] at h37
     (first | refine xoN ?_ | refine xo_fa T_ rfl rfl rfl rfl rfl ?_)
     (first | refine xoN ?_ | refine xo_fa T_ rfl rfl rfl rfl rfl ?_)
     (first | refine xoN ?_ | refine xo_load0 T_ rfl rfl rfl (by repeat first | exact mH | apply mT | apply mA) rfl rfl ?_)
     (first | refine xoN ?_ | refine xo_fa T_ rfl rfl rfl rfl rfl ?_)
     (first | refine xoN ?_ | refine xo_fa T_ rfl rfl rfl rfl rfl ?_)
     (first | refine xoN ?_ | refine xo_load0 T_ rfl rfl rfl (by repeat first | exact mH | apply mT | apply mA) rfl rfl ?_)
     (first | refine xoN ?_ | refine xo_callB (fs := []) (cs := []) rfl rfl rfl within_enters rfl (fun w1 hw1 => within_calls a4 0 a5 w1) ?_)
     first | refine xo_pickT rfl rfl rfl rfl ?_ | refine xo_pickF rfl rfl rfl rfl ?_
     refine xoM ?_
     first
      | refine xo_lit (i := 46) (b := true) rfl ?_
      | refine xo_lit (i := 46) (b := false) rfl ?_
      | refine xo_split (i := 46) rfl rfl (fun h46 => ?_) (fun h46 => ?_)
     all_goals
      try simp only [decide_eq_true_eq, decide_eq_false_iff_not] at h46
      (first | refine xoN ?_ | refine xo_fa T_ rfl rfl rfl rfl rfl ?_)
      (first | refine xoN ?_ | refine xo_fa T_ rfl rfl rfl rfl rfl ?_)
      (first | refine xoN ?_ | refine xo_load0 T_ rfl rfl rfl (by repeat first | exact mH | apply mT | apply mA) rfl rfl ?_)
      (first | refine xoN ?_ | refine xo_leq rfl rfl rfl rfl ?_)
      first | refine xo_pickT rfl rfl rfl rfl ?_ | refine xo_pickF rfl rfl rfl rfl ?_
      refine xoA ?_
      with_reducible apply xo_nil
      exact xq_meet (fun _ => True) _ _ () trivial ⟨(by first | rfl | exact congrArg (fun b => some (Value.bool b)) (by first | simp [h32, h37, h46] | simp [h32, h37] | simp [h32] | simp [])), trivial⟩ (by repeat (first | exact List.Sublist.refl _ | apply List.Sublist.cons_cons | apply List.Sublist.cons | exact List.nil_sublist _))
  with_reducible ((repeat first | apply xqT | apply xqB | apply xqS); (repeat apply xc_seq); apply xc_ret; (repeat (first | apply xq_thenR | apply xq_blockR | apply xq_scopeR)))
  exact xq_ret1 rfl rfl fun w' hw => ⟨rfl, hw.kx.below⟩
 ·have e1 : kindB R m = (decide (m.f3 = 0) && decide (m.f5 = 0) && inF 0 m.f4.f1 m.f4.f0 && decide (m.f4.f1 ≤ 600)) := by unfold kindB; rw [if_pos (by omega)]
  rw [e1]
  obtain ⟨a0, a1, a2, a3, ⟨a4, a5⟩, a6⟩ := m
  simp only at hk
  subst hk
  with_reducible ((repeat apply xc_seq); apply xcR)
  refine xo_eql rfl rfl rfl rfl ?_
  refine xoA ?_
  with_reducible (apply xo_nil; (repeat first | apply xqT | apply xqB | apply xqS); (repeat apply xc_seq))
  refine xc_condF rfl ?_
  with_reducible ((repeat apply xc_seq); apply xcR)
  refine xo_eql rfl rfl rfl rfl ?_
  refine xoA ?_
  with_reducible (apply xo_nil; (repeat first | apply xqT | apply xqB | apply xqS); (repeat apply xc_seq))
  refine xc_condF rfl ?_
  with_reducible ((repeat apply xc_seq); apply xcR)
  refine xo_eql rfl rfl rfl rfl ?_
  refine xoA ?_
  with_reducible (apply xo_nil; (repeat first | apply xqT | apply xqB | apply xqS); (repeat apply xc_seq))
  refine xc_condT rfl ?_
  with_reducible (repeat apply xc_seq)
  refine xc_meet2 (γ := Unit) (fun _ => True) (fun _ => [(4, .bool (decide (a3 = 0) && decide (a6 = 0) && inF 0 a5 a4 && decide (a5 ≤ 600)))]) (fun _ => []) ?_ (fun _ _ => ?_)
  ·with_reducible apply xcR
   refine xo_fa T_ rfl rfl rfl rfl rfl ?_
   refine xo_load0 T_ rfl rfl rfl (by repeat first | exact mH | apply mT | apply mA) rfl rfl ?_
   refine xo_eql rfl rfl rfl rfl ?_
   refine xoM ?_
   first
    | refine xo_lit (i := 32) (b := true) rfl ?_
    | refine xo_lit (i := 32) (b := false) rfl ?_
    | refine xo_split (i := 32) rfl rfl (fun h32 => ?_) (fun h32 => ?_)
   all_goals
    try simp only [decide_eq_true_eq, decide_eq_false_iff_not] at h32
    (first | refine xoN ?_ | refine xo_fa T_ rfl rfl rfl rfl rfl ?_)
    (first | refine xoN ?_ | refine xo_load0 T_ rfl rfl rfl (by repeat first | exact mH | apply mT | apply mA) rfl rfl ?_)
    (first | refine xoN ?_ | refine xo_eql rfl rfl rfl rfl ?_)
    first | refine xo_pickT rfl rfl rfl rfl ?_ | refine xo_pickF rfl rfl rfl rfl ?_
    refine xoM ?_
    first
     | refine xo_lit (i := 37) (b := true) rfl ?_
     | refine xo_lit (i := 37) (b := false) rfl ?_
     | refine xo_split (i := 37) rfl rfl (fun h37 => ?_) (fun h37 => ?_)
    all_goals
     try simp only [decide_eq_true_eq, decide_eq_false_iff_not] at h37
     (first | refine xoN ?_ | refine xo_fa T_ rfl rfl rfl rfl rfl ?_)
     (first | refine xoN ?_ | refine xo_fa T_ rfl rfl rfl rfl rfl ?_)
     (first | refine xoN ?_ | refine xo_load0 T_ rfl rfl rfl (by repeat first | exact mH | apply mT | apply mA) rfl rfl ?_)
     (first | refine xoN ?_ | refine xo_fa T_ rfl rfl rfl rfl rfl ?_)
     (first | refine xoN ?_ | refine xo_fa T_ rfl rfl rfl rfl rfl ?_)
     (first | refine xoN ?_ | refine xo_load0 T_ rfl rfl rfl (by repeat first | exact mH | apply mT | apply mA) rfl rfl ?_)
     (first | refine xoN ?_ | refine xo_callB (fs := []) (cs := []) rfl rfl rfl within_enters rfl (fun w1 hw1 => within_calls a4 0 a5 w1) ?_)
     first | refine xo_pickT rfl rfl rfl rfl ?_ | refine xo_pickF rfl rfl rfl rfl ?_
     refine xoM ?_
     first
      | refine xo_lit (i := 46) (b := true) rfl ?_
      | refine xo_lit (i := 46) (b := false) rfl ?_
      | refine xo_split (i := 46) rfl rfl (fun h46 => ?_) (fun h46 => ?_)
     all_goals
      try simp only [decide_eq_true_eq, decide_eq_false_iff_not] at h46
      (first | refine xoN ?_ | refine xo_fa T_ rfl rfl rfl rfl rfl ?_)
      (first | refine xoN ?_ | refine xo_fa T_ rfl rfl rfl rfl rfl ?_)
      (first | refine xoN ?_ | refine xo_load0 T_ rfl rfl rfl (by repeat first | exact mH | apply mT | apply mA) rfl rfl ?_)
      (first | refine xoN ?_ | refine xo_leq rfl rfl rfl rfl ?_)
      first | refine xo_pickT rfl rfl rfl rfl ?_ | refine xo_pickF rfl rfl rfl rfl ?_
      refine xoA ?_
      with_reducible apply xo_nil
      exact xq_meet (fun _ => True) _ _ () trivial ⟨(by first | rfl | exact congrArg (fun b => some (Value.bool b)) (by first | simp [h32, h37, h46] | simp [h32, h37] | simp [h32] | simp [])), trivial⟩ (by repeat (first | exact List.Sublist.refl _ | apply List.Sublist.cons_cons | apply List.Sublist.cons | exact List.nil_sublist _))
  with_reducible ((repeat first | apply xqT | apply xqB | apply xqS); (repeat apply xc_seq); apply xc_ret; (repeat (first | apply xq_thenR | apply xq_blockR | apply xq_scopeR)))
  exact xq_ret1 rfl rfl fun w' hw => ⟨rfl, hw.kx.below⟩
 ·have e1 : kindB R m = (decide (m.f3 = 0) && noneB m && inF 0 600 m.f5) := by unfold kindB; rw [if_neg (by omega), if_pos (by omega)]
  rw [e1]
  generalize noneB m = nb
  obtain ⟨a0, a1, a2, a3, ⟨a4, a5⟩, a6⟩ := m
  simp only at hk
  subst hk
  with_reducible ((repeat apply xc_seq); apply xcR)
  refine xo_eql rfl rfl rfl rfl ?_
  refine xoA ?_
  with_reducible (apply xo_nil; (repeat first | apply xqT | apply xqB | apply xqS); (repeat apply xc_seq))
  refine xc_condF rfl ?_
  with_reducible ((repeat apply xc_seq); apply xcR)
  refine xo_eql rfl rfl rfl rfl ?_
  refine xoA ?_
  with_reducible (apply xo_nil; (repeat first | apply xqT | apply xqB | apply xqS); (repeat apply xc_seq))
  refine xc_condF rfl ?_
  with_reducible ((repeat apply xc_seq); apply xcR)
  refine xo_eql rfl rfl rfl rfl ?_
  refine xoA ?_
  with_reducible (apply xo_nil; (repeat first | apply xqT | apply xqB | apply xqS); (repeat apply xc_seq))
  refine xc_condF rfl ?_
  with_reducible ((repeat apply xc_seq); apply xcR)
  refine xo_eql rfl rfl rfl rfl ?_
  refine xoA ?_
  with_reducible (apply xo_nil; (repeat first | apply xqT | apply xqB | apply xqS); (repeat apply xc_seq))
  refine xc_condT rfl ?_
  with_reducible (apply xc_skip; (repeat first | apply xqT | apply xqB | apply xqS); (repeat apply xc_seq))
  refine xc_condT rfl ?_
  with_reducible (repeat apply xc_seq)
  refine xc_meet2 (γ := Unit) (fun _ => True) (fun _ => [(4, .bool (decide (a3 = 0) && nb && inF 0 600 a6))]) (fun _ => []) ?_ (fun _ _ => ?_)
  ·with_reducible apply xcR
   refine xo_fa T_ rfl rfl rfl rfl rfl ?_
   refine xo_load0 T_ rfl rfl rfl (by repeat first | exact mH | apply mT | apply mA) rfl rfl ?_
   refine xo_eql rfl rfl rfl rfl ?_
   refine xoM ?_
   first
    | refine xo_lit (i := 58) (b := true) rfl ?_
    | refine xo_lit (i := 58) (b := false) rfl ?_
    | refine xo_split (i := 58) rfl rfl (fun h58 => ?_) (fun h58 => ?_)
   all_goals
    try simp only [decide_eq_true_eq, decide_eq_false_iff_not] at h58
    (first | refine xoN ?_ | refine xoM ?_)
    first | refine xo_pickT rfl rfl rfl rfl ?_ | refine xo_pickF rfl rfl rfl rfl ?_
    refine xoM ?_
    first
     | refine xo_lit (i := 61) (b := true) rfl ?_
     | refine xo_lit (i := 61) (b := false) rfl ?_
     | refine xo_split (i := 61) rfl rfl (fun h61 => ?_) (fun h61 => ?_)
    all_goals
     try simp only [decide_eq_true_eq, decide_eq_false_iff_not] at h61
     (first | refine xoN ?_ | refine xo_fa T_ rfl rfl rfl rfl rfl ?_)
     (first | refine xoN ?_ | refine xo_load0 T_ rfl rfl rfl (by repeat first | exact mH | apply mT | apply mA) rfl rfl ?_)
     (first | refine xoN ?_ | refine xo_callB (fs := []) (cs := []) rfl rfl rfl within_enters rfl (fun w1 hw1 => within_calls a6 0 600 w1) ?_)
     first | refine xo_pickT rfl rfl rfl rfl ?_ | refine xo_pickF rfl rfl rfl rfl ?_
     refine xoA ?_
     with_reducible apply xo_nil
     exact xq_meet (fun _ => True) _ _ () trivial ⟨(by first | rfl | exact congrArg (fun b => some (Value.bool b)) (by first | simp [h58, h61] | simp [h58] | simp [])), trivial⟩ (by repeat (first | exact List.Sublist.refl _ | apply List.Sublist.cons_cons | apply List.Sublist.cons | exact List.nil_sublist _))
  with_reducible ((repeat first | apply xqT | apply xqB | apply xqS); (repeat apply xc_seq); apply xc_ret; (repeat (first | apply xq_thenR | apply xq_blockR | apply xq_scopeR)))
  exact xq_ret1 rfl rfl fun w' hw => ⟨rfl, hw.kx.below⟩
 ·have e1 : kindB R m = (decide (m.f3 = 0) && noneB m && inF 0 600 m.f5) := by unfold kindB; rw [if_neg (by omega), if_pos (by omega)]
  rw [e1]
  generalize noneB m = nb
  obtain ⟨a0, a1, a2, a3, ⟨a4, a5⟩, a6⟩ := m
  simp only at hk
  subst hk
  with_reducible ((repeat apply xc_seq); apply xcR)
  refine xo_eql rfl rfl rfl rfl ?_
  refine xoA ?_
  with_reducible (apply xo_nil; (repeat first | apply xqT | apply xqB | apply xqS); (repeat apply xc_seq))
  refine xc_condF rfl ?_
  with_reducible ((repeat apply xc_seq); apply xcR)
  refine xo_eql rfl rfl rfl rfl ?_
  refine xoA ?_
  with_reducible (apply xo_nil; (repeat first | apply xqT | apply xqB | apply xqS); (repeat apply xc_seq))
  refine xc_condF rfl ?_
  with_reducible ((repeat apply xc_seq); apply xcR)
  refine xo_eql rfl rfl rfl rfl ?_
  refine xoA ?_
  with_reducible (apply xo_nil; (repeat first | apply xqT | apply xqB | apply xqS); (repeat apply xc_seq))
  refine xc_condF rfl ?_
  with_reducible ((repeat apply xc_seq); apply xcR)
  refine xo_eql rfl rfl rfl rfl ?_
  refine xoA ?_
  with_reducible (apply xo_nil; (repeat first | apply xqT | apply xqB | apply xqS); (repeat apply xc_seq))
  refine xc_condF rfl ?_
  with_reducible ((repeat apply xc_seq); apply xcR)
  refine xo_eql rfl rfl rfl rfl ?_
  refine xoA ?_
  with_reducible (apply xo_nil; (repeat first | apply xqT | apply xqB | apply xqS); (repeat apply xc_seq))
  refine xc_condT rfl ?_
  with_reducible (repeat apply xc_seq)
  refine xc_meet2 (γ := Unit) (fun _ => True) (fun _ => [(4, .bool (decide (a3 = 0) && nb && inF 0 600 a6))]) (fun _ => []) ?_ (fun _ _ => ?_)
  ·with_reducible apply xcR
   refine xo_fa T_ rfl rfl rfl rfl rfl ?_
   refine xo_load0 T_ rfl rfl rfl (by repeat first | exact mH | apply mT | apply mA) rfl rfl ?_
   refine xo_eql rfl rfl rfl rfl ?_
   refine xoM ?_
   first
    | refine xo_lit (i := 58) (b := true) rfl ?_
    | refine xo_lit (i := 58) (b := false) rfl ?_
    | refine xo_split (i := 58) rfl rfl (fun h58 => ?_) (fun h58 => ?_)
   all_goals
    try simp only [decide_eq_true_eq, decide_eq_false_iff_not] at h58
    (first | refine xoN ?_ | refine xoM ?_)
    first | refine xo_pickT rfl rfl rfl rfl ?_ | refine xo_pickF rfl rfl rfl rfl ?_
    refine xoM ?_
    first
     | refine xo_lit (i := 61) (b := true) rfl ?_
     | refine xo_lit (i := 61) (b := false) rfl ?_
     | refine xo_split (i := 61) rfl rfl (fun h61 => ?_) (fun h61 => ?_)
    all_goals
     try simp only [decide_eq_true_eq, decide_eq_false_iff_not] at h61
     (first | refine xoN ?_ | refine xo_fa T_ rfl rfl rfl rfl rfl ?_)
     (first | refine xoN ?_ | refine xo_load0 T_ rfl rfl rfl (by repeat first | exact mH | apply mT | apply mA) rfl rfl ?_)
     (first | refine xoN ?_ | refine xo_callB (fs := []) (cs := []) rfl rfl rfl within_enters rfl (fun w1 hw1 => within_calls a6 0 600 w1) ?_)
     first | refine xo_pickT rfl rfl rfl rfl ?_ | refine xo_pickF rfl rfl rfl rfl ?_
     refine xoA ?_
     with_reducible apply xo_nil
     exact xq_meet (fun _ => True) _ _ () trivial ⟨(by first | rfl | exact congrArg (fun b => some (Value.bool b)) (by first | simp [h58, h61] | simp [h58] | simp [])), trivial⟩ (by repeat (first | exact List.Sublist.refl _ | apply List.Sublist.cons_cons | apply List.Sublist.cons | exact List.nil_sublist _))
  with_reducible ((repeat first | apply xqT | apply xqB | apply xqS); (repeat apply xc_seq); apply xc_ret; (repeat (first | apply xq_thenR | apply xq_blockR | apply xq_scopeR)))
  exact xq_ret1 rfl rfl fun w' hw => ⟨rfl, hw.kx.below⟩
 ·have e1 : kindB R m = (noneB m && decide (m.f5 = 0) && inF 0 (R - 1) m.f3 && !decide (m.f3 = m.f2)) := by unfold kindB; rw [if_neg (by omega), if_neg (by omega), if_pos (by omega)]
  rw [e1]
  generalize noneB m = nb
  obtain ⟨a0, a1, a2, a3, ⟨a4, a5⟩, a6⟩ := m
  simp only at hk
  subst hk
  with_reducible ((repeat apply xc_seq); apply xcR)
  refine xo_eql rfl rfl rfl rfl ?_
  refine xoA ?_
  with_reducible (apply xo_nil; (repeat first | apply xqT | apply xqB | apply xqS); (repeat apply xc_seq))
  refine xc_condF rfl ?_
  with_reducible ((repeat apply xc_seq); apply xcR)
  refine xo_eql rfl rfl rfl rfl ?_
  refine xoA ?_
  with_reducible (apply xo_nil; (repeat first | apply xqT | apply xqB | apply xqS); (repeat apply xc_seq))
  refine xc_condF rfl ?_
  with_reducible ((repeat apply xc_seq); apply xcR)
  refine xo_eql rfl rfl rfl rfl ?_
  refine xoA ?_
  with_reducible (apply xo_nil; (repeat first | apply xqT | apply xqB | apply xqS); (repeat apply xc_seq))
  refine xc_condF rfl ?_
  with_reducible ((repeat apply xc_seq); apply xcR)
  refine xo_eql rfl rfl rfl rfl ?_
  refine xoA ?_
  with_reducible (apply xo_nil; (repeat first | apply xqT | apply xqB | apply xqS); (repeat apply xc_seq))
  refine xc_condF rfl ?_
  with_reducible ((repeat apply xc_seq); apply xcR)
  refine xo_eql rfl rfl rfl rfl ?_
  refine xoA ?_
  with_reducible (apply xo_nil; (repeat first | apply xqT | apply xqB | apply xqS); (repeat apply xc_seq))
  refine xc_condF rfl ?_
  with_reducible ((repeat apply xc_seq); apply xcR)
  refine xo_eql rfl rfl rfl rfl ?_
  refine xoA ?_
  with_reducible (apply xo_nil; (repeat first | apply xqT | apply xqB | apply xqS); (repeat apply xc_seq))
  refine xc_condT rfl ?_
  with_reducible (repeat apply xc_seq)
  refine xc_meet2 (γ := Unit) (fun _ => True) (fun _ => [(4, .bool (nb && decide (a6 = 0) && inF 0 (R - 1) a3 && !decide (a3 = a2)))]) (fun _ => []) ?_ (fun _ _ => ?_)
  ·with_reducible apply xcR
   refine xoM ?_
   refine xoM ?_
   first
    | refine xo_lit (i := 69) (b := true) rfl ?_
    | refine xo_lit (i := 69) (b := false) rfl ?_
    | refine xo_split (i := 69) rfl rfl (fun h69 => ?_) (fun h69 => ?_)
   all_goals
    try simp only [decide_eq_true_eq, decide_eq_false_iff_not] at h69
    (first | refine xoN ?_ | refine xo_fa T_ rfl rfl rfl rfl rfl ?_)
    (first | refine xoN ?_ | refine xo_load0 T_ rfl rfl rfl (by repeat first | exact mH | apply mT | apply mA) rfl rfl ?_)
    (first | refine xoN ?_ | refine xo_eql rfl rfl rfl rfl ?_)
    first | refine xo_pickT rfl rfl rfl rfl ?_ | refine xo_pickF rfl rfl rfl rfl ?_
    refine xoM ?_
    first
     | refine xo_lit (i := 74) (b := true) rfl ?_
     | refine xo_lit (i := 74) (b := false) rfl ?_
     | refine xo_split (i := 74) rfl rfl (fun h74 => ?_) (fun h74 => ?_)
    all_goals
     try simp only [decide_eq_true_eq, decide_eq_false_iff_not] at h74
     (first | refine xoN ?_ | refine xo_fa T_ rfl rfl rfl rfl rfl ?_)
     (first | refine xoN ?_ | refine xo_load0 T_ rfl rfl rfl (by repeat first | exact mH | apply mT | apply mA) rfl rfl ?_)
     (first | refine xoN ?_ | refine xo_fa T_ rfl rfl rfl rfl rfl ?_)
     (first | refine xoN ?_ | refine xo_load0 T_ rfl rfl rfl (by repeat first | exact mH | apply mT | apply mA) rfl rfl ?_)
     (first | refine xoN ?_ | refine xo_sub rfl rfl rfl (by omega) rfl ?_)
     (first | refine xoN ?_ | refine xo_callB (fs := []) (cs := []) rfl rfl rfl within_enters rfl (fun w1 hw1 => within_calls a3 0 (R - 1) w1) ?_)
     first | refine xo_pickT rfl rfl rfl rfl ?_ | refine xo_pickF rfl rfl rfl rfl ?_
     refine xoM ?_
     first
      | refine xo_lit (i := 82) (b := true) rfl ?_
      | refine xo_lit (i := 82) (b := false) rfl ?_
      | refine xo_split (i := 82) rfl rfl (fun h82 => ?_) (fun h82 => ?_)
     all_goals
      try simp only [decide_eq_true_eq, decide_eq_false_iff_not] at h82
      (first | refine xoN ?_ | refine xo_fa T_ rfl rfl rfl rfl rfl ?_)
      (first | refine xoN ?_ | refine xo_load0 T_ rfl rfl rfl (by repeat first | exact mH | apply mT | apply mA) rfl rfl ?_)
      (first | refine xoN ?_ | refine xo_fa T_ rfl rfl rfl rfl rfl ?_)
      (first | refine xoN ?_ | refine xo_load0 T_ rfl rfl rfl (by repeat first | exact mH | apply mT | apply mA) rfl rfl ?_)
      (first | refine xoN ?_ | refine xo_neq rfl rfl rfl rfl ?_)
      first | refine xo_pickT rfl rfl rfl rfl ?_ | refine xo_pickF rfl rfl rfl rfl ?_
      refine xoA ?_
      with_reducible apply xo_nil
      exact xq_meet (fun _ => True) _ _ () trivial ⟨(by first | rfl | exact congrArg (fun b => some (Value.bool b)) (by first | simp [h69, h74, h82] | simp [h69, h74] | simp [h69] | simp [])), trivial⟩ (by repeat (first | exact List.Sublist.refl _ | apply List.Sublist.cons_cons | apply List.Sublist.cons | exact List.nil_sublist _))
  with_reducible ((repeat first | apply xqT | apply xqB | apply xqS); (repeat apply xc_seq); apply xc_ret; (repeat (first | apply xq_thenR | apply xq_blockR | apply xq_scopeR)))
  exact xq_ret1 rfl rfl fun w' hw => ⟨rfl, hw.kx.below⟩
 ·have e1 : kindB R m = false := by
   simp only [decide_eq_false_iff_not] at k1 k2 k3 k4 k5 k6
   unfold kindB
   rw [if_neg (by omega), if_neg (by omega), if_neg (by omega)]
  rw [e1]
  with_reducible ((repeat apply xc_seq); apply xcR)
  refine xo_eql rfl rfl rfl rfl ?_
  refine xo_as (i := 26) rfl (congrArg Value.bool k1) ?_
  refine xoA ?_
  with_reducible (apply xo_nil; (repeat first | apply xqT | apply xqB | apply xqS); (repeat apply xc_seq))
  refine xc_condF rfl ?_
  with_reducible ((repeat apply xc_seq); apply xcR)
  refine xo_eql rfl rfl rfl rfl ?_
  refine xo_as (i := 27) rfl (congrArg Value.bool k2) ?_
  refine xoA ?_
  with_reducible (apply xo_nil; (repeat first | apply xqT | apply xqB | apply xqS); (repeat apply xc_seq))
  refine xc_condF rfl ?_
  with_reducible ((repeat apply xc_seq); apply xcR)
  refine xo_eql rfl rfl rfl rfl ?_
  refine xo_as (i := 28) rfl (congrArg Value.bool k3) ?_
  refine xoA ?_
  with_reducible (apply xo_nil; (repeat first | apply xqT | apply xqB | apply xqS); (repeat apply xc_seq))
  refine xc_condF rfl ?_
  with_reducible ((repeat apply xc_seq); apply xcR)
  refine xo_eql rfl rfl rfl rfl ?_
  refine xo_as (i := 53) rfl (congrArg Value.bool k4) ?_
  refine xoA ?_
  with_reducible (apply xo_nil; (repeat first | apply xqT | apply xqB | apply xqS); (repeat apply xc_seq))
  refine xc_condF rfl ?_
  with_reducible ((repeat apply xc_seq); apply xcR)
  refine xo_eql rfl rfl rfl rfl ?_
  refine xo_as (i := 54) rfl (congrArg Value.bool k5) ?_
  refine xoA ?_
  with_reducible (apply xo_nil; (repeat first | apply xqT | apply xqB | apply xqS); (repeat apply xc_seq))
  refine xc_condF rfl ?_
  with_reducible ((repeat apply xc_seq); apply xcR)
  refine xo_eql rfl rfl rfl rfl ?_
  refine xo_as (i := 67) rfl (congrArg Value.bool k6) ?_
  refine xoA ?_
  with_reducible (apply xo_nil; (repeat first | apply xqT | apply xqB | apply xqS); (repeat apply xc_seq))
  refine xc_condF rfl ?_
  with_reducible (apply xc_skip; (repeat first | apply xqT | apply xqB | apply xqS); (repeat apply xc_seq); apply xcR)
  refine xoA ?_
  with_reducible (apply xo_nil; (repeat first | apply xqT | apply xqB | apply xqS); (repeat apply xc_seq); apply xc_ret; (repeat (first | apply xq_thenR | apply xq_blockR | apply xq_scopeR)))
  exact xq_ret1 rfl rfl fun w' hw => ⟨rfl, hw.kx.below⟩
theorem mark_enters : ∀ args w, (callFunc 65 args).run Tryz.prog w = .ok (.enter 65 args) w := enters_of Tryz.func65 (by kernel_rfl) rfl
end Go.Proofs.YtommeljlfkmpjaaGreatDoor
