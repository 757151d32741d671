/- origin.open. / origin: began, an iterator over what marks leave, list of delays by list of -/
import Derived.Test.YtommeljlfkmpjaaDoorPkLawOriginExamples4
import Derived.Test.YtommeljlfkmpjaaDoorPkLawOriginExamples6
import Derived.Test.YtommeljlfkmpjaaDoorPkLawOriginExamples3
import Derived.Test.YtommeljlfkmpjaaDoorPkLawOriginExamples2
import Derived.Shelf.SlSortCmp.Whole1
import Derived.Shelf.Sort.Plain
import Derived.Shelf.Lays
set_option linter.unusedVariables false
set_option linter.unusedSimpArgs false
namespace Go.Proofs.YtommeljlfkmpjaaDoor
open Go.RowKit Go.Proofs.YtommeljlfkmpjaaDoorW.PrintWords
def flatM (R : Nat) (gs : List GatT) (pre : List DelT) : List Value := (pre.map fun x => matV (farM R gs x.2)).flatten
def sliceD (x : DelT) : Value := .slice (some ⟨x.1.1, 0, none⟩) x.2.length x.1.2
theorem flatM_len (R : Nat) (gs : List GatT) (pre : List DelT) : (flatM R gs pre).length = pre.length * 36 := by
 induction pre with
 | nil => rfl
 | cons x pre ih => simp [flatM, matV_len] at ih ⊢; omega
theorem flatM_app (R : Nat) (gs : List GatT) (pre : List DelT) (x : DelT) : flatM R gs (pre ++ [x]) = flatM R gs pre ++ matV (farM R gs x.2) := by simp [flatM]
def openH (b1 b5 bs : Nat) (sv : List Value) (R : Nat) (gs : List GatT) (pre : List DelT) (rf rw_ : RowR) : Hp :=
 hpR 102 36 rf pre.length (flatM R gs pre) ++ (hpR 34 1 rw_ pre.length (pre.map sliceD) ++ ((b5, true, cel [.pointer (some ⟨bs, 0, none⟩)] 62) :: (bs, true, cel (siteV sv (valR rf pre.length) (valR rw_ pre.length)) 83) :: (b1, true, cel sv 25) :: pre.flatMap haD))
theorem openH_own {b1 b5 bs : Nat} {sv : List Value} {R : Nat} {gs : List GatT} {pre : List DelT} {rf rw_ : RowR} : ∀ e ∈ openH b1 b5 bs sv R gs pre rf rw_, e.2.1 = true ∧ ∀ o, e.2.2 o → o.isCells = true := by
 intro e he
 have hrow : ∀ {t sz r m xs}, e ∈ hpR t sz r m xs → e.2.1 = true ∧ ∀ o, e.2.2 o → o.isCells = true := by
  intro t sz r m xs h
  cases r with
  | none => cases h
  | some p =>
   simp only [hpR, List.mem_singleton] at h
   subst h
   exact ⟨rfl, fun o ⟨cur, h, _⟩ => by rw [h]; rfl⟩
 rcases List.mem_append.1 he with he | he
 ·exact hrow he
 rcases List.mem_append.1 he with he | he
 ·exact hrow he
 simp only [List.mem_cons] at he
 rcases he with rfl | rfl | rfl | he
 ·exact ⟨rfl, fun o ho => by rw [show o = _ from ho]; rfl⟩
 ·exact ⟨rfl, fun o ho => by rw [show o = _ from ho]; rfl⟩
 ·exact ⟨rfl, fun o ho => by rw [show o = _ from ho]; rfl⟩
 ·obtain ⟨x, _, h⟩ := List.mem_flatMap.1 he
  simp only [haD, List.mem_singleton] at h
  subst h
  exact ⟨rfl, fun o ⟨cur, h, _⟩ => by rw [h]; rfl⟩
section
variable {α : Type}
theorem perm_push (x : α) (l r : List α) : List.Perm (x :: (l ++ r)) (l ++ x :: r) := List.perm_middle.symm
theorem perm_push2 (x : α) (f w : List α) (r : List α) : List.Perm (x :: (f ++ (w ++ r))) (f ++ (w ++ x :: r)) := (perm_push x f _).trans ((perm_push x w r).append_left f)
theorem perm2 (x : α) (f w r : List α) : List.Perm (x :: (f ++ (w ++ r))) ([] ++ (f ++ (w ++ x :: r))) := perm_push2 x f w r
theorem perm_push3 (x a b : α) (f w p : List α) : List.Perm (x :: (f ++ (w ++ a :: b :: p))) (f ++ (w ++ a :: b :: x :: p)) :=
 (perm_push2 x f w _).trans ((((List.Perm.swap a x _).trans ((List.Perm.swap b x _).cons a)).append_left w).append_left f)
theorem perm_in (x d a b c : α) (f w p : List α) : List.Perm (x :: d :: (f ++ (w ++ a :: b :: c :: p))) (f ++ (w ++ a :: b :: x :: d :: c :: p)) :=
 ((perm_push3 d a b f w (c :: p)).cons x).trans (perm_push3 x a b f w (d :: c :: p))
theorem perm_out (x d a b c : α) (f w p : List α) : List.Perm (w ++ (f ++ a :: b :: x :: d :: c :: p)) (d :: (f ++ (w ++ a :: b :: c :: (p ++ [x])))) := by
 refine (List.perm_append_comm_assoc w f _).trans ((perm_in x d a b c f w p).symm.trans ?_)
 refine (List.Perm.swap d x _).trans (List.Perm.cons d ?_)
 refine (perm_push3 x a b f w (c :: p)).trans ?_
 refine List.Perm.append_left f (List.Perm.append_left w ((List.Perm.cons b ?_).cons a))
 exact (List.Perm.swap c x p).trans (List.Perm.cons c (by simpa using perm_push x p []))
end
theorem xc_perm {P : Program} {ro : Option Nat} {n N : Nat} {ds : List Deferred} {w0 : World} {X : Nat → Prop} {Q : Exit → Act → World → Prop} {σ : Slots} {η η' : Hp} {c : Code} (hp : List.Perm η η') (h : XC P ro n N ds w0 X Q σ η' c) : XC P ro n N ds w0 X Q σ η c := fun a w ha hw => h a w ha (hw.perm hp)
theorem WOK.flag {w0 : World} {X : Nat → Prop} {η : Hp} {w : World} {b : Nat} {φ : HP} (h : WOK w0 X ((b, true, φ) :: η) w) : WOK w0 X ((b, false, φ) :: η) w := by
 refine ⟨h.kx, fun e he => ?_, h.nd, fun e he hw => ?_⟩
 ·rcases List.mem_cons.1 he with rfl | he
  ·exact h.bl (b, true, φ) List.mem_cons_self
  ·exact h.bl e (List.mem_cons_of_mem _ he)
 ·rcases List.mem_cons.1 he with rfl | he
  ·cases hw
  ·exact h.ow e (List.mem_cons_of_mem _ he) hw
theorem seg_mat (F : Nat → Nat → Int) : seg 0 (35 + 1) (matV F) = some (matV F) := rfl
def siteH (bs : Nat) (sv : List Value) (R : Nat) (gs : List GatT) (pre : List DelT) (rf rw_ : RowR) : Hp :=
 hpR 102 36 rf pre.length (flatM R gs pre) ++ (hpR 34 1 rw_ pre.length (pre.map sliceD) ++ ((bs, true, cel (siteV sv (valR rf pre.length) (valR rw_ pre.length)) 83) :: pre.flatMap haD))
theorem sceneF_ok {R E : Int} {gs : List GatT} {ms : List MarT} (h : sceneF R E gs ms = true) : (1 ≤ R ∧ R ≤ 6) ∧ (0 ≤ E ∧ E ≤ 600) ∧ GatesR R gs ∧ ms.length ≤ 8 ∧ marksF R (-1) ms = true := by
 simp only [sceneF, Bool.and_eq_true, decide_eq_true_eq] at h
 obtain ⟨⟨⟨⟨⟨h1, h2⟩, h3⟩, h4⟩, h5⟩, h6⟩ := h
 exact ⟨inF_iff.1 h1, inF_iff.1 h2, ⟨h3, fun g hg => gateF_ok (List.all_eq_true.1 h5 g hg)⟩, h4, h6⟩
set_option maxHeartbeats 80000000 in
theorem open_calls (R E : Int) (A B : Option Addr) (c c2 : Nat) (gs : List GatT) (ms : List MarT) (w : World) (hA : Kd.C gatK w A gs.length gs) (hB : Kd.C marK w B ms.length ms) (hk : BytesK ms) :
  Calls Tryd.prog 35 #[.agg (scnV R A gs.length c E B ms.length c2).toArray] w fun e w' =>
   (sceneF R E gs ms = false ∧ e = .returned (.tuple #[.pointer none, .int .i64 90]) ∧ Below w.heap.size w w') ∨
   (sceneF R E gs ms = true ∧ ∃ bs pre rf rw_, e = .returned (.tuple #[.pointer (some ⟨bs, 0, none⟩), .int .i64 0]) ∧ pre.map (·.2) = allD gs ∧ rf ≠ none ∧ rw_ ≠ none ∧ WOK w XNone (siteH bs (scnV R A gs.length c E B ms.length c2) R.toNat gs pre rf rw_) w') := by
 refine x_callsM (vs := [.agg (scnV R A gs.length c E B ms.length c2).toArray]) 1000 Tryd.func35 rfl rfl rfl (WOK.start XNone w) ?_
 with_reducible ((repeat apply xc_seq); apply xcR)
 refine xo_box rfl rfl rfl rfl (fun b1 => ?_)
 refine xoA ?_
 refine xoA ?_
 with_reducible (apply xo_nil; (repeat first | apply xqT | apply xqB | apply xqS))
 cases hsc : sceneF R E gs ms
 ·have hcf := check_no hsc
  with_reducible ((repeat apply xc_seq); apply xcR)
  refine xo_loadN T_ rfl rfl rfl (by repeat first | exact mH | apply mT | apply mA) rfl rfl ?_
  refine xo_callB (fs := []) (cs := []) rfl rfl rfl enter_check rfl (fun w1 hw1 => check_calls R E A B c c2 gs ms w1 (Kd.C_below hA hw1.kx.below) (Kd.C_below hB hw1.kx.below) hk) ?_
  refine xoA ?_
  with_reducible (apply xo_nil; (repeat first | apply xqT | apply xqB | apply xqS))
  rw [hcf]
  with_reducible ((repeat apply xc_seq); apply xcR)
  refine xoM ?_
  refine xo_neq rfl rfl rfl rfl ?_
  with_reducible (apply xo_nil; (repeat first | apply xqT | apply xqB | apply xqS); (repeat apply xc_seq))
  refine xc_condT rfl ?_
  with_reducible ((repeat apply xc_seq); apply xcR)
  refine xoM ?_
  refine xoA ?_
  refine xoA ?_
  with_reducible (apply xo_nil; (repeat first | apply xqT | apply xqB | apply xqS); (repeat apply xc_seq); apply xc_ret; (repeat (first | apply xq_thenR | apply xq_blockR | apply xq_scopeR)))
  exact xq_ofM [] (xq_ret2 rfl rfl rfl fun w' hw => .inl ⟨rfl, rfl, hw.kx.below⟩)
 have hcf : checkF R E gs ms = 0 := by rw [checkF, if_pos hsc]
 obtain ⟨hR6, hE6, hG, hm8, _⟩ := sceneF_ok hsc
 with_reducible ((repeat apply xc_seq); apply xcR)
 refine xo_loadN T_ rfl rfl rfl (by repeat first | exact mH | apply mT | apply mA) rfl rfl ?_
 refine xo_callB (fs := []) (cs := []) rfl rfl rfl enter_check rfl (fun w1 hw1 => check_calls R E A B c c2 gs ms w1 (Kd.C_below hA hw1.kx.below) (Kd.C_below hB hw1.kx.below) hk) ?_
 refine xoA ?_
 with_reducible (apply xo_nil; (repeat first | apply xqT | apply xqB | apply xqS))
 rw [hcf]
 with_reducible ((repeat apply xc_seq); apply xcR)
 refine xoM ?_
 refine xo_neq rfl rfl rfl rfl ?_
 with_reducible (apply xo_nil; (repeat first | apply xqT | apply xqB | apply xqS); (repeat apply xc_seq))
 refine xc_condF rfl ?_
 with_reducible (apply xc_skip; (repeat first | apply xqT | apply xqB | apply xqS))
 clear hcf hsc
 obtain ⟨Rn, rfl⟩ : ∃ Rn : Nat, R = Rn := ⟨R.toNat, by omega⟩
 have hRn : ((Rn : Nat) : Int).toNat = Rn := rfl
 rw [hRn]
 with_reducible ((repeat apply xc_seq); apply xcR)
 refine xo_loadN T_ rfl rfl rfl (by repeat first | exact mH | apply mT | apply mA) rfl rfl ?_
 refine xo_build TB_ rfl rfl rfl rfl rfl ?_
 refine xo_box rfl rfl rfl rfl (fun b23 => ?_)
 refine xo_alloc T_ rfl rfl rfl rfl (fun b5 => ?_)
 refine xo_store T_ rfl rfl rfl rfl (by repeat first | exact mH | apply mT | apply mA) rfl rfl rfl rfl (by repeat first | exact Upd.head | apply Upd.tail | apply Upd.app) rfl ?_
 with_reducible (apply xo_nil; (repeat first | apply xqT | apply xqB | apply xqS))
 have hAR := gat_row hA
 have hAb : 0 < gs.length → ∀ ad, A = some ad → ad.block < w.heap.size := by
  intro h0 ad e
  obtain ⟨ad', e', hR⟩ := hAR 0 h0
  rw [e] at e'
  cases e'
  have := World.block_lt_of_cell? w _ (hR 0 _ rfl).1
  rwa [add_blk, add_blk] at this
 with_reducible ((repeat apply xc_seq); apply xcR)
 refine xo_loadN T_ rfl rfl rfl (by repeat first | exact mH | apply mT | apply mA) rfl rfl ?_
 refine xo_call (fs := []) (cs := []) rfl rfl rfl delays_enters rfl (fun w1 hw1 => (delays_calls (scnV Rn A gs.length c E B ms.length c2) w1).mono ?_)
 rintro e w2 ⟨bd, rfl, hb1, ho, hb⟩
 refine ⟨_, _, rfl, (hw1.more (φ := cel (scnV Rn A gs.length c E B ms.length c2) 25) hb hb1 ho rfl).flag, ?_⟩
 clear hb ho hb1 hw1
 with_reducible (apply xo_nil; (repeat first | apply xqT | apply xqB | apply xqS))
 generalize b23 = bs
 refine xc_know (φ := (∀ e ∈ openH b1 b5 bs (scnV Rn A gs.length c E B ms.length c2) Rn gs [] none none, w.heap.size ≤ e.1 ∧ e.1 ≠ bd)) (fun w1 hw1 e he => ⟨?_, fun q => ?_⟩) fun hfr0 => ?_
 ·have := (hw1.sub (List.sublist_cons_self _ _)).ow e he (openH_own e he).1
  exact this.resolve_right fun q => q
 ·have := hw1.nd
  simp only [List.map_cons, List.nodup_cons] at this
  exact this.1 (List.mem_map.2 ⟨e, he, q⟩)
 with_reducible ((repeat apply xc_seq); apply xc_block)
 refine xc_rangeO (α := DelT) (β := Unit) (γ := RowR × RowR) (enc := encD) (HA := haD) (T := nextL gs) (S := fun xs => xs.map (·.2) = allD gs) rfl delays1_enters rfl (fun x => rfl)
  (fun k => k = bd ∨ (0 < gs.length ∧ ∃ ad, A = some ad ∧ k = ad.block)) (fun w1 hw1 k hk => ?_) (fun w1 hw1 => ?_)
  (fun pre g => (g.1 = none → pre.length = 0) ∧ (g.2 = none → pre.length = 0) ∧ (∀ x ∈ pre, okD gs x.2) ∧ ∀ e ∈ openH b1 b5 bs (scnV Rn A gs.length c E B ms.length c2) Rn gs pre g.1 g.2, w.heap.size ≤ e.1 ∧ e.1 ≠ bd) (fun pre g => (bd, false, cel (scnV Rn A gs.length c E B ms.length c2) 25) :: openH b1 b5 bs (scnV Rn A gs.length c E B ms.length c2) Rn gs pre g.1 g.2) (none, none) ⟨fun _ => rfl, fun _ => rfl, (fun x hx => by cases hx), hfr0⟩ (List.Sublist.refl _)
  (fun pre g hC e he => ?_) (fun pre g hC e he hwr hk => ?_) (fun _ _ _ => False) (fun _ _ _ => []) (fun _ _ _ h => h.elim)
  (fun x _ => [(1, .pointer (some ⟨b1, 0, none⟩)), (5, .pointer (some ⟨b5, 0, none⟩)), (6, sliceD x)]) (fun _ _ => []) (fun x y e he => by cases he) (fun l x V0 => ?_) (fun l pre x y g W hC hT hw0 => ?_) (fun D xs g hS hC => ?_) (fun D c p g hCx => hCx.elim)
 ·rcases hk with rfl | ⟨h0, ad, e, rfl⟩
  ·exact hw1.lt (e := (k, false, cel (scnV Rn A gs.length c E B ms.length c2) 25)) List.mem_cons_self
  ·exact Nat.lt_of_lt_of_le (hAb h0 ad e) hw1.kx.size
 ·refine delays_seq _ Rn E gs A B c ms.length c2 bd _ w1 hG.gates (hAR.below hw1.kx.below) (hw1.ro List.mem_cons_self) ?_ (.inl rfl) (fun h0 ad e => .inr ⟨h0, ad, e, rfl⟩)
  rintro k (rfl | ⟨h0, ad, e, rfl⟩)
  ·exact hw1.lt (e := (k, false, cel (scnV Rn A gs.length c E B ms.length c2) 25)) List.mem_cons_self
  ·exact Nat.lt_of_lt_of_le (hAb h0 ad e) hw1.kx.size
 ·rcases List.mem_cons.1 he with rfl | he
  ·exact .inr ⟨_, List.mem_cons_self, rfl⟩
  ·exact .inl (openH_own e he)
 ·rcases List.mem_cons.1 he with rfl | he
  ·cases hwr
  ·have := hC.2.2.2 e he
   rcases hk with hk | ⟨h0, ad, e', hk⟩
   ·exact this.2 hk
   ·have := hAb h0 ad e'; omega
 ·with_reducible repeat apply xc_seq
  with_reducible apply xcR
  refine xoA ?_
  with_reducible (apply xo_nil; (repeat first | apply xqT | apply xqB | apply xqS))
  exact fun a w1 ha hw1 => ⟨(), ha.sub ⟨rfl, rfl, rfl, trivial⟩, hw1⟩
 rotate_left
 ·obtain ⟨hC1, hC2, hC3, hC4⟩ := hC
  have hne : xs.length ≠ 0 := fun q => by
   have h1 := allD_ne fun g hg => (hG.ok g hg).2.2.2.2.1
   rw [← hS, List.length_eq_zero_iff.1 q] at h1
   exact h1 rfl
  with_reducible (repeat first | apply xqT | apply xqB | apply xqS)
  unfold openH
  with_reducible ((repeat apply xc_seq); apply xcR)
  refine xo_load0 T_ rfl rfl rfl (by apply List.Mem.tail; apply List.Mem.tail; apply List.mem_append_right; apply List.mem_append_right; exact List.Mem.head _) rfl rfl ?_
  refine xoA ?_
  refine xoA ?_
  with_reducible (apply xo_nil; (repeat first | apply xqT | apply xqB | apply xqS); (repeat apply xc_seq); apply xc_ret; (repeat (first | apply xq_thenR | apply xq_blockR | apply xq_scopeR)))
  refine xq_ofM [D] (xq_ret2 rfl rfl rfl fun w2 hw2 => .inr ⟨rfl, bs, xs, g.1, g.2, rfl, hS, fun q => hne (hC1 q), fun q => hne (hC2 q), ?_⟩)
  refine hw2.sub (List.Sublist.cons _ ?_)
  unfold siteH
  exact ((((List.sublist_cons_self _ _).cons_cons _).cons _).append_left _).append_left _
 obtain ⟨⟨xb, xc⟩, xl⟩ := x
 obtain ⟨rf, rw_⟩ := g
 obtain ⟨hC1, hC2, hC3, hC4⟩ := hC
 simp only at hC1 hC2 hC4
 have hxok : okD gs xl := by
  obtain ⟨rest, h⟩ := hT
  exact allD_ok xl (by rw [h]; simp)
 have hpl : pre.length < 729 := by
  obtain ⟨rest, h⟩ := hT
  have h1 := allD_few hG
  rw [h] at h1
  simp at h1
  omega
 have hxl : xl.length = gs.length := okD_len hxok
 have hg6 : gs.length ≤ 6 := hG.len
 have hXA : 0 < gs.length → ∀ ad, A = some ad → ¬ XW ([] ++ (haD ((xb, xc), xl) ++ ((bd, false, cel (scnV Rn A gs.length c E B ms.length c2) 25) :: openH b1 b5 bs (scnV Rn A gs.length c E B ms.length c2) Rn gs pre rf rw_))) ad.block := by
  rintro h0 ad e ⟨e', he, hwr, q⟩
  have := hAb h0 ad e
  have h2 := (hw0.ow e' he hwr).resolve_right fun q => q
  omega
 have hAW := hAR.below hw0.kx.below
 have hback := fun (η' : Hp) (w1 : World) (h : WOK W (XW ([] ++ (haD ((xb, xc), xl) ++ ((bd, false, cel (scnV Rn A gs.length c E B ms.length c2) 25) :: openH b1 b5 bs (scnV Rn A gs.length c E B ms.length c2) Rn gs pre rf rw_)))) η' w1) => hw0.back h
 have hfl := flatM_len Rn gs pre
 have hfa := flatM_app Rn gs pre ((xb, xc), xl)
 have hwl : (pre.map sliceD).length = pre.length * 1 := by simp
 have hwa : (pre ++ [((xb, xc), xl)]).map sliceD = pre.map sliceD ++ [.slice (some ⟨xb, 0, none⟩) xl.length xc] := by simp [sliceD]
 have hla : (pre ++ [((xb, xc), xl)]).length = pre.length + 1 := by simp
 have hpa : (pre ++ [((xb, xc), xl)]).flatMap haD = pre.flatMap haD ++ [(xb, true, orow 3 1 xl.length xc (xl.map (.int .i64)))] := by simp [haD]
 have hokk : ∀ x ∈ pre ++ [((xb, xc), xl)], okD gs x.2 := fun x hx => by
  rcases List.mem_append.1 hx with hx | hx
  ·exact hC3 x hx
  ·rw [List.mem_singleton.1 hx]; exact hxok
 generalize hX : XW ([] ++ (haD ((xb, xc), xl) ++ ((bd, false, cel (scnV Rn A gs.length c E B ms.length c2) 25) :: openH b1 b5 bs (scnV Rn A gs.length c E B ms.length c2) Rn gs pre rf rw_))) = X at hXA hback ⊢
 have hfar : farM Rn gs xl = fwM Rn (gatesM (edgesL gs xl) (startM nvr)) Rn := rfl
 have hperm : List.Perm ([] ++ (haD ((xb, xc), xl) ++ ((bd, false, cel (scnV Rn A gs.length c E B ms.length c2) 25) :: openH b1 b5 bs (scnV Rn A gs.length c E B ms.length c2) Rn gs pre rf rw_))) (hpR 102 36 rf pre.length (flatM Rn gs pre) ++ (hpR 34 1 rw_ pre.length (pre.map sliceD) ++ ((b5, true, cel [.pointer (some ⟨bs, 0, none⟩)] 62) :: (bs, true, cel (siteV (scnV Rn A gs.length c E B ms.length c2) (valR rf pre.length) (valR rw_ pre.length)) 83) :: (xb, true, orow 3 1 xl.length xc (xl.map (.int .i64))) :: (bd, false, cel (scnV Rn A gs.length c E B ms.length c2) 25) :: (b1, true, cel (scnV Rn A gs.length c E B ms.length c2) 25) :: pre.flatMap haD))) := perm_in _ _ _ _ _ _ _ _
 obtain ⟨ζ, hζ⟩ : ∃ ζ : Hp, ζ = (hpR 102 36 rf pre.length (flatM Rn gs pre) ++ (hpR 34 1 rw_ pre.length (pre.map sliceD) ++ ((b5, true, cel [.pointer (some ⟨bs, 0, none⟩)] 62) :: (bs, true, cel (siteV (scnV Rn A gs.length c E B ms.length c2) (valR rf pre.length) (valR rw_ pre.length)) 83) :: (xb, true, orow 3 1 xl.length xc (xl.map (.int .i64))) :: (bd, false, cel (scnV Rn A gs.length c E B ms.length c2) 25) :: (b1, true, cel (scnV Rn A gs.length c E B ms.length c2) 25) :: pre.flatMap haD))) := ⟨_, rfl⟩
 rw [← hζ] at hperm
 refine xc_perm hperm ?_
 clear hperm
 have hb1 : (b1, true, cel (scnV Rn A gs.length c E B ms.length c2) 25) ∈ ζ := by
  rw [hζ]
  apply List.mem_append_right
  apply List.mem_append_right
  exact List.Mem.tail _ (List.Mem.tail _ (List.Mem.tail _ (List.Mem.tail _ (List.Mem.head _))))
 have hbx : (xb, true, orow 3 1 xl.length xc (xl.map (.int .i64))) ∈ ζ := by
  rw [hζ]
  apply List.mem_append_right
  apply List.mem_append_right
  exact List.Mem.tail _ (List.Mem.tail _ (List.Mem.head _))
 with_reducible ((repeat apply xc_seq); apply xc_block; (repeat apply xc_seq); apply xcR)
 refine xo_alloc T_ (cs := matV (iniM 0 0)) rfl rfl (by rw [iniM_zero]; rfl) rfl (fun bM => ?_)
 with_reducible (apply xo_nil; (repeat first | apply xqT | apply xqB | apply xqS); (repeat apply xc_seq); apply xcR)
 refine xoM ?_
 with_reducible (apply xo_nil; (repeat first | apply xqT | apply xqB | apply xqS); (repeat apply xc_seq); apply xc_block)
 refine xc_loop (γ := Nat) (fun a => a ≤ 6) (fun a => [(1, .pointer (some ⟨b1, 0, none⟩)), (5, .pointer (some ⟨b5, 0, none⟩)), (6, .slice (some ⟨xb, 0, none⟩) xl.length xc), (7, .pointer (some ⟨bM, 0, none⟩)), (27, .int .i64 (a : Int))]) (fun a => (bM, true, cel (matV (iniM a 0)) 102) :: ζ) (fun a => 6 - a) 0 (by omega) ⟨rfl, rfl, rfl, rfl, rfl, trivial⟩ (List.Sublist.refl _) ?_
 intro a ha
 with_reducible ((repeat apply xc_seq); apply xcR)
 refine xo_lss rfl rfl rfl rfl ?_
 with_reducible (apply xo_nil; (repeat first | apply xqT | apply xqB | apply xqS); (repeat apply xc_seq))
 refine xc_cond rfl (fun h => ?_) (fun h => ?_)
 ·have hlt : a < 6 := by have := of_decide_eq_true h; omega
  with_reducible (apply xc_skip; (repeat first | apply xqT | apply xqB | apply xqS); (repeat apply xc_seq); apply xc_block; (repeat apply xc_seq); apply xcR)
  refine xoM ?_
  refine xoA ?_
  with_reducible (apply xo_nil; (repeat first | apply xqT | apply xqB | apply xqS); (repeat apply xc_seq); apply xcR)
  refine xoM ?_
  with_reducible (apply xo_nil; (repeat first | apply xqT | apply xqB | apply xqS); (repeat apply xc_seq); apply xc_block)
  refine xc_loop (γ := Nat) (fun b => b ≤ 6) (fun b => [(1, .pointer (some ⟨b1, 0, none⟩)), (5, .pointer (some ⟨b5, 0, none⟩)), (6, .slice (some ⟨xb, 0, none⟩) xl.length xc), (7, .pointer (some ⟨bM, 0, none⟩)), (27, .int .i64 (a : Int)), (8, .int .i64 (a : Int)), (30, .int .i64 (b : Int))]) (fun b => (bM, true, cel (matV (iniM a b)) 102) :: ζ) (fun b => 6 - b) 0 (by omega) ⟨rfl, rfl, rfl, rfl, rfl, rfl, rfl, trivial⟩ (List.Sublist.refl _) ?_
  intro b hb
  with_reducible ((repeat apply xc_seq); apply xcR)
  refine xo_lss rfl rfl rfl rfl ?_
  with_reducible (apply xo_nil; (repeat first | apply xqT | apply xqB | apply xqS); (repeat apply xc_seq))
  refine xc_cond rfl (fun h => ?_) (fun h => ?_)
  ·have hltb : b < 6 := by have := of_decide_eq_true h; omega
   have hnx := iniM_next a b
   with_reducible (apply xc_skip; (repeat first | apply xqT | apply xqB | apply xqS); (repeat apply xc_seq); apply xc_block; (repeat apply xc_seq); apply xcR)
   refine xoM ?_
   refine xoA ?_
   with_reducible (apply xo_nil; (repeat first | apply xqT | apply xqB | apply xqS); (repeat apply xc_seq); apply xcR)
   refine xoM ?_
   refine xoM ?_
   refine xo_iaL T_ rfl Tryd.underlying102 rfl rfl rfl ⟨by omega, by omega⟩ rfl ?_
   refine xo_iaL T_ rfl Tryd.underlying101 rfl rfl rfl ⟨by omega, by omega⟩ rfl ?_
   refine xo_storeM T_ rfl rfl rfl rfl matIx (by omega) (by omega) (List.Mem.head _) Upd.head rfl ?_
   with_reducible (apply xo_nil; (repeat first | apply xqT | apply xqB | apply xqS); (repeat apply xc_seq); apply xcR)
   refine xoM ?_
   refine xoM ?_
   refine xo_eql rfl rfl rfl rfl ?_
   with_reducible (apply xo_nil; (repeat first | apply xqT | apply xqB | apply xqS); (repeat apply xc_seq))
   refine xc_cond rfl (fun h => ?_) (fun h => ?_)
   ·have e : a = b := by have := of_decide_eq_true h; omega
    have hn2 : matV (updM (updM (iniM a b) a b 1073741824) a b 0) = matV (iniM a (b + 1)) := by
     rw [updM_twice, hnx, startM, if_pos e]
    with_reducible ((repeat apply xc_seq); apply xcR)
    refine xoM ?_
    refine xoM ?_
    refine xo_iaL T_ rfl Tryd.underlying102 rfl rfl rfl ⟨by omega, by omega⟩ rfl ?_
    refine xo_iaL T_ rfl Tryd.underlying101 rfl rfl rfl ⟨by omega, by omega⟩ rfl ?_
    refine xo_storeM T_ rfl rfl rfl rfl matIx (by omega) (by omega) (List.Mem.head _) Upd.head rfl ?_
    with_reducible (apply xo_nil; (repeat first | apply xqT | apply xqB | apply xqS); (repeat apply xc_seq); apply xcR)
    refine xo_add rfl rfl rfl (by omega) rfl ?_
    refine xoM ?_
    with_reducible (apply xo_nil; (repeat first | apply xqT | apply xqB | apply xqS))
    exact xq_again _ _ _ _ _ (b + 1) (by omega) (by omega) ⟨rfl, rfl, rfl, rfl, rfl, rfl, rfl, trivial⟩ (by rw [← hn2]; exact List.Sublist.refl _)
   ·have e : ¬ a = b := by have := of_decide_eq_false h; omega
    have hn2 : matV (updM (iniM a b) a b 1073741824) = matV (iniM a (b + 1)) := by
     rw [hnx, startM, if_neg e]
     rfl
    with_reducible (apply xc_skip; (repeat first | apply xqT | apply xqB | apply xqS); (repeat apply xc_seq); apply xcR)
    refine xo_add rfl rfl rfl (by omega) rfl ?_
    refine xoM ?_
    with_reducible (apply xo_nil; (repeat first | apply xqT | apply xqB | apply xqS))
    exact xq_again _ _ _ _ _ (b + 1) (by omega) (by omega) ⟨rfl, rfl, rfl, rfl, rfl, rfl, rfl, trivial⟩ (by rw [← hn2]; exact List.Sublist.refl _)
  ·have hge : b = 6 := by have := of_decide_eq_false h; omega
   subst hge
   with_reducible (apply xc_exit; (repeat (first | apply xq_blockX | apply xq_thenE | refine xq_blockE rfl ?_ | apply xq_scopeE)); (repeat first | apply xqT | apply xqB | apply xqS); (repeat apply xc_seq); apply xcR)
   refine xo_add rfl rfl rfl (by omega) rfl ?_
   refine xoM ?_
   with_reducible (apply xo_nil; (repeat first | apply xqT | apply xqB | apply xqS))
   exact xq_again _ _ _ _ _ (a + 1) (by omega) (by omega) ⟨rfl, rfl, rfl, rfl, rfl, trivial⟩ (by rw [← iniM_row]; exact List.Sublist.refl _)
 have hge : a = 6 := by have := of_decide_eq_false h; omega
 subst hge
 rw [iniM_end]
 with_reducible (apply xc_exit; (repeat (first | apply xq_blockX | apply xq_thenE | refine xq_blockE rfl ?_ | apply xq_scopeE)); (repeat first | apply xqT | apply xqB | apply xqS); (repeat apply xc_seq); apply xcR)
 refine xo_fa T_ rfl rfl rfl rfl rfl ?_
 refine xo_load0 T_ rfl rfl rfl (List.mem_cons_of_mem _ hb1) rfl rfl ?_
 refine xo_len T_ rfl rfl rfl rfl ?_
 refine xoM ?_
 with_reducible (apply xo_nil; (repeat first | apply xqT | apply xqB | apply xqS); (repeat apply xc_seq); apply xc_block)
 refine xc_loop (γ := Nat) (fun k => k ≤ gs.length) (fun k => [(1, .pointer (some ⟨b1, 0, none⟩)), (5, .pointer (some ⟨b5, 0, none⟩)), (6, .slice (some ⟨xb, 0, none⟩) xl.length xc), (7, .pointer (some ⟨bM, 0, none⟩)), (47, .slice A gs.length c), (48, .int .i64 (gs.length : Int)), (49, .int .i64 (k : Int))]) (fun k => (bM, true, cel (matV (gatesM ((edgesL gs xl).take k) (startM nvr))) 102) :: ζ) (fun k => gs.length - k) 0 (by omega) ⟨rfl, rfl, rfl, rfl, rfl, rfl, rfl, trivial⟩ (List.Sublist.refl _) ?_
 intro k hk
 with_reducible ((repeat apply xc_seq); apply xcR)
 refine xo_lss rfl rfl rfl rfl ?_
 with_reducible (apply xo_nil; (repeat first | apply xqT | apply xqB | apply xqS); (repeat apply xc_seq))
 refine xc_cond rfl (fun h => ?_) (fun h => ?_)
 ·have hlt : k < gs.length := by have := of_decide_eq_true h; omega
  obtain ⟨ad, rfl, hR⟩ := hAW k hlt
  have htk := gatesM_take hxl hlt (startM nvr)
  have hgk := hG.ok _ (getD_mem gs zGat k hlt)
  have hxk : (xl.map (Value.int .i64))[k]? = some (.int .i64 (xl.getD k 0)) := by simp [List.getD_eq_getElem?_getD, List.getElem?_eq_getElem (show k < xl.length by omega)]
  generalize gs.getD k zGat = gg at hR htk hgk
  generalize xl.getD k 0 = v at htk hxk
  generalize gatesM ((edgesL gs xl).take k) (startM nvr) = M at htk ⊢
  obtain ⟨hg1, hg2, hg3, _⟩ := hgk
  with_reducible (apply xc_skip; (repeat first | apply xqT | apply xqB | apply xqS); (repeat apply xc_seq); apply xc_block; (repeat apply xc_seq); apply xcR)
  refine xoM ?_
  refine xo_ia T_ rfl rfl rfl rfl rfl ⟨by omega, by omega⟩ rfl ?_
  refine xo_loadRN T_ rfl rfl rfl (hR.wr (by rw [add_blk]; exact hXA (by omega) ad rfl)) rfl rfl ?_
  refine xo_alloc T_ rfl rfl rfl rfl (fun b11 => ?_)
  refine xoA ?_
  refine xo_store T_ rfl rfl rfl rfl (by repeat first | exact mH | apply mT | apply mA) rfl rfl rfl rfl (by repeat first | exact Upd.head | apply Upd.tail | apply Upd.app) rfl ?_
  with_reducible (apply xo_nil; (repeat first | apply xqT | apply xqB | apply xqS); (repeat apply xc_seq))
  apply xc_drawN
  ·exact T_.mixed
  ·rfl
  ·rfl
  ·rfl
  ·rfl
  ·apply DrawOps.cons
   ·intro τ
    refine xo_fa T_ rfl rfl rfl rfl rfl ?_
    exact xoF
   apply DrawOps.cons
   ·intro τ
    refine xo_load0 T_ rfl rfl rfl (by repeat first | exact mH | apply mT | apply mA) rfl rfl ?_
    exact xoF
   apply DrawOps.cons
   ·intro τ
    refine xo_fa T_ rfl rfl rfl rfl rfl ?_
    exact xoF
   apply DrawOps.cons
   ·intro τ
    refine xo_load0 T_ rfl rfl rfl (by repeat first | exact mH | apply mT | apply mA) rfl rfl ?_
    exact xoF
   apply DrawOps.cons
   ·intro τ
    refine xo_iaL T_ rfl Tryd.underlying102 rfl rfl rfl ⟨by omega, by omega⟩ rfl ?_
    exact xoF
   apply DrawOps.cons
   ·intro τ
    refine xo_iaL T_ rfl Tryd.underlying101 rfl rfl rfl ⟨by omega, by omega⟩ rfl ?_
    exact xoF
   apply DrawOps.cons
   ·intro τ
    refine xo_loadM T_ rfl rfl rfl matIxG (by omega) (by omega) (List.Mem.tail _ (List.Mem.head _)) rfl ?_
    exact xoF
   apply DrawOps.cons
   ·intro τ
    refine xoM ?_
    exact xoF
   apply DrawOps.cons
   ·intro τ
    refine xoM ?_
    exact xoF
   apply DrawOps.cons
   ·intro τ
    refine xo_ia T_ rfl rfl rfl rfl rfl ⟨by omega, by omega⟩ rfl ?_
    exact xoF
   apply DrawOps.cons
   ·intro τ
    refine xo_loadO T_ (k := (k : Int).toNat * szN 0) (v := .int .i64 v) rfl rfl rfl (List.mem_cons_of_mem _ (List.mem_cons_of_mem _ hbx)) (by rw [show (k : Int).toNat * szN 0 = k by simp [szN]]; exact hxk) rfl ?_
    exact xoF
   apply DrawOps.cons
   ·intro τ
    refine xo_min rfl rfl rfl rfl ?_
    exact xoF
   apply DrawOps.cons
   ·intro τ
    refine xoA ?_
    exact xoF
   exact DrawOps.nil
  ·rfl
  with_reducible ((repeat first | apply xqT | apply xqB | apply xqS); (repeat apply xc_seq))
  apply xc_drawE (fun g => []) (fun (η0 : Hp) g => match g with | [] => (η0) | a0 :: [] => ((b11, true, cel (gatV gg) 57) :: (bM, true, cel (matV (updM M gg.f0.toNat gg.f1.toNat (if v < M gg.f0.toNat gg.f1.toNat then v else M gg.f0.toNat gg.f1.toNat))) 102) :: ζ) | a0 :: a1 :: _ => ((b11, true, cel (gatV gg) 57) :: (bM, true, cel (matV (gateM M (edgeL gg v))) 102) :: ζ)) (fun _ => True) [0, 0, 0, 0, 0, 0, 0, 0, 0, 0, 0, 0, 1, 0, 1, 2] [12, 15] [[11, 8, 0, 1, 2, 3, 8], [14, 9, 12, 0, 1, 2, 3, 4, 5, 6, 7, 8, 9, 10, 11, 12]] (by trivial)
  apply SameLen.cons
  apply SameLen.cons
  apply SameLen.cons
  apply SameLen.cons
  apply SameLen.cons
  apply SameLen.cons
  apply SameLen.cons
  apply SameLen.cons
  apply SameLen.cons
  apply SameLen.cons
  apply SameLen.cons
  apply SameLen.cons
  apply SameLen.cons
  apply SameLen.cons
  apply SameLen.cons
  apply SameLen.cons
  exact SameLen.nil
  rotate_left 16
  case hH0 => rfl
  case hmix => exact T_.mixed
  case hbind => rfl
  case hdeps => rfl
  case hdist => rfl
  case hfresh => rfl
  case hE => rfl
  case hEn => decide
  ·refine DrawE.pure 0 0 rfl (.inr (by decide)) (fun L g hg hd => Nat.zero_le _) (fun g hlo hhi hF τ => ?_) ?_
   ·rcases g with _ | ⟨a0, _ | ⟨a1, _ | ⟨a2, g⟩⟩⟩ <;> first | (simp only [lenC, lenN] at hlo hhi; omega) | (refine ⟨_, rfl, ?_⟩; refine xo_fa T_ rfl rfl rfl rfl rfl ?_; exact xoF)
   refine DrawE.pure 0 0 rfl (.inr (by decide)) (fun L g hg hd => Nat.zero_le _) (fun g hlo hhi hF τ => ?_) ?_
   ·rcases g with _ | ⟨a0, _ | ⟨a1, _ | ⟨a2, g⟩⟩⟩ <;> first | (simp only [lenC, lenN] at hlo hhi; omega) | (refine ⟨_, rfl, ?_⟩; refine xo_load0 T_ rfl rfl rfl (by repeat first | exact mH | apply mT | apply mA) rfl rfl ?_; exact xoF)
   refine DrawE.pure 0 0 rfl (.inr (by decide)) (fun L g hg hd => Nat.zero_le _) (fun g hlo hhi hF τ => ?_) ?_
   ·rcases g with _ | ⟨a0, _ | ⟨a1, _ | ⟨a2, g⟩⟩⟩ <;> first | (simp only [lenC, lenN] at hlo hhi; omega) | (refine ⟨_, rfl, ?_⟩; refine xo_fa T_ rfl rfl rfl rfl rfl ?_; exact xoF)
   refine DrawE.pure 0 0 rfl (.inr (by decide)) (fun L g hg hd => Nat.zero_le _) (fun g hlo hhi hF τ => ?_) ?_
   ·rcases g with _ | ⟨a0, _ | ⟨a1, _ | ⟨a2, g⟩⟩⟩ <;> first | (simp only [lenC, lenN] at hlo hhi; omega) | (refine ⟨_, rfl, ?_⟩; refine xo_load0 T_ rfl rfl rfl (by repeat first | exact mH | apply mT | apply mA) rfl rfl ?_; exact xoF)
   refine DrawE.pure 0 1 rfl (.inr (by decide)) (fun L g hg hd => Nat.zero_le _) (fun g hlo hhi hF τ => ?_) ?_
   ·rcases g with _ | ⟨a0, _ | ⟨a1, _ | ⟨a2, g⟩⟩⟩ <;> first | (simp only [lenC, lenN] at hlo hhi; omega) | (refine ⟨_, rfl, ?_⟩; refine xo_fa T_ rfl rfl rfl rfl rfl ?_; exact xoF)
   refine DrawE.pure 0 1 rfl (.inr (by decide)) (fun L g hg hd => Nat.zero_le _) (fun g hlo hhi hF τ => ?_) ?_
   ·rcases g with _ | ⟨a0, _ | ⟨a1, _ | ⟨a2, g⟩⟩⟩ <;> first | (simp only [lenC, lenN] at hlo hhi; omega) | (refine ⟨_, rfl, ?_⟩; refine xo_load0 T_ rfl rfl rfl (by repeat first | exact mH | apply mT | apply mA) rfl rfl ?_; exact xoF)
   refine DrawE.pure 0 1 rfl (.inr (by decide)) (fun L g hg hd => Nat.zero_le _) (fun g hlo hhi hF τ => ?_) ?_
   ·rcases g with _ | ⟨a0, _ | ⟨a1, _ | ⟨a2, g⟩⟩⟩ <;> first | (simp only [lenC, lenN] at hlo hhi; omega) | (refine ⟨_, rfl, ?_⟩; refine xo_fa T_ rfl rfl rfl rfl rfl ?_; exact xoF)
   refine DrawE.pure 0 1 rfl (.inr (by decide)) (fun L g hg hd => Nat.zero_le _) (fun g hlo hhi hF τ => ?_) ?_
   ·rcases g with _ | ⟨a0, _ | ⟨a1, _ | ⟨a2, g⟩⟩⟩ <;> first | (simp only [lenC, lenN] at hlo hhi; omega) | (refine ⟨_, rfl, ?_⟩; refine xo_load0 T_ rfl rfl rfl (by repeat first | exact mH | apply mT | apply mA) rfl rfl ?_; exact xoF)
   refine DrawE.pure 0 0 rfl (.inr (by decide)) (fun L g hg hd => Nat.zero_le _) (fun g hlo hhi hF τ => ?_) ?_
   ·rcases g with _ | ⟨a0, _ | ⟨a1, _ | ⟨a2, g⟩⟩⟩ <;> first | (simp only [lenC, lenN] at hlo hhi; omega) | (refine ⟨_, rfl, ?_⟩; refine xoM ?_; exact xoF)
   refine DrawE.pure 0 1 rfl (.inr (by decide)) (fun L g hg hd => Nat.zero_le _) (fun g hlo hhi hF τ => ?_) ?_
   ·rcases g with _ | ⟨a0, _ | ⟨a1, _ | ⟨a2, g⟩⟩⟩ <;> first | (simp only [lenC, lenN] at hlo hhi; omega) | (refine ⟨_, rfl, ?_⟩; refine xoM ?_; exact xoF)
   refine DrawE.pure 0 1 rfl (.inr (by decide)) (fun L g hg hd => Nat.zero_le _) (fun g hlo hhi hF τ => ?_) ?_
   ·rcases g with _ | ⟨a0, _ | ⟨a1, _ | ⟨a2, g⟩⟩⟩ <;> first | (simp only [lenC, lenN] at hlo hhi; omega) | (refine ⟨_, rfl, ?_⟩; refine xo_iaL T_ rfl Tryd.underlying102 rfl rfl rfl ⟨by omega, by omega⟩ rfl ?_; exact xoF)
   refine DrawE.pure 0 0 rfl (.inr (by decide)) (fun L g hg hd => Nat.zero_le _) (fun g hlo hhi hF τ => ?_) ?_
   ·rcases g with _ | ⟨a0, _ | ⟨a1, _ | ⟨a2, g⟩⟩⟩ <;> first | (simp only [lenC, lenN] at hlo hhi; omega) | (refine ⟨_, rfl, ?_⟩; refine xo_iaL T_ rfl Tryd.underlying101 rfl rfl rfl ⟨by omega, by omega⟩ rfl ?_; exact xoF)
   refine DrawE.eff 0 rfl (by decide) rfl (fun j hj => hj) (fun j g a hj => ?_) (fun L g hg hd => Nat.zero_le _) (fun g hgl hF τ => ?_) ?_
   ·rcases j with _ | _ | _ | _ | _ | _ | _ | _ | _ | _ | _ | _ | _ | _ | _ | _ | j
    all_goals first | rfl | (rcases g with _ | ⟨a0, _ | ⟨a1, _ | ⟨a2, g⟩⟩⟩ <;> first | rfl | exact absurd hj (by decide) | exact absurd hj (by simp [List.getD]))
   ·obtain rfl : g = [] := by
     rcases g with _ | ⟨a0, g⟩ <;> first | rfl | (exfalso; simp only [List.length_cons, List.length_nil] at hgl; omega)
    refine xo_storeM T_ rfl rfl rfl rfl matIxG (by omega) (by omega) (List.Mem.tail _ (List.Mem.head _)) (Upd.tail Upd.head) rfl ?_
    exact xo_finE ⟨0, 0, none⟩ rfl trivial
   refine DrawE.pure 0 2 rfl (.inl rfl) (fun L g hg hd => Nat.zero_le _) (fun g hlo hhi hF τ => ?_) ?_
   ·rcases g with _ | ⟨a0, _ | ⟨a1, _ | ⟨a2, g⟩⟩⟩ <;> first | (simp only [lenC, lenN] at hlo hhi; omega) | (refine ⟨_, rfl, ?_⟩; refine xo_iaL T_ rfl Tryd.underlying102 rfl rfl rfl ⟨by omega, by omega⟩ rfl ?_; exact xoF)
   refine DrawE.pure 1 1 rfl (.inr (by decide)) (fun L g hg hd => hg.2.1 12 (hd 12 (by decide))) (fun g hlo hhi hF τ => ?_) ?_
   ·rcases g with _ | ⟨a0, _ | ⟨a1, _ | ⟨a2, g⟩⟩⟩ <;> first | (simp only [lenC, lenN] at hlo hhi; omega) | (refine ⟨_, rfl, ?_⟩; refine xo_iaL T_ rfl Tryd.underlying101 rfl rfl rfl ⟨by omega, by omega⟩ rfl ?_; exact xoF)
   refine DrawE.eff 1 rfl (by decide) rfl (fun j hj => hj) (fun j g a hj => ?_) (fun L g hg hd => hg.2.1 14 (hd 14 (by decide))) (fun g hgl hF τ => ?_) ?_
   ·rcases j with _ | _ | _ | _ | _ | _ | _ | _ | _ | _ | _ | _ | _ | _ | _ | _ | j
    all_goals first | rfl | (rcases g with _ | ⟨a0, _ | ⟨a1, _ | ⟨a2, g⟩⟩⟩ <;> first | rfl | exact absurd hj (by decide) | exact absurd hj (by simp [List.getD]))
   ·obtain ⟨a0, rfl⟩ : ∃ a0, g = [a0] := by
     rcases g with _ | ⟨a0, _ | ⟨a1, _ | ⟨a2, g⟩⟩⟩ <;> first | exact ⟨_, rfl⟩ | rfl | (exfalso; simp only [List.length_cons, List.length_nil] at hgl; omega)
    refine xo_storeM T_ rfl rfl rfl rfl matIxG (by omega) (by omega) (List.Mem.tail _ (List.Mem.head _)) (Upd.tail Upd.head) rfl ?_
    exact xo_finE ⟨0, 0, none⟩ rfl trivial
   exact DrawE.nil
  intro g hgl hF
  obtain ⟨a0, a1, rfl⟩ : ∃ a0 a1, g = [a0, a1] := by
   rcases g with _ | ⟨a0, _ | ⟨a1, _ | ⟨a2, g⟩⟩⟩ <;> first | exact ⟨_, _, rfl⟩ | (exfalso; simp only [List.length_cons, List.length_nil] at hgl; omega)
  with_reducible (repeat first | apply xqT | apply xqB | apply xqS)
  refine xc_slots [(1, .pointer (some ⟨b1, 0, none⟩)), (5, .pointer (some ⟨b5, 0, none⟩)), (6, .slice (some ⟨xb, 0, none⟩) xl.length xc), (7, .pointer (some ⟨bM, 0, none⟩)), (47, .slice (some ad) gs.length c), (48, .int .i64 (gs.length : Int)), (49, .int .i64 (k : Int))] ⟨rfl, rfl, rfl, rfl, rfl, rfl, rfl, trivial⟩ ?_
  with_reducible ((repeat apply xc_seq); apply xcR)
  refine xo_add rfl rfl rfl (by omega) rfl ?_
  refine xoM ?_
  with_reducible (apply xo_nil; (repeat first | apply xqT | apply xqB | apply xqS))
  exact xq_again _ _ _ _ _ (k + 1) (by omega) (by omega) ⟨rfl, rfl, rfl, rfl, rfl, rfl, rfl, trivial⟩ (by rw [htk]; exact List.sublist_cons_self _ _)
 have hge : k = gs.length := by have := of_decide_eq_false h; omega
 subst hge
 rw [List.take_of_length_le (by rw [edgesL_len hxl]; exact Nat.le_refl _)]
 have hSd := gates_sound hG hxok
 with_reducible (apply xc_exit; (repeat (first | apply xq_blockX | apply xq_thenE | refine xq_blockE rfl ?_ | apply xq_scopeE)); (repeat first | apply xqT | apply xqB | apply xqS); (repeat apply xc_seq); apply xcR)
 refine xo_fa T_ rfl rfl rfl rfl rfl ?_
 refine xo_load0 T_ rfl rfl rfl (List.mem_cons_of_mem _ hb1) rfl rfl ?_
 refine xoM ?_
 with_reducible (apply xo_nil; (repeat first | apply xqT | apply xqB | apply xqS); (repeat apply xc_seq); apply xc_block)
 generalize gatesM (edgesL gs xl) (startM nvr) = M0 at hSd hfar ⊢
 refine xc_loop (γ := Nat) (fun k => k ≤ Rn) (fun k => [(1, .pointer (some ⟨b1, 0, none⟩)), (5, .pointer (some ⟨b5, 0, none⟩)), (6, .slice (some ⟨xb, 0, none⟩) xl.length xc), (7, .pointer (some ⟨bM, 0, none⟩)), (82, .int .i64 (Rn : Int)), (83, .int .i64 (k : Int))]) (fun k => (bM, true, cel (matV (fwM Rn M0 k)) 102) :: ζ) (fun k => Rn - k) 0 (by omega) ⟨rfl, rfl, rfl, rfl, rfl, rfl, trivial⟩ (List.Sublist.refl _) ?_
 intro k hk
 with_reducible ((repeat apply xc_seq); apply xcR)
 refine xo_lss rfl rfl rfl rfl ?_
 with_reducible (apply xo_nil; (repeat first | apply xqT | apply xqB | apply xqS); (repeat apply xc_seq))
 refine xc_cond rfl (fun h => ?_) (fun h => ?_)
 ·have hltk : k < Rn := by have := of_decide_eq_true h; omega
  with_reducible (apply xc_skip; (repeat first | apply xqT | apply xqB | apply xqS); (repeat apply xc_seq); apply xc_block; (repeat apply xc_seq); apply xcR)
  refine xoM ?_
  refine xoA ?_
  with_reducible (apply xo_nil; (repeat first | apply xqT | apply xqB | apply xqS); (repeat apply xc_seq); apply xcR)
  refine xo_fa T_ rfl rfl rfl rfl rfl ?_
  refine xo_load0 T_ rfl rfl rfl (List.mem_cons_of_mem _ hb1) rfl rfl ?_
  refine xoM ?_
  with_reducible (apply xo_nil; (repeat first | apply xqT | apply xqB | apply xqS); (repeat apply xc_seq); apply xc_block)
  have hS1 := hSd.fw Rn k
  show XC _ _ _ _ _ _ _ _ _ ((bM, true, cel (matV (allM Rn k (fwM Rn M0 k) 0)) 102) :: ζ) _
  have hfw : fwM Rn M0 (k + 1) = allM Rn k (fwM Rn M0 k) Rn := rfl
  generalize fwM Rn M0 k = M1 at hS1 hfw ⊢
  refine xc_loop (γ := Nat) (fun a => a ≤ Rn) (fun a => [(1, .pointer (some ⟨b1, 0, none⟩)), (5, .pointer (some ⟨b5, 0, none⟩)), (6, .slice (some ⟨xb, 0, none⟩) xl.length xc), (7, .pointer (some ⟨bM, 0, none⟩)), (82, .int .i64 (Rn : Int)), (83, .int .i64 (k : Int)), (13, .int .i64 (k : Int)), (87, .int .i64 (Rn : Int)), (88, .int .i64 (a : Int))]) (fun a => (bM, true, cel (matV (allM Rn k M1 a)) 102) :: ζ) (fun a => Rn - a) 0 (by omega) ⟨rfl, rfl, rfl, rfl, rfl, rfl, rfl, rfl, rfl, trivial⟩ (List.Sublist.refl _) ?_
  intro a ha
  with_reducible ((repeat apply xc_seq); apply xcR)
  refine xo_lss rfl rfl rfl rfl ?_
  with_reducible (apply xo_nil; (repeat first | apply xqT | apply xqB | apply xqS); (repeat apply xc_seq))
  refine xc_cond rfl (fun h => ?_) (fun h => ?_)
  ·have hlta : a < Rn := by have := of_decide_eq_true h; omega
   with_reducible (apply xc_skip; (repeat first | apply xqT | apply xqB | apply xqS); (repeat apply xc_seq); apply xc_block; (repeat apply xc_seq); apply xcR)
   refine xoM ?_
   refine xoA ?_
   with_reducible (apply xo_nil; (repeat first | apply xqT | apply xqB | apply xqS); (repeat apply xc_seq); apply xcR)
   refine xo_fa T_ rfl rfl rfl rfl rfl ?_
   refine xo_load0 T_ rfl rfl rfl (List.mem_cons_of_mem _ hb1) rfl rfl ?_
   refine xoM ?_
   with_reducible (apply xo_nil; (repeat first | apply xqT | apply xqB | apply xqS); (repeat apply xc_seq); apply xc_block)
   have hS2 := hS1.all Rn k a
   show XC _ _ _ _ _ _ _ _ _ ((bM, true, cel (matV (rowM k a (allM Rn k M1 a) 0)) 102) :: ζ) _
   have hal : allM Rn k M1 (a + 1) = rowM k a (allM Rn k M1 a) Rn := rfl
   generalize allM Rn k M1 a = M2 at hS2 hal ⊢
   refine xc_loop (γ := Nat) (fun b => b ≤ Rn) (fun b => [(1, .pointer (some ⟨b1, 0, none⟩)), (5, .pointer (some ⟨b5, 0, none⟩)), (6, .slice (some ⟨xb, 0, none⟩) xl.length xc), (7, .pointer (some ⟨bM, 0, none⟩)), (82, .int .i64 (Rn : Int)), (83, .int .i64 (k : Int)), (13, .int .i64 (k : Int)), (87, .int .i64 (Rn : Int)), (88, .int .i64 (a : Int)), (14, .int .i64 (a : Int)), (92, .int .i64 (Rn : Int)), (93, .int .i64 (b : Int))]) (fun b => (bM, true, cel (matV (rowM k a M2 b)) 102) :: ζ) (fun b => Rn - b) 0 (by omega) ⟨rfl, rfl, rfl, rfl, rfl, rfl, rfl, rfl, rfl, rfl, rfl, rfl, trivial⟩ (List.Sublist.refl _) ?_
   intro b hb
   with_reducible ((repeat apply xc_seq); apply xcR)
   refine xo_lss rfl rfl rfl rfl ?_
   with_reducible (apply xo_nil; (repeat first | apply xqT | apply xqB | apply xqS); (repeat apply xc_seq))
   refine xc_cond rfl (fun h => ?_) (fun h => ?_)
   ·have hltb : b < Rn := by have := of_decide_eq_true h; omega
    have hS3 := hS2.row k a b
    have hrw : rowM k a M2 (b + 1) = cellM k (rowM k a M2 b) a b := rfl
    generalize rowM k a M2 b = M3 at hS3 hrw ⊢
    have q1 := hS3.pos a k
    have q2 := hS3.top a k
    have q3 := hS3.pos k b
    have q4 := hS3.top k b
    have q0 : nvr = 1073741824 := rfl
    with_reducible (apply xc_skip; (repeat first | apply xqT | apply xqB | apply xqS); (repeat apply xc_seq); apply xc_block; (repeat apply xc_seq); apply xcR)
    refine xoM ?_
    refine xoA ?_
    with_reducible (apply xo_nil; (repeat first | apply xqT | apply xqB | apply xqS); (repeat apply xc_seq))
    apply xc_drawE (fun g => []) (fun (η0 : Hp) g => match g with | [] => (η0) | a0 :: _ => ((bM, true, cel (matV (cellM k M3 a b)) 102) :: ζ)) (fun _ => True) [0, 0, 0, 0, 0, 0, 0, 0, 0, 0, 0, 0, 0, 0, 0, 0, 0, 0, 0, 0, 0, 1] [21] [[20, 18, 0, 1, 2, 3, 4, 5, 6, 7, 8, 9, 10, 11, 12, 13, 14, 15, 16, 17, 18]] (by trivial)
    apply SameLen.cons
    apply SameLen.cons
    apply SameLen.cons
    apply SameLen.cons
    apply SameLen.cons
    apply SameLen.cons
    apply SameLen.cons
    apply SameLen.cons
    apply SameLen.cons
    apply SameLen.cons
    apply SameLen.cons
    apply SameLen.cons
    apply SameLen.cons
    apply SameLen.cons
    apply SameLen.cons
    apply SameLen.cons
    apply SameLen.cons
    apply SameLen.cons
    apply SameLen.cons
    apply SameLen.cons
    apply SameLen.cons
    apply SameLen.cons
    exact SameLen.nil
    rotate_left 22
    case hH0 => rfl
    case hmix => exact T_.mixed
    case hbind => rfl
    case hdeps => rfl
    case hdist => rfl
    case hfresh => rfl
    case hE => rfl
    case hEn => decide
    ·refine DrawE.pure 0 0 rfl (.inr (by decide)) (fun L g hg hd => Nat.zero_le _) (fun g hlo hhi hF τ => ?_) ?_
     ·rcases g with _ | ⟨a0, _ | ⟨a1, g⟩⟩ <;> first | (simp only [lenC, lenN] at hlo hhi; omega) | (refine ⟨_, rfl, ?_⟩; refine xoM ?_; exact xoF)
     refine DrawE.pure 0 0 rfl (.inr (by decide)) (fun L g hg hd => Nat.zero_le _) (fun g hlo hhi hF τ => ?_) ?_
     ·rcases g with _ | ⟨a0, _ | ⟨a1, g⟩⟩ <;> first | (simp only [lenC, lenN] at hlo hhi; omega) | (refine ⟨_, rfl, ?_⟩; refine xoM ?_; exact xoF)
     refine DrawE.pure 0 0 rfl (.inr (by decide)) (fun L g hg hd => Nat.zero_le _) (fun g hlo hhi hF τ => ?_) ?_
     ·rcases g with _ | ⟨a0, _ | ⟨a1, g⟩⟩ <;> first | (simp only [lenC, lenN] at hlo hhi; omega) | (refine ⟨_, rfl, ?_⟩; refine xoM ?_; exact xoF)
     refine DrawE.pure 0 0 rfl (.inr (by decide)) (fun L g hg hd => Nat.zero_le _) (fun g hlo hhi hF τ => ?_) ?_
     ·rcases g with _ | ⟨a0, _ | ⟨a1, g⟩⟩ <;> first | (simp only [lenC, lenN] at hlo hhi; omega) | (refine ⟨_, rfl, ?_⟩; refine xoM ?_; exact xoF)
     refine DrawE.pure 0 0 rfl (.inr (by decide)) (fun L g hg hd => Nat.zero_le _) (fun g hlo hhi hF τ => ?_) ?_
     ·rcases g with _ | ⟨a0, _ | ⟨a1, g⟩⟩ <;> first | (simp only [lenC, lenN] at hlo hhi; omega) | (refine ⟨_, rfl, ?_⟩; refine xo_iaL T_ rfl Tryd.underlying102 rfl rfl rfl ⟨by omega, by omega⟩ rfl ?_; exact xoF)
     refine DrawE.pure 0 0 rfl (.inr (by decide)) (fun L g hg hd => Nat.zero_le _) (fun g hlo hhi hF τ => ?_) ?_
     ·rcases g with _ | ⟨a0, _ | ⟨a1, g⟩⟩ <;> first | (simp only [lenC, lenN] at hlo hhi; omega) | (refine ⟨_, rfl, ?_⟩; refine xo_iaL T_ rfl Tryd.underlying101 rfl rfl rfl ⟨by omega, by omega⟩ rfl ?_; exact xoF)
     refine DrawE.pure 0 0 rfl (.inr (by decide)) (fun L g hg hd => Nat.zero_le _) (fun g hlo hhi hF τ => ?_) ?_
     ·rcases g with _ | ⟨a0, _ | ⟨a1, g⟩⟩ <;> first | (simp only [lenC, lenN] at hlo hhi; omega) | (refine ⟨_, rfl, ?_⟩; refine xo_loadM T_ rfl rfl rfl matIx (by omega) (by omega) (List.Mem.head _) rfl ?_; exact xoF)
     refine DrawE.pure 0 0 rfl (.inr (by decide)) (fun L g hg hd => Nat.zero_le _) (fun g hlo hhi hF τ => ?_) ?_
     ·rcases g with _ | ⟨a0, _ | ⟨a1, g⟩⟩ <;> first | (simp only [lenC, lenN] at hlo hhi; omega) | (refine ⟨_, rfl, ?_⟩; refine xoM ?_; exact xoF)
     refine DrawE.pure 0 0 rfl (.inr (by decide)) (fun L g hg hd => Nat.zero_le _) (fun g hlo hhi hF τ => ?_) ?_
     ·rcases g with _ | ⟨a0, _ | ⟨a1, g⟩⟩ <;> first | (simp only [lenC, lenN] at hlo hhi; omega) | (refine ⟨_, rfl, ?_⟩; refine xoM ?_; exact xoF)
     refine DrawE.pure 0 0 rfl (.inr (by decide)) (fun L g hg hd => Nat.zero_le _) (fun g hlo hhi hF τ => ?_) ?_
     ·rcases g with _ | ⟨a0, _ | ⟨a1, g⟩⟩ <;> first | (simp only [lenC, lenN] at hlo hhi; omega) | (refine ⟨_, rfl, ?_⟩; refine xo_iaL T_ rfl Tryd.underlying102 rfl rfl rfl ⟨by omega, by omega⟩ rfl ?_; exact xoF)
     refine DrawE.pure 0 0 rfl (.inr (by decide)) (fun L g hg hd => Nat.zero_le _) (fun g hlo hhi hF τ => ?_) ?_
     ·rcases g with _ | ⟨a0, _ | ⟨a1, g⟩⟩ <;> first | (simp only [lenC, lenN] at hlo hhi; omega) | (refine ⟨_, rfl, ?_⟩; refine xo_iaL T_ rfl Tryd.underlying101 rfl rfl rfl ⟨by omega, by omega⟩ rfl ?_; exact xoF)
     refine DrawE.pure 0 0 rfl (.inr (by decide)) (fun L g hg hd => Nat.zero_le _) (fun g hlo hhi hF τ => ?_) ?_
     ·rcases g with _ | ⟨a0, _ | ⟨a1, g⟩⟩ <;> first | (simp only [lenC, lenN] at hlo hhi; omega) | (refine ⟨_, rfl, ?_⟩; refine xo_loadM T_ rfl rfl rfl matIx (by omega) (by omega) (List.Mem.head _) rfl ?_; exact xoF)
     refine DrawE.pure 0 0 rfl (.inr (by decide)) (fun L g hg hd => Nat.zero_le _) (fun g hlo hhi hF τ => ?_) ?_
     ·rcases g with _ | ⟨a0, _ | ⟨a1, g⟩⟩ <;> first | (simp only [lenC, lenN] at hlo hhi; omega) | (refine ⟨_, rfl, ?_⟩; refine xoM ?_; exact xoF)
     refine DrawE.pure 0 0 rfl (.inr (by decide)) (fun L g hg hd => Nat.zero_le _) (fun g hlo hhi hF τ => ?_) ?_
     ·rcases g with _ | ⟨a0, _ | ⟨a1, g⟩⟩ <;> first | (simp only [lenC, lenN] at hlo hhi; omega) | (refine ⟨_, rfl, ?_⟩; refine xoM ?_; exact xoF)
     refine DrawE.pure 0 0 rfl (.inr (by decide)) (fun L g hg hd => Nat.zero_le _) (fun g hlo hhi hF τ => ?_) ?_
     ·rcases g with _ | ⟨a0, _ | ⟨a1, g⟩⟩ <;> first | (simp only [lenC, lenN] at hlo hhi; omega) | (refine ⟨_, rfl, ?_⟩; refine xo_iaL T_ rfl Tryd.underlying102 rfl rfl rfl ⟨by omega, by omega⟩ rfl ?_; exact xoF)
     refine DrawE.pure 0 0 rfl (.inr (by decide)) (fun L g hg hd => Nat.zero_le _) (fun g hlo hhi hF τ => ?_) ?_
     ·rcases g with _ | ⟨a0, _ | ⟨a1, g⟩⟩ <;> first | (simp only [lenC, lenN] at hlo hhi; omega) | (refine ⟨_, rfl, ?_⟩; refine xo_iaL T_ rfl Tryd.underlying101 rfl rfl rfl ⟨by omega, by omega⟩ rfl ?_; exact xoF)
     refine DrawE.pure 0 0 rfl (.inr (by decide)) (fun L g hg hd => Nat.zero_le _) (fun g hlo hhi hF τ => ?_) ?_
     ·rcases g with _ | ⟨a0, _ | ⟨a1, g⟩⟩ <;> first | (simp only [lenC, lenN] at hlo hhi; omega) | (refine ⟨_, rfl, ?_⟩; refine xo_loadM T_ rfl rfl rfl matIx (by omega) (by omega) (List.Mem.head _) rfl ?_; exact xoF)
     refine DrawE.pure 0 0 rfl (.inr (by decide)) (fun L g hg hd => Nat.zero_le _) (fun g hlo hhi hF τ => ?_) ?_
     ·rcases g with _ | ⟨a0, _ | ⟨a1, g⟩⟩ <;> first | (simp only [lenC, lenN] at hlo hhi; omega) | (refine ⟨_, rfl, ?_⟩; refine xo_add rfl rfl rfl (by omega) rfl ?_; exact xoF)
     refine DrawE.pure 0 0 rfl (.inr (by decide)) (fun L g hg hd => Nat.zero_le _) (fun g hlo hhi hF τ => ?_) ?_
     ·rcases g with _ | ⟨a0, _ | ⟨a1, g⟩⟩ <;> first | (simp only [lenC, lenN] at hlo hhi; omega) | (refine ⟨_, rfl, ?_⟩; refine xo_min rfl rfl rfl rfl ?_; exact xoF)
     refine DrawE.pure 0 1 rfl (.inl rfl) (fun L g hg hd => Nat.zero_le _) (fun g hlo hhi hF τ => ?_) ?_
     ·rcases g with _ | ⟨a0, _ | ⟨a1, g⟩⟩ <;> first | (simp only [lenC, lenN] at hlo hhi; omega) | (refine ⟨_, rfl, ?_⟩; refine xo_iaL T_ rfl Tryd.underlying102 rfl rfl rfl ⟨by omega, by omega⟩ rfl ?_; exact xoF)
     refine DrawE.pure 0 0 rfl (.inr (by decide)) (fun L g hg hd => Nat.zero_le _) (fun g hlo hhi hF τ => ?_) ?_
     ·rcases g with _ | ⟨a0, _ | ⟨a1, g⟩⟩ <;> first | (simp only [lenC, lenN] at hlo hhi; omega) | (refine ⟨_, rfl, ?_⟩; refine xo_iaL T_ rfl Tryd.underlying101 rfl rfl rfl ⟨by omega, by omega⟩ rfl ?_; exact xoF)
     refine DrawE.eff 0 rfl (by decide) rfl (fun j hj => hj) (fun j g a hj => ?_) (fun L g hg hd => Nat.zero_le _) (fun g hgl hF τ => ?_) ?_
     ·rcases j with _ | _ | _ | _ | _ | _ | _ | _ | _ | _ | _ | _ | _ | _ | _ | _ | _ | _ | _ | _ | _ | _ | j
      all_goals first | rfl | (rcases g with _ | ⟨a0, _ | ⟨a1, g⟩⟩ <;> first | rfl | exact absurd hj (by decide) | exact absurd hj (by simp [List.getD]))
     ·obtain rfl : g = [] := by
       rcases g with _ | ⟨a0, g⟩ <;> first | rfl | (exfalso; simp only [List.length_cons, List.length_nil] at hgl; omega)
      refine xo_storeM T_ rfl rfl rfl rfl matIx (by omega) (by omega) (List.Mem.head _) Upd.head rfl ?_
      exact xo_finE ⟨0, 0, none⟩ rfl trivial
     exact DrawE.nil
    intro g hgl hF
    obtain ⟨a0, rfl⟩ : ∃ a0, g = [a0] := by
     rcases g with _ | ⟨a0, _ | ⟨a1, g⟩⟩ <;> first | exact ⟨_, rfl⟩ | (exfalso; simp only [List.length_cons, List.length_nil] at hgl; omega)
    with_reducible (repeat first | apply xqT | apply xqB | apply xqS)
    refine xc_slots [(1, .pointer (some ⟨b1, 0, none⟩)), (5, .pointer (some ⟨b5, 0, none⟩)), (6, .slice (some ⟨xb, 0, none⟩) xl.length xc), (7, .pointer (some ⟨bM, 0, none⟩)), (82, .int .i64 (Rn : Int)), (83, .int .i64 (k : Int)), (13, .int .i64 (k : Int)), (87, .int .i64 (Rn : Int)), (88, .int .i64 (a : Int)), (14, .int .i64 (a : Int)), (92, .int .i64 (Rn : Int)), (93, .int .i64 (b : Int))] ⟨rfl, rfl, rfl, rfl, rfl, rfl, rfl, rfl, rfl, rfl, rfl, rfl, trivial⟩ ?_
    with_reducible ((repeat apply xc_seq); apply xcR)
    refine xo_add rfl rfl rfl (by omega) rfl ?_
    refine xoM ?_
    with_reducible (apply xo_nil; (repeat first | apply xqT | apply xqB | apply xqS))
    exact xq_again _ _ _ _ _ (b + 1) (by omega) (by omega) ⟨rfl, rfl, rfl, rfl, rfl, rfl, rfl, rfl, rfl, rfl, rfl, rfl, trivial⟩ (by rw [hrw]; exact List.Sublist.refl _)
   ·have hge : b = Rn := by have := of_decide_eq_false h; omega
    subst hge
    with_reducible (apply xc_exit; (repeat (first | apply xq_blockX | apply xq_thenE | refine xq_blockE rfl ?_ | apply xq_scopeE)); (repeat first | apply xqT | apply xqB | apply xqS); (repeat apply xc_seq); apply xcR)
    refine xo_add rfl rfl rfl (by omega) rfl ?_
    refine xoM ?_
    with_reducible (apply xo_nil; (repeat first | apply xqT | apply xqB | apply xqS))
    exact xq_again _ _ _ _ _ (a + 1) (by omega) (by omega) ⟨rfl, rfl, rfl, rfl, rfl, rfl, rfl, rfl, rfl, trivial⟩ (by rw [hal]; exact List.Sublist.refl _)
  ·have hge : a = Rn := by have := of_decide_eq_false h; omega
   subst hge
   with_reducible (apply xc_exit; (repeat (first | apply xq_blockX | apply xq_thenE | refine xq_blockE rfl ?_ | apply xq_scopeE)); (repeat first | apply xqT | apply xqB | apply xqS); (repeat apply xc_seq); apply xcR)
   refine xo_add rfl rfl rfl (by omega) rfl ?_
   refine xoM ?_
   with_reducible (apply xo_nil; (repeat first | apply xqT | apply xqB | apply xqS))
   exact xq_again _ _ _ _ _ (k + 1) (by omega) (by omega) ⟨rfl, rfl, rfl, rfl, rfl, rfl, trivial⟩ (by rw [hfw]; exact List.Sublist.refl _)
 have hge : Rn = k := by have := of_decide_eq_false h; omega
 subst hge
 with_reducible (apply xc_exit; (repeat (first | apply xq_blockX | apply xq_thenE | refine xq_blockE rfl ?_ | apply xq_scopeE)); (repeat first | apply xqT | apply xqB | apply xqS))
 rw [← hfar]
 subst hζ
 have hrf0 : rf = none → pre.length = 0 := hC1
 have hrw0 : rw_ = none → pre.length = 0 := hC2
 refine xc_perm (perm2 _ _ _ _) ?_
 refine xc_drawG (vsS bs (valR rf pre.length) (valR rw_ pre.length) (.slice (some ⟨xb, 0, none⟩) xl.length xc) (.agg (matV (farM Rn gs xl)).toArray) pre.length) (hS bM b5 bs (scnV Rn A gs.length c E B ms.length c2) (valR rf pre.length) (valR rw_ pre.length) (.slice (some ⟨xb, 0, none⟩) xl.length xc) rf rw_ pre.length (flatM Rn gs pre) (pre.map sliceD) (matV (farM Rn gs xl)) ((xb, true, orow 3 1 xl.length xc (xl.map (.int .i64))) :: (bd, false, cel (scnV Rn A gs.length c E B ms.length c2) 25) :: (b1, true, cel (scnV Rn A gs.length c E B ms.length c2) 25) :: pre.flatMap haD)) okS (.s0 none) ⟨by simp, by simp, by simp, by simp, by simp, by simp⟩ rfl (fun g => rfl) T_.mixed rfl rfl rfl rfl ?_ ?_
 ·apply DrawG.pure (fun L g h => okS_pure (by decide) h)
  ·intro L g hg hi hd τ
   cases g
   all_goals first
    | exact absurd (hg.1 0 (by decide)) hi
    | (refine ⟨_, rfl, ?_⟩; refine xo_load0 T_ rfl rfl rfl (by repeat first | exact mH | apply mT | apply mA) rfl rfl ?_; exact xoF)
  apply DrawG.pure (fun L g h => okS_pure (by decide) h)
  ·intro L g hg hi hd τ
   cases g
   all_goals first
    | exact absurd (hg.1 1 (by decide)) hi
    | (refine ⟨_, rfl, ?_⟩; refine xo_load0 T_ rfl rfl rfl (by repeat first | exact mH | apply mT | apply mA) rfl rfl ?_; exact xoF)
  apply DrawG.pure (fun L g h => okS_pure (by decide) h)
  ·intro L g hg hi hd τ
   cases g
   all_goals first
    | exact absurd (hg.1 2 (by decide)) hi
    | (refine ⟨_, rfl, ?_⟩; refine xo_load0 T_ rfl rfl rfl (by repeat first | exact mH | apply mT | apply mA) rfl rfl ?_; exact xoF)
  apply DrawG.pure (fun L g h => okS_pure (by decide) h)
  ·intro L g hg hi hd τ
   cases g
   all_goals first
    | exact absurd (hg.1 3 (by decide)) hi
    | (refine ⟨_, rfl, ?_⟩; refine xo_nilck rfl rfl rfl ?_; exact xoF)
  apply DrawG.pure (fun L g h => okS_pure (by decide) h)
  ·intro L g hg hi hd τ
   cases g
   all_goals first
    | exact absurd (hg.1 4 (by decide)) hi
    | (refine ⟨_, rfl, ?_⟩; refine xo_fa T_ rfl rfl rfl rfl rfl ?_; exact xoF)
  apply DrawG.pure (fun L g h => okS_pure (by decide) h)
  ·intro L g hg hi hd τ
   cases g
   all_goals first
    | exact absurd (hg.1 5 (by decide)) hi
    | (refine ⟨_, rfl, ?_⟩; refine xo_load0 T_ rfl rfl rfl (by repeat first | exact mH | apply mT | apply mA) rfl rfl ?_; exact xoF)
  apply DrawG.pure (fun L g h => okS_pure (by decide) h)
  ·intro L g hg hi hd τ
   cases g
   all_goals first
    | exact absurd (hg.1 6 (by decide)) hi
    | (refine ⟨_, rfl, ?_⟩; refine xo_loadN T_ rfl rfl rfl (by repeat first | exact mH | apply mT | apply mA) (seg_mat (farM Rn gs xl)) rfl ?_; exact xoF)
  refine DrawG.cons ?_ ?_
  ·intro L g hg hi hd τ
   cases g with
   | s0 q =>
    obtain ⟨h7, h8, h15, h18, h21, h14⟩ := hg
    refine xo_bsG T_ 36 rfl rfl rfl rfl rfl rfl rfl rfl (fill_mat (farM Rn gs xl)) rfl (fun b => ?_)
    refine xo_nil fun a w1 ha hw1 => ⟨.s1 q b, ⟨List.mem_cons_self, by rwa [mem_ne (by decide)], by rwa [mem_ne (by decide)], by rwa [mem_ne (by decide)], by rwa [mem_ne (by decide)], by rw [mem_ne (by decide)]; exact h14⟩, vsS_same (fun h => absurd h h7) (fun h => absurd h h8) (fun _ => rfl) (fun h => absurd h h15), ⟨_, rfl, ha⟩, hw1⟩
   | s1 q b => exact absurd hg.1 hi
   | s2 q b pf => exact absurd hg.1 hi
   | s3 q b pf pw => exact absurd hg.1 hi
   | s4 q b pf pw => exact absurd (hg.1 7 (by decide)) hi
   | s5 q b pf pw => exact absurd (hg.1 7 (by decide)) hi
  refine DrawG.cons ?_ ?_
  ·intro L g hg hi hd τ
   cases g with
   | s0 q => exact absurd (hd 7 (by decide)) hg.1
   | s1 q b =>
    obtain ⟨h7, h8, h15, h18, h21, h14⟩ := hg
    refine xo_perm ((List.perm_append_comm_assoc _ _ _).cons _) ?_
    refine xo_app TR_ rfl rfl rfl rfl rfl rfl rfl rfl hfl (matV_len (farM Rn gs xl)) (by rw [List.all_eq_true]; exact matV_one (farM Rn gs xl)) hrf0 (by omega) rfl rfl (fun r' hr' => ?_)
    obtain ⟨pf, rfl⟩ := Option.ne_none_iff_exists'.1 hr'
    refine xo_nil fun a w1 ha hw1 => ⟨.s2 q b pf, ⟨List.mem_cons_of_mem _ h7, List.mem_cons_self, by rwa [mem_ne (by decide)], by rwa [mem_ne (by decide)], by rwa [mem_ne (by decide)], by rw [mem_ne (by decide)]; exact h14⟩, vsS_same (fun _ => rfl) (fun h => absurd h h8) (fun _ => rfl) (fun h => absurd h h15), ⟨_, rfl, ha⟩, hw1.perm ((List.perm_append_comm_assoc _ _ _).trans ((List.perm_append_comm_assoc _ _ _).append_left _))⟩
   | s2 q b pf => exact absurd hg.2.1 hi
   | s3 q b pf pw => exact absurd hg.2.1 hi
   | s4 q b pf pw => exact absurd (hg.1 8 (by decide)) hi
   | s5 q b pf pw => exact absurd (hg.1 8 (by decide)) hi
  apply DrawG.pure (fun L g h => okS_pure (by decide) h)
  ·intro L g hg hi hd τ
   cases g
   all_goals first
    | exact absurd (hg.1 9 (by decide)) hi
    | (refine ⟨_, rfl, ?_⟩; refine xo_load0 T_ rfl rfl rfl (by repeat first | exact mH | apply mT | apply mA) rfl rfl ?_; exact xoF)
  apply DrawG.pure (fun L g h => okS_pure (by decide) h)
  ·intro L g hg hi hd τ
   cases g
   all_goals first
    | exact absurd (hg.1 10 (by decide)) hi
    | (refine ⟨_, rfl, ?_⟩; refine xo_nilck rfl rfl rfl ?_; exact xoF)
  apply DrawG.pure (fun L g h => okS_pure (by decide) h)
  ·intro L g hg hi hd τ
   cases g
   all_goals first
    | exact absurd (hg.1 11 (by decide)) hi
    | (refine ⟨_, rfl, ?_⟩; refine xo_fa T_ rfl rfl rfl rfl rfl ?_; exact xoF)
  apply DrawG.pure (fun L g h => okS_pure (by decide) h)
  ·intro L g hg hi hd τ
   cases g
   all_goals first
    | exact absurd (hg.1 12 (by decide)) hi
    | (refine ⟨_, rfl, ?_⟩; refine xo_load0 T_ rfl rfl rfl (by repeat first | exact mH | apply mT | apply mA) rfl rfl ?_; exact xoF)
  apply DrawG.pure (fun L g h => okS_pure (by decide) h)
  ·intro L g hg hi hd τ
   cases g
   all_goals first
    | exact absurd (hg.1 13 (by decide)) hi
    | (refine ⟨_, rfl, ?_⟩; refine xoM ?_; exact xoF)
  refine DrawG.cons ?_ ?_
  ·intro L g hg hi hd τ
   cases g with
   | s0 q =>
    obtain ⟨h7, h8, h15, h18, h21, h14⟩ := hg
    cases q with
    | some q => exact absurd (h14.2 rfl) hi
    | none =>
     refine xo_bs1 T_ rfl rfl rfl rfl rfl rfl rfl rfl (fun bq => ?_)
     refine xo_nil fun a w1 ha hw1 => ⟨.s0 (some bq), ⟨by rwa [mem_ne (by decide)], by rwa [mem_ne (by decide)], by rwa [mem_ne (by decide)], by rwa [mem_ne (by decide)], by rwa [mem_ne (by decide)], ⟨fun _ => rfl, fun _ => List.mem_cons_self⟩⟩, vsS_same (fun _ => rfl) (fun _ => rfl) (fun h => absurd h hi) (fun _ => rfl), ⟨_, rfl, ha⟩, hw1⟩
   | s1 q b =>
    obtain ⟨h7, h8, h15, h18, h21, h14⟩ := hg
    cases q with
    | some q => exact absurd (h14.2 rfl) hi
    | none =>
     refine xo_bs1 T_ rfl rfl rfl rfl rfl rfl rfl rfl (fun bq => ?_)
     refine xo_nil fun a w1 ha hw1 => ⟨.s1 (some bq) b, ⟨by rwa [mem_ne (by decide)], by rwa [mem_ne (by decide)], by rwa [mem_ne (by decide)], by rwa [mem_ne (by decide)], by rwa [mem_ne (by decide)], ⟨fun _ => rfl, fun _ => List.mem_cons_self⟩⟩, vsS_same (fun _ => rfl) (fun _ => rfl) (fun h => absurd h hi) (fun _ => rfl), ⟨_, rfl, ha⟩, hw1.perm (List.Perm.swap _ _ _)⟩
   | s2 q b pf =>
    obtain ⟨h7, h8, h15, h18, h21, h14⟩ := hg
    cases q with
    | some q => exact absurd (h14.2 rfl) hi
    | none =>
     refine xo_bs1 T_ rfl rfl rfl rfl rfl rfl rfl rfl (fun bq => ?_)
     refine xo_nil fun a w1 ha hw1 => ⟨.s2 (some bq) b pf, ⟨by rwa [mem_ne (by decide)], by rwa [mem_ne (by decide)], by rwa [mem_ne (by decide)], by rwa [mem_ne (by decide)], by rwa [mem_ne (by decide)], ⟨fun _ => rfl, fun _ => List.mem_cons_self⟩⟩, vsS_same (fun _ => rfl) (fun _ => rfl) (fun h => absurd h hi) (fun _ => rfl), ⟨_, rfl, ha⟩, hw1⟩
   | s3 q b pf pw => exact absurd hg.2.2.2.2.2 hi
   | s4 q b pf pw => exact absurd (hg.1 14 (by decide)) hi
   | s5 q b pf pw => exact absurd (hg.1 14 (by decide)) hi
  refine DrawG.cons ?_ ?_
  ·intro L g hg hi hd τ
   cases g with
   | s0 q => exact absurd (hd 8 (by decide)) hg.2.1
   | s1 q b => exact absurd (hd 8 (by decide)) hg.2.1
   | s2 q b pf =>
    obtain ⟨h7, h8, h15, h18, h21, h14⟩ := hg
    have hq := h14.1 (hd 14 (by decide))
    cases q with
    | none => cases hq
    | some q =>
    refine xo_app TR_ rfl rfl rfl rfl rfl rfl rfl rfl hwl rfl rfl hrw0 (by omega) rfl rfl (fun r' hr' => ?_)
    obtain ⟨pw, rfl⟩ := Option.ne_none_iff_exists'.1 hr'
    refine xo_nil fun a w1 ha hw1 => ⟨.s3 q b pf pw, ⟨List.mem_cons_of_mem _ h7, List.mem_cons_of_mem _ h8, List.mem_cons_self, by rwa [mem_ne (by decide)], by rwa [mem_ne (by decide)], List.mem_cons_of_mem _ (hd 14 (by decide))⟩, vsS_same (fun _ => rfl) (fun _ => rfl) (fun _ => rfl) (fun h => absurd h h15), ⟨_, rfl, ha⟩, hw1⟩
   | s3 q b pf pw => exact absurd hg.2.2.1 hi
   | s4 q b pf pw => exact absurd (hg.1 15 (by decide)) hi
   | s5 q b pf pw => exact absurd (hg.1 15 (by decide)) hi
  apply DrawG.pure (fun L g h => okS_pure (by decide) h)
  ·intro L g hg hi hd τ
   cases g
   all_goals first
    | exact absurd (hg.1 16 (by decide)) hi
    | (refine ⟨_, rfl, ?_⟩; refine xo_nilck rfl rfl rfl ?_; exact xoF)
  apply DrawG.pure (fun L g h => okS_pure (by decide) h)
  ·intro L g hg hi hd τ
   cases g
   all_goals first
    | exact absurd (hg.1 17 (by decide)) hi
    | (refine ⟨_, rfl, ?_⟩; refine xo_fa T_ rfl rfl rfl rfl rfl ?_; exact xoF)
  refine DrawG.cons ?_ ?_
  ·intro L g hg hi hd τ
   cases g with
   | s0 q => exact absurd (hd 15 (by decide)) hg.2.2.1
   | s1 q b => exact absurd (hd 15 (by decide)) hg.2.2.1
   | s2 q b pf => exact absurd (hd 15 (by decide)) hg.2.2.1
   | s3 q b pf pw =>
    obtain ⟨h7, h8, h15, h18, h21, h14⟩ := hg
    refine xo_store T_ rfl rfl rfl rfl (by repeat first | exact mH | apply mT | apply mA) rfl rfl rfl rfl (by repeat first | exact Upd.head | apply Upd.tail | apply Upd.app) rfl ?_
    refine xo_nil fun a w1 ha hw1 => ⟨.s4 q b pf pw, ⟨fun j hj => ?_, by rwa [mem_ne (by decide)]⟩, vsS_same (fun _ => rfl) (fun _ => rfl) (fun _ => rfl) (fun _ => rfl), ⟨_, rfl, ha⟩, hw1⟩
    simp only [List.mem_cons, List.not_mem_nil, or_false] at hj
    rcases hj with rfl | rfl | rfl | rfl | rfl | rfl | rfl
    ·exact List.mem_cons_of_mem _ (hd 5 (by decide))
    ·exact List.mem_cons_of_mem _ h7
    ·exact List.mem_cons_of_mem _ h8
    ·exact List.mem_cons_of_mem _ (hd 12 (by decide))
    ·exact List.mem_cons_of_mem _ h14
    ·exact List.mem_cons_of_mem _ h15
    ·exact List.mem_cons_self
   | s4 q b pf pw => exact absurd (hg.1 18 (by decide)) hi
   | s5 q b pf pw => exact absurd (hg.1 18 (by decide)) hi
  apply DrawG.pure (fun L g h => okS_pure (by decide) h)
  ·intro L g hg hi hd τ
   cases g
   all_goals first
    | exact absurd (hg.1 19 (by decide)) hi
    | (refine ⟨_, rfl, ?_⟩; refine xo_nilck rfl rfl rfl ?_; exact xoF)
  apply DrawG.pure (fun L g h => okS_pure (by decide) h)
  ·intro L g hg hi hd τ
   cases g
   all_goals first
    | exact absurd (hg.1 20 (by decide)) hi
    | (refine ⟨_, rfl, ?_⟩; refine xo_fa T_ rfl rfl rfl rfl rfl ?_; exact xoF)
  refine DrawG.cons ?_ ?_
  ·intro L g hg hi hd τ
   cases g with
   | s0 q => exact absurd (hd 15 (by decide)) hg.2.2.1
   | s1 q b => exact absurd (hd 15 (by decide)) hg.2.2.1
   | s2 q b pf => exact absurd (hd 15 (by decide)) hg.2.2.1
   | s3 q b pf pw => exact absurd (hd 18 (by decide)) hg.2.2.2.1
   | s4 q b pf pw =>
    refine xo_store T_ rfl rfl rfl rfl (by repeat first | exact mH | apply mT | apply mA) rfl rfl rfl rfl (by repeat first | exact Upd.head | apply Upd.tail | apply Upd.app) rfl ?_
    refine xo_nil fun a w1 ha hw1 => ⟨.s5 q b pf pw, ⟨fun j hj => ?_, trivial⟩, vsS_same (fun _ => rfl) (fun _ => rfl) (fun _ => rfl) (fun _ => rfl), ⟨_, rfl, ha⟩, hw1⟩
    by_cases e : j = 21
    ·subst e; exact List.mem_cons_self
    ·refine List.mem_cons_of_mem _ (hg.1 j ?_)
     simp only [List.mem_cons, List.not_mem_nil, or_false] at hj ⊢
     omega
   | s5 q b pf pw => exact absurd (hg.1 21 (by decide)) hi
  exact DrawG.nil
 intro L g hg hall
 have h21 := hall 21 (by decide)
 cases g with
 | s0 q => exact absurd h21 hg.2.2.2.2.1
 | s1 q b => exact absurd h21 hg.2.2.2.2.1
 | s2 q b pf => exact absurd h21 hg.2.2.2.2.1
 | s3 q b pf pw => exact absurd h21 hg.2.2.2.2.1
 | s4 q b pf pw => exact absurd h21 hg.2
 | s5 q b pf pw =>
  with_reducible (repeat first | apply xqT | apply xqB | apply xqS)
  intro a1 w1 ha1 hw1
  have h1 : WOK W X ((bd, false, cel (scnV Rn A gs.length c E B ms.length c2) 25) :: openH b1 b5 bs (scnV Rn A gs.length c E B ms.length c2) Rn gs (pre ++ [((xb, xc), xl)]) (some pf) (some pw)) w1 := by
   unfold openH
   rw [hla, hfa, hwa, hpa]
   exact (hw1.sub (((List.sublist_cons_self _ _).append_left _).append_left _)).perm (perm_out _ _ _ _ _ _ _ _)
  refine ⟨(some pf, some pw), ⟨fun q => (by cases q), fun q => (by cases q), hokk, fun e he => ?_⟩, h1⟩
  have h2 := hback _ _ h1
  refine ⟨(h2.ow e (List.mem_cons_of_mem _ he) (openH_own e he).1).resolve_right (fun q => q), fun q => ?_⟩
  have := h2.nd
  simp only [List.map_cons, List.nodup_cons] at this
  exact this.1 (List.mem_map.2 ⟨e, he, q⟩)
theorem open_enters : ∀ args w, (callFunc 35 args).run Tryd.prog w = .ok (.enter 35 args) w := enters_of Tryd.func35 (by kernel_rfl) rfl
theorem RO.lit {w : World} {X : Nat → Prop} {b o : Nat} {cs : List Value} {j : Nat} {v : Value} (h : RO w X ⟨b, o, none⟩ cs) (hj : cs[j]? = some v) : RO w X ⟨b, o + j, none⟩ [v] := by
 have := h.fld hj
 rwa [Addr.add_lit] at this
theorem RO.pre {w : World} {X : Nat → Prop} {p : Addr} {cs ds : List Value} (h : RO w X p (cs ++ ds)) : RO w X p cs := fun j v hj => h j v (by rw [List.getElem?_append_left (List.getElem?_eq_some_iff.1 hj).1]; exact hj)
theorem RO.below {w w' : World} {p : Addr} {cs : List Value} (h : RO w XNone p cs) (hb : Below w.heap.size w w') : RO w' XNone p cs := fun j v hj => ⟨(Kx.of_below (X := XNone) hb).cell (h j v hj).1 (fun q => q), fun q => q⟩
theorem RO.lt {w : World} {X : Nat → Prop} {p : Addr} {v : Value} {cs : List Value} (h : RO w X p (v :: cs)) : p.block < w.heap.size := by
 have := World.block_lt_of_cell? w _ (h 0 v rfl).1
 rwa [add_blk] at this
def winF (E : Int) (r : Nat → Int) (ms : List MarT) : SpaT := ms.foldl (fun s m => comF s (saysF E r m)) ⟨0, E⟩
def beganFrom (E : Int) (R : Nat) (gs : List GatT) (room : Nat) (ms : List MarT) : Nat → List (List Int) → List (Nat × SpaT)
 | _, [] => []
 | i, l :: ls => if (winF E (farM R gs l room) ms).f0 ≤ (winF E (farM R gs l room) ms).f1 then (i, winF E (farM R gs l room) ms) :: beganFrom E R gs room ms (i + 1) ls else beganFrom E R gs room ms (i + 1) ls
def beganL (E : Int) (R : Nat) (gs : List GatT) (room : Nat) (ms : List MarT) : List (Nat × SpaT) := beganFrom E R gs room ms 0 (allD gs)
theorem winF_take (E : Int) (r : Nat → Int) (ms : List MarT) (k : Nat) (hk : k < ms.length) : winF E r (ms.take (k + 1)) = comF (winF E r (ms.take k)) (saysF E r (ms.getD k zMar)) := by
 unfold winF
 rw [List.take_add_one, List.getElem?_eq_getElem hk, List.foldl_append]
 simp [List.getD_eq_getElem?_getD, List.getElem?_eq_getElem hk]
structure SiteR (w : World) (bs fb fc : Nat) (sv : List Value) (wv : Value) (R : Nat) (gs : List GatT) : Prop where
 site : RO w XNone ⟨bs, 0, none⟩ (siteV sv (.slice (some ⟨fb, 0, none⟩) (allD gs).length fc) wv)
 fars : ∀ k, k < (allD gs).length → RO w XNone (Addr.add ⟨fb, 0, none⟩ ((k : Int).toNat * szN 36)) (matV (farM R gs ((allD gs).getD k [])))
theorem SiteR.keep {w w' : World} {bs fb fc : Nat} {sv : List Value} {wv : Value} {R : Nat} {gs : List GatT} (h : SiteR w bs fb fc sv wv R gs) (e1 : w'.heap[bs]? = w.heap[bs]?) (e2 : w'.heap[fb]? = w.heap[fb]?) : SiteR w' bs fb fc sv wv R gs :=
 ⟨h.site.blk e1, fun k hk => (h.fars k hk).blk (by rw [add_blk]; exact e2)⟩
theorem SiteR.below {w w' : World} {bs fb fc : Nat} {sv : List Value} {wv : Value} {R : Nat} {gs : List GatT} (h : SiteR w bs fb fc sv wv R gs) (hb : Below w.heap.size w w') : SiteR w' bs fb fc sv wv R gs :=
 ⟨h.site.below hb, fun k hk => (h.fars k hk).below hb⟩
theorem GlobO.kx {w w' : World} {X : Nat → Prop} (h : GlobO w) (k : Kx X w w') (hX : ¬ X 0) : GlobO w' := fun j v hj => ⟨k.cell (h j v hj).1 (by rw [add_blk]; exact hX), fun x => x⟩
theorem far_sure {R : Nat} {gs : List GatT} {l : List Int} (hG : GatesR R gs) (hl : okD gs l) (a : Nat) : SureR (farM R gs l a) := fun i _ => by
 have h := (gates_sound hG hl).fw R R
 exact ⟨h.pos a i, h.top a i⟩
theorem setSeg_mat (F : Nat → Nat → Int) : setSeg 0 (matV F) (List.replicate 36 (Value.int .i64 0)) = some (matV F) := rfl
theorem seg_row (F : Nat → Nat → Int) {a : Nat} (ha : a < 6) : seg (0 + (a : Int).toNat * szN 6) (5 + 1) (matV F) = some (rowV (F a)) := by
 rcases (show a = 0 ∨ a = 1 ∨ a = 2 ∨ a = 3 ∨ a = 4 ∨ a = 5 by omega) with rfl | rfl | rfl | rfl | rfl | rfl <;> rfl
def encG (x : Nat × SpaT) : List Value := [.int .i64 (x.1 : Int), .agg (spaV x.2).toArray]
theorem began1_enters : ∀ args w, (callFunc 51 args).run Tryd.prog w = .ok (.enter 51 args) w := enters_of Tryd.func51 (by kernel_rfl) rfl
set_option maxHeartbeats 40000000 in
theorem began_seq (n : Nat) (R : Nat) (E : Int) (A B Bm : Option Addr) (c nm0 c2 cm : Nat) (gs : List GatT) (ms : List MarT) (room : Nat) (b1 b2 b3 bs fb fc : Nat) (wv : Value) (K : Nat → Prop) (w : World) (hR6 : 1 ≤ R ∧ R ≤ 6) (hE : 0 ≤ E ∧ E ≤ 600) (hG : GatesR R gs) (hm8 : ms.length ≤ 8) (hmk : ∀ m ∈ ms, MarkOK m) (hroom : room < 6)
  (h1 : RO w XNone ⟨b1, 0, none⟩ [.pointer (some ⟨bs, 0, none⟩)]) (h2 : RO w XNone ⟨b2, 0, none⟩ [.slice Bm ms.length cm]) (h3 : RO w XNone ⟨b3, 0, none⟩ [.int .i64 (room : Int)]) (hS : SiteR w bs fb fc (scnV R A gs.length c E B nm0 c2) wv R gs) (hM : RowOf marV 7 zMar w Bm ms) (hglob : GlobO w)
  (hKlt : ∀ k, K k → k < w.heap.size) (hK1 : K b1) (hK2 : K b2) (hK3 : K b3) (hKs : K bs) (hKf : K fb) (hKg : K 0) (hKM : 0 < ms.length → holdsA K Bm) :
  SeqO n Tryd.prog 51 [.pointer (some ⟨b1, 0, none⟩), .pointer (some ⟨b2, 0, none⟩), .pointer (some ⟨b3, 0, none⟩)] encG (fun _ => []) (fun pre x => ∃ rest, beganL E R gs room ms = pre ++ x :: rest) (fun xs => xs = beganL E R gs room ms) K w := by
 intro l J Jx W hbW aJ aJx hJ0 hy
 have hKW : ∀ k, K k → k < W.heap.size := fun k hk => Nat.lt_of_lt_of_le (hKlt k hk) hbW.size
 have h1W := h1.below hbW
 have h2W := h2.below hbW
 have h3W := h3.below hbW
 have hSW := hS.below hbW
 have hMW := hM.below hbW
 have hgW := hglob.below hbW
 clear h1 h2 h3 hS hM hglob hbW hKlt
 have hfew := allD_few hG
 refine x_iter Tryd.func51 rfl rfl rfl (WOK.start XNone W) ?_
 with_reducible ((repeat apply xc_seq); apply xcR)
 refine xo_callB (vs := []) (fs := []) (cs := []) rfl rfl rfl kinds_enters rfl (fun w1 hw1 => kinds_calls w1) ?_
 refine xo_alloc T_ rfl rfl rfl rfl (fun b5 => ?_)
 refine xo_store T_ rfl rfl rfl rfl (by repeat first | exact mH | apply mT | apply mA) rfl rfl rfl rfl (by repeat first | exact Upd.head | apply Upd.tail | apply Upd.app) rfl ?_
 with_reducible (apply xo_nil; (repeat first | apply xqT | apply xqB | apply xqS); (repeat apply xc_seq); apply xcR)
 refine xo_loadR0 T_ rfl rfl rfl h1W rfl ?_
 refine xo_nilck rfl rfl rfl ?_
 refine xo_fa T_ rfl rfl rfl rfl rfl ?_
 refine xo_loadR0 T_ rfl rfl rfl (hSW.site.lit (j := 4) rfl) rfl ?_
 refine xo_len T_ rfl rfl rfl rfl ?_
 refine xoM ?_
 with_reducible (apply xo_nil; (repeat first | apply xqT | apply xqB | apply xqS); (repeat apply xc_seq); apply xc_block)
 refine xc_loopJ (γ := Nat × List (Nat × SpaT)) (fun q => q.1 ≤ (allD gs).length ∧ beganL E R gs room ms = q.2 ++ beganFrom E R gs room ms q.1 ((allD gs).drop q.1)) (fun q => [(0, .func (.yield l) #[] #[]), (1, .pointer (some ⟨b1, 0, none⟩)), (2, .pointer (some ⟨b2, 0, none⟩)), (3, .pointer (some ⟨b3, 0, none⟩)), (5, .pointer (some ⟨b5, 0, none⟩)), (15, .slice (some ⟨fb, 0, none⟩) (allD gs).length fc), (16, .int .i64 ((allD gs).length : Int)), (17, .int .i64 (q.1 : Int))])
  (fun _ => [(b5, true, cel kindsV 93)]) (fun q V => ∃ O, IterRel J K W O q.2 V ∧ ∀ i, XW [(b5, true, cel kindsV 93)] i → O i ∧ W.heap.size ≤ i) (fun q => (allD gs).length - q.1) (0, []) ⟨Nat.zero_le _, rfl⟩ ⟨rfl, rfl, rfl, rfl, rfl, rfl, rfl, rfl, trivial⟩ (fun V hV => ⟨hV.bok (List.Sublist.refl _), ?_⟩) ?_
 ·obtain ⟨O, h2, h3, _⟩ := (IterRel.start (K := K) hJ0).step aJ hKW (fun i q => q.elim) hV (fun e he => by rw [List.mem_singleton.1 he])
  exact ⟨O, h2, fun i ⟨e, he, _, hi⟩ => hi ▸ h3 e he⟩
 rintro ⟨k, pre⟩ ⟨hkl, hpre⟩ V hbok ⟨O, hJ, hO⟩
 simp only at hkl hpre hJ ⊢
 have hnX : ∀ i, K i → ¬ XW [(b5, true, cel kindsV 93)] i := fun i hi q => absurd (hKW i hi) (Nat.not_lt.2 (hO i q).2)
 have h1V := (h1W.blk (hJ.2.1 _ hK1)).wr (hnX _ hK1)
 have h2V := (h2W.blk (hJ.2.1 _ hK2)).wr (hnX _ hK2)
 have h3V := (h3W.blk (hJ.2.1 _ hK3)).wr (hnX _ hK3)
 have hSV := hSW.keep (hJ.2.1 _ hKs) (hJ.2.1 _ hKf)
 have hsV := hSV.site.wr (hnX _ hKs)
 have hMV := hMW.keep K hKM hJ.2.1
 have hgV : GlobO V := RO.blk (p := ⟨0, 0, none⟩) hgW (hJ.2.1 _ hKg)
 with_reducible ((repeat apply xc_seq); apply xcR)
 refine xo_lss rfl rfl rfl rfl ?_
 with_reducible (apply xo_nil; (repeat first | apply xqT | apply xqB | apply xqS); (repeat apply xc_seq))
 refine xc_cond rfl (fun h => ?_) (fun h => ?_)
 ·have hlt : k < (allD gs).length := by have := of_decide_eq_true h; omega
  have hfV := (hSV.fars k hlt).wr (X := XW [(b5, true, cel kindsV 93)]) (by rw [add_blk]; exact hnX _ hKf)
  have hlk := allD_ok _ (getD_mem (allD gs) [] k hlt)
  have hsure := far_sure hG hlk room
  rw [drop_at (allD gs) [] k hlt, beganFrom] at hpre
  generalize (allD gs).getD k [] = lk at hfV hlk hsure hpre
  generalize hF : farM R gs lk = F at hfV hsure hpre
  with_reducible (apply xc_skip; (repeat first | apply xqT | apply xqB | apply xqS); (repeat apply xc_seq); apply xc_block; (repeat apply xc_seq); apply xcR)
  refine xoM ?_
  refine xo_ia T_ rfl rfl rfl rfl rfl ⟨by omega, by omega⟩ rfl ?_
  refine xo_loadRN T_ rfl rfl rfl hfV rfl rfl ?_
  refine xo_alloc T_ rfl rfl rfl rfl (fun b7 => ?_)
  refine xoA ?_
  refine xo_store T_ (cs' := matV F) rfl rfl rfl rfl (by repeat first | exact mH | apply mT | apply mA) rfl rfl (by rw [List.all_eq_true]; exact matV_one F) (setSeg_mat F) (by repeat first | exact Upd.head | apply Upd.tail | apply Upd.app) rfl ?_
  with_reducible (apply xo_nil; (repeat first | apply xqT | apply xqB | apply xqS); (repeat apply xc_seq); apply xcR)
  refine xo_loadR0 T_ rfl rfl rfl h1V rfl ?_
  refine xo_nilck rfl rfl rfl ?_
  refine xo_fa T_ rfl rfl rfl rfl rfl ?_
  refine xo_fa T_ rfl rfl rfl rfl rfl ?_
  refine xo_loadR0 T_ rfl rfl rfl (hsV.lit (j := 2) rfl) rfl ?_
  refine xo_build TB_ rfl rfl rfl rfl rfl ?_
  refine xo_alloc T_ rfl rfl rfl rfl (fun b8 => ?_)
  refine xo_store T_ rfl rfl rfl rfl (by repeat first | exact mH | apply mT | apply mA) rfl rfl rfl rfl (by repeat first | exact Upd.head | apply Upd.tail | apply Upd.app) rfl ?_
  with_reducible (apply xo_nil; (repeat first | apply xqT | apply xqB | apply xqS); (repeat apply xc_seq); apply xcR)
  refine xo_loadR0 T_ rfl rfl rfl h2V rfl ?_
  refine xo_len T_ rfl rfl rfl rfl ?_
  refine xoM ?_
  with_reducible (apply xo_nil; (repeat first | apply xqT | apply xqB | apply xqS); (repeat apply xc_seq); apply xc_block)
  refine xc_loop (γ := Nat) (fun j => j ≤ ms.length) (fun j => [(0, .func (.yield l) #[] #[]), (1, .pointer (some ⟨b1, 0, none⟩)), (2, .pointer (some ⟨b2, 0, none⟩)), (3, .pointer (some ⟨b3, 0, none⟩)), (5, .pointer (some ⟨b5, 0, none⟩)), (15, .slice (some ⟨fb, 0, none⟩) (allD gs).length fc), (16, .int .i64 ((allD gs).length : Int)), (17, .int .i64 (k : Int)), (6, .int .i64 (k : Int)), (7, .pointer (some ⟨b7, 0, none⟩)), (8, .pointer (some ⟨b8, 0, none⟩)), (28, .slice Bm ms.length cm), (29, .int .i64 (ms.length : Int)), (30, .int .i64 (j : Int))])
   (fun j => [(b8, true, cel (spaV (winF E (F room) (ms.take j))) 55), (b7, true, cel (matV F) 102), (b5, true, cel kindsV 93)]) (fun j => ms.length - j) 0 (Nat.zero_le _) ⟨rfl, rfl, rfl, rfl, rfl, rfl, rfl, rfl, rfl, rfl, rfl, rfl, rfl, rfl, trivial⟩ (by repeat (first | exact List.Sublist.refl _ | apply List.Sublist.cons_cons | apply List.Sublist.cons | exact List.nil_sublist _)) ?_
  intro j hj
  with_reducible ((repeat apply xc_seq); apply xcR)
  refine xo_lss rfl rfl rfl rfl ?_
  with_reducible (apply xo_nil; (repeat first | apply xqT | apply xqB | apply xqS); (repeat apply xc_seq))
  refine xc_cond rfl (fun h => ?_) (fun h => ?_)
  ·have hltj : j < ms.length := by have := of_decide_eq_true h; omega
   obtain ⟨ad, rfl, hRm⟩ := hMV j hltj
   have hmj := hmk _ (getD_mem ms zMar j hltj)
   have htk := winF_take E (F room) ms j hltj
   have hRm := hRm.wr (X := XW [(b5, true, cel kindsV 93)]) (by rw [add_blk]; exact hnX _ (hKM (by omega) ad rfl))
   generalize ms.getD j zMar = mm at hRm hmj htk
   generalize winF E (F room) (ms.take j) = cur at htk ⊢
   have hk6 := hmj.kind
   have hr0 := hmj.room
   with_reducible (apply xc_skip; (repeat first | apply xqT | apply xqB | apply xqS); (repeat apply xc_seq); apply xc_block; (repeat apply xc_seq); apply xcR)
   refine xo_ia T_ rfl rfl rfl rfl rfl ⟨by omega, by omega⟩ rfl ?_
   refine xo_loadRN T_ rfl rfl rfl hRm rfl rfl ?_
   refine xo_alloc T_ rfl rfl rfl rfl (fun b10 => ?_)
   refine xo_store T_ rfl rfl rfl rfl (by repeat first | exact mH | apply mT | apply mA) rfl rfl rfl rfl (by repeat first | exact Upd.head | apply Upd.tail | apply Upd.app) rfl ?_
   with_reducible (apply xo_nil; (repeat first | apply xqT | apply xqB | apply xqS); (repeat apply xc_seq))
   apply xc_drawE (fun g => [(15, .slice (some ⟨(g.getD 0 gv0).b, 0, none⟩) 1 1)]) (fun (η0 : Hp) g => match g with | [] => (η0) | a0 :: [] => ((a0.b, true, cel (spaV (saysF E (F room) mm)) 55) :: η0) | a0 :: a1 :: _ => ((a0.b, true, cel (spaV (saysF E (F room) mm)) 55) :: (b10, true, cel (marV mm) 60) :: (b8, true, cel (spaV (comF cur (saysF E (F room) mm))) 55) :: (b7, true, cel (matV F) 102) :: (b5, true, cel kindsV 93) :: [])) (fun _ => True) [0, 0, 0, 0, 0, 0, 0, 0, 0, 0, 0, 0, 0, 0, 0, 1, 1, 2] [15, 17] [[14], [16, 16, 0, 1, 2, 3, 4, 5, 6, 7, 8, 9, 10, 11, 12, 13, 14, 15, 16]] (by trivial)
   apply SameLen.cons
   apply SameLen.cons
   apply SameLen.cons
   apply SameLen.cons
   apply SameLen.cons
   apply SameLen.cons
   apply SameLen.cons
   apply SameLen.cons
   apply SameLen.cons
   apply SameLen.cons
   apply SameLen.cons
   apply SameLen.cons
   apply SameLen.cons
   apply SameLen.cons
   apply SameLen.cons
   apply SameLen.cons (c := undef)
   apply SameLen.cons
   apply SameLen.cons
   exact SameLen.nil
   rotate_left 17
   case hH0 => rfl
   case hmix => exact T_.mixed
   case hbind => rfl
   case hdeps => rfl
   case hdist => rfl
   case hfresh => rfl
   case hE => rfl
   case hEn => decide
   ·refine DrawE.pure 0 1 rfl (.inr (by decide)) (fun L g hg hd => Nat.zero_le _) (fun g hlo hhi hF τ => ?_) ?_
    ·rcases g with _ | ⟨a0, _ | ⟨a1, _ | ⟨a2, g⟩⟩⟩ <;> first | (simp only [lenC, lenN] at hlo hhi; omega) | (refine ⟨_, rfl, ?_⟩; refine xo_loadN T_ rfl rfl rfl (by repeat first | exact mH | apply mT | apply mA) rfl rfl ?_; exact xoF)
    refine DrawE.pure 0 1 rfl (.inr (by decide)) (fun L g hg hd => Nat.zero_le _) (fun g hlo hhi hF τ => ?_) ?_
    ·rcases g with _ | ⟨a0, _ | ⟨a1, _ | ⟨a2, g⟩⟩⟩ <;> first | (simp only [lenC, lenN] at hlo hhi; omega) | (refine ⟨_, rfl, ?_⟩; refine xo_fa T_ rfl rfl rfl rfl rfl ?_; exact xoF)
    refine DrawE.pure 0 1 rfl (.inr (by decide)) (fun L g hg hd => Nat.zero_le _) (fun g hlo hhi hF τ => ?_) ?_
    ·rcases g with _ | ⟨a0, _ | ⟨a1, _ | ⟨a2, g⟩⟩⟩ <;> first | (simp only [lenC, lenN] at hlo hhi; omega) | (refine ⟨_, rfl, ?_⟩; refine xo_load0 T_ rfl rfl rfl (by repeat first | exact mH | apply mT | apply mA) rfl rfl ?_; exact xoF)
    refine DrawE.pure 0 1 rfl (.inr (by decide)) (fun L g hg hd => Nat.zero_le _) (fun g hlo hhi hF τ => ?_) ?_
    ·rcases g with _ | ⟨a0, _ | ⟨a1, _ | ⟨a2, g⟩⟩⟩ <;> first | (simp only [lenC, lenN] at hlo hhi; omega) | (refine ⟨_, rfl, ?_⟩; refine xo_iaL T_ rfl Tryd.underlying93 rfl rfl rfl ⟨by omega, by omega⟩ rfl ?_; exact xoF)
    refine DrawE.pure 0 1 rfl (.inr (by decide)) (fun L g hg hd => Nat.zero_le _) (fun g hlo hhi hF τ => ?_) ?_
    ·rcases g with _ | ⟨a0, _ | ⟨a1, _ | ⟨a2, g⟩⟩⟩ <;> first | (simp only [lenC, lenN] at hlo hhi; omega) | (refine ⟨_, rfl, ?_⟩; refine xo_fa T_ rfl rfl rfl rfl rfl ?_; exact xoF)
    refine DrawE.pure 0 1 rfl (.inr (by decide)) (fun L g hg hd => Nat.zero_le _) (fun g hlo hhi hF τ => ?_) ?_
    ·rcases g with _ | ⟨a0, _ | ⟨a1, _ | ⟨a2, g⟩⟩⟩ <;> first | (simp only [lenC, lenN] at hlo hhi; omega) | (refine ⟨_, rfl, ?_⟩; refine xo_load0 T_ rfl rfl rfl (by repeat first | exact mH | apply mT | apply mA) (kindsV_says hk6) rfl ?_; exact xoF)
    refine DrawE.pure 0 1 rfl (.inr (by decide)) (fun L g hg hd => Nat.zero_le _) (fun g hlo hhi hF τ => ?_) ?_
    ·rcases g with _ | ⟨a0, _ | ⟨a1, _ | ⟨a2, g⟩⟩⟩ <;> first | (simp only [lenC, lenN] at hlo hhi; omega) | (refine ⟨_, rfl, ?_⟩; refine xo_loadR0 T_ rfl rfl rfl h1V rfl ?_; exact xoF)
    refine DrawE.pure 0 1 rfl (.inr (by decide)) (fun L g hg hd => Nat.zero_le _) (fun g hlo hhi hF τ => ?_) ?_
    ·rcases g with _ | ⟨a0, _ | ⟨a1, _ | ⟨a2, g⟩⟩⟩ <;> first | (simp only [lenC, lenN] at hlo hhi; omega) | (refine ⟨_, rfl, ?_⟩; refine xo_nilck rfl rfl rfl ?_; exact xoF)
    refine DrawE.pure 0 1 rfl (.inr (by decide)) (fun L g hg hd => Nat.zero_le _) (fun g hlo hhi hF τ => ?_) ?_
    ·rcases g with _ | ⟨a0, _ | ⟨a1, _ | ⟨a2, g⟩⟩⟩ <;> first | (simp only [lenC, lenN] at hlo hhi; omega) | (refine ⟨_, rfl, ?_⟩; refine xo_fa T_ rfl rfl rfl rfl rfl ?_; exact xoF)
    refine DrawE.pure 0 1 rfl (.inr (by decide)) (fun L g hg hd => Nat.zero_le _) (fun g hlo hhi hF τ => ?_) ?_
    ·rcases g with _ | ⟨a0, _ | ⟨a1, _ | ⟨a2, g⟩⟩⟩ <;> first | (simp only [lenC, lenN] at hlo hhi; omega) | (refine ⟨_, rfl, ?_⟩; refine xo_loadRN T_ rfl rfl rfl (RO.pre (ds := [.slice (some ⟨fb, 0, none⟩) (allD gs).length fc, wv]) hsV) rfl rfl ?_; exact xoF)
    refine DrawE.pure 0 1 rfl (.inr (by decide)) (fun L g hg hd => Nat.zero_le _) (fun g hlo hhi hF τ => ?_) ?_
    ·rcases g with _ | ⟨a0, _ | ⟨a1, _ | ⟨a2, g⟩⟩⟩ <;> first | (simp only [lenC, lenN] at hlo hhi; omega) | (refine ⟨_, rfl, ?_⟩; refine xo_loadN T_ rfl rfl rfl (by repeat first | exact mH | apply mT | apply mA) rfl rfl ?_; exact xoF)
    refine DrawE.pure 0 1 rfl (.inr (by decide)) (fun L g hg hd => Nat.zero_le _) (fun g hlo hhi hF τ => ?_) ?_
    ·rcases g with _ | ⟨a0, _ | ⟨a1, _ | ⟨a2, g⟩⟩⟩ <;> first | (simp only [lenC, lenN] at hlo hhi; omega) | (refine ⟨_, rfl, ?_⟩; refine xo_loadR0 T_ rfl rfl rfl h3V rfl ?_; exact xoF)
    refine DrawE.pure 0 1 rfl (.inr (by decide)) (fun L g hg hd => Nat.zero_le _) (fun g hlo hhi hF τ => ?_) ?_
    ·rcases g with _ | ⟨a0, _ | ⟨a1, _ | ⟨a2, g⟩⟩⟩ <;> first | (simp only [lenC, lenN] at hlo hhi; omega) | (refine ⟨_, rfl, ?_⟩; refine xo_iaL T_ rfl Tryd.underlying102 rfl rfl rfl ⟨by omega, by omega⟩ rfl ?_; exact xoF)
    refine DrawE.pure 0 1 rfl (.inr (by decide)) (fun L g hg hd => Nat.zero_le _) (fun g hlo hhi hF τ => ?_) ?_
    ·rcases g with _ | ⟨a0, _ | ⟨a1, _ | ⟨a2, g⟩⟩⟩ <;> first | (simp only [lenC, lenN] at hlo hhi; omega) | (refine ⟨_, rfl, ?_⟩; refine xo_loadN T_ rfl rfl rfl (by repeat first | exact mH | apply mT | apply mA) (seg_row F hroom) rfl ?_; exact xoF)
    refine DrawE.pure 0 0 rfl (.inr (by decide)) (fun L g hg hd => Nat.zero_le _) (fun g hlo hhi hF τ => ?_) ?_
    ·rcases g with _ | ⟨a0, _ | ⟨a1, _ | ⟨a2, g⟩⟩⟩ <;> first | (simp only [lenC, lenN] at hlo hhi; omega) | (refine ⟨_, rfl, ?_⟩; refine xo_callB (fs := []) (cs := []) rfl rfl rfl (says_enters hk6) rfl (fun w1 hw1 => says_calls R E A B gs.length c nm0 c2 (F room) mm w1 hmj hE hsure (hgV.kx hw1.kx (hnX _ hKg))) ?_; exact xoF)
    refine DrawE.eff 0 rfl (by decide) rfl (fun j hj => hj) (fun j g a hj => ?_) (fun L g hg hd => Nat.zero_le _) (fun g hgl hF τ => ?_) ?_
    ·rcases j with _ | _ | _ | _ | _ | _ | _ | _ | _ | _ | _ | _ | _ | _ | _ | _ | _ | _ | j
     all_goals first | rfl | (rcases g with _ | ⟨a0, _ | ⟨a1, _ | ⟨a2, g⟩⟩⟩ <;> first | rfl | exact absurd hj (by decide) | exact absurd hj (by simp [List.getD]))
    ·obtain rfl : g = [] := by
      rcases g with _ | ⟨a0, g⟩ <;> first | rfl | (exfalso; simp only [List.length_cons, List.length_nil] at hgl; omega)
     refine xo_bsG T_ 2 rfl rfl rfl rfl rfl rfl rfl rfl rfl rfl (fun b49 => ?_)
     exact xo_finE ⟨b49, 0, none⟩ rfl trivial
    refine DrawE.pure 1 1 rfl (.inr (by decide)) (fun L g hg hd => hg.2.1 15 (hd 15 (by decide))) (fun g hlo hhi hF τ => ?_) ?_
    ·rcases g with _ | ⟨a0, _ | ⟨a1, _ | ⟨a2, g⟩⟩⟩ <;> first | (simp only [lenC, lenN] at hlo hhi; omega) | (refine ⟨_, rfl, ?_⟩; refine xo_callB (fs := []) (cs := []) rfl rfl rfl common_enters rfl (fun w1 hw1 => common1_calls cur (saysF E (F room) mm) a0.b w1 (hw1.ro (by repeat first | exact mH | apply mT | apply mA))) ?_; exact xoF)
    refine DrawE.eff 1 rfl (by decide) rfl (fun j hj => hj) (fun j g a hj => ?_) (fun L g hg hd => hg.2.1 16 (hd 16 (by decide))) (fun g hgl hF τ => ?_) ?_
    ·rcases j with _ | _ | _ | _ | _ | _ | _ | _ | _ | _ | _ | _ | _ | _ | _ | _ | _ | _ | j
     all_goals first | rfl | (rcases g with _ | ⟨a0, _ | ⟨a1, _ | ⟨a2, g⟩⟩⟩ <;> first | rfl | exact absurd hj (by decide) | exact absurd hj (by simp [List.getD]))
    ·obtain ⟨a0, rfl⟩ : ∃ a0, g = [a0] := by
      rcases g with _ | ⟨a0, _ | ⟨a1, _ | ⟨a2, g⟩⟩⟩ <;> first | exact ⟨_, rfl⟩ | rfl | (exfalso; simp only [List.length_cons, List.length_nil] at hgl; omega)
     refine xo_store T_ rfl rfl rfl rfl (by repeat first | exact mH | apply mT | apply mA) rfl rfl rfl rfl (by repeat first | exact Upd.head | apply Upd.tail | apply Upd.app) rfl ?_
     exact xo_finE ⟨0, 0, none⟩ rfl trivial
    exact DrawE.nil
   intro g hgl hF
   obtain ⟨a0, a1, rfl⟩ : ∃ a0 a1, g = [a0, a1] := by
    rcases g with _ | ⟨a0, _ | ⟨a1, _ | ⟨a2, g⟩⟩⟩ <;> first | exact ⟨_, _, rfl⟩ | (exfalso; simp only [List.length_cons, List.length_nil] at hgl; omega)
   with_reducible (repeat first | apply xqT | apply xqB | apply xqS)
   refine xc_slots [(0, .func (.yield l) #[] #[]), (1, .pointer (some ⟨b1, 0, none⟩)), (2, .pointer (some ⟨b2, 0, none⟩)), (3, .pointer (some ⟨b3, 0, none⟩)), (5, .pointer (some ⟨b5, 0, none⟩)), (15, .slice (some ⟨fb, 0, none⟩) (allD gs).length fc), (16, .int .i64 ((allD gs).length : Int)), (17, .int .i64 (k : Int)), (6, .int .i64 (k : Int)), (7, .pointer (some ⟨b7, 0, none⟩)), (8, .pointer (some ⟨b8, 0, none⟩)), (28, .slice (some ad) ms.length cm), (29, .int .i64 (ms.length : Int)), (30, .int .i64 (j : Int))] ⟨rfl, rfl, rfl, rfl, rfl, rfl, rfl, rfl, rfl, rfl, rfl, rfl, rfl, rfl, trivial⟩ ?_
   with_reducible ((repeat apply xc_seq); apply xcR)
   refine xo_add rfl rfl rfl (by omega) rfl ?_
   refine xoM ?_
   with_reducible (apply xo_nil; (repeat first | apply xqT | apply xqB | apply xqS))
   exact xq_again _ _ _ _ _ (j + 1) (by omega) (by omega) ⟨rfl, rfl, rfl, rfl, rfl, rfl, rfl, rfl, rfl, rfl, rfl, rfl, rfl, rfl, trivial⟩ (by rw [htk]; exact (by repeat (first | exact List.Sublist.refl _ | apply List.Sublist.cons_cons | apply List.Sublist.cons | exact List.nil_sublist _)))
  have hgej : j = ms.length := by have := of_decide_eq_false h; omega
  subst hgej
  rw [List.take_of_length_le (Nat.le_refl _)]
  with_reducible (apply xc_exit; (repeat (first | apply xq_blockX | apply xq_thenE | refine xq_blockE rfl ?_ | apply xq_scopeE)); (repeat first | apply xqT | apply xqB | apply xqS))
  generalize winF E (F room) ms = s at hpre ⊢
  cases hle : decide (s.f0 ≤ s.f1)
  ·rw [if_neg (of_decide_eq_false hle)] at hpre
   with_reducible ((repeat apply xc_seq); apply xcR)
   refine xo_fa T_ rfl rfl rfl rfl rfl ?_
   refine xo_load0 T_ rfl rfl rfl (by repeat first | exact mH | apply mT | apply mA) rfl rfl ?_
   refine xo_fa T_ rfl rfl rfl rfl rfl ?_
   refine xo_load0 T_ rfl rfl rfl (by repeat first | exact mH | apply mT | apply mA) rfl rfl ?_
   refine xo_leq rfl rfl rfl rfl ?_
   refine xo_as (i := 56) rfl (congrArg Value.bool hle) ?_
   refine xoM ?_
   (first | refine xoN ?_ | refine xoM ?_)
   (first | refine xoN ?_ | refine xoM ?_)
   (first | refine xoN ?_ | refine xo_loadN T_ rfl rfl rfl (by repeat first | exact mH | apply mT | apply mA) rfl rfl ?_)
   (first | refine xoN ?_ | (fail "NO RULE: Op.call -9"))
   (first | refine xoN ?_ | refine xo_notOp rfl rfl rfl ?_)
   first | refine xo_pickT rfl rfl rfl rfl ?_ | refine xo_pickF rfl rfl rfl rfl ?_
   with_reducible (apply xo_nil; (repeat first | apply xqT | apply xqB | apply xqS); (repeat apply xc_seq))
   refine xc_condF rfl ?_
   with_reducible (apply xc_skip; (repeat first | apply xqT | apply xqB | apply xqS); (repeat apply xc_seq); apply xcR)
   refine xo_add rfl rfl rfl (by omega) rfl ?_
   refine xoM ?_
   with_reducible (apply xo_nil; (repeat first | apply xqT | apply xqB | apply xqS))
   refine xq_againJ _ _ _ _ _ _ (k + 1, pre) ⟨hlt, hpre⟩ (by simp only; omega) ⟨rfl, rfl, rfl, rfl, rfl, rfl, rfl, rfl, trivial⟩ (fun w1 hw1 => ⟨hw1.bok (by repeat (first | exact List.Sublist.refl _ | apply List.Sublist.cons_cons | apply List.Sublist.cons | exact List.nil_sublist _)), ?_⟩)
   obtain ⟨O2, h2, h3, _⟩ := hJ.step aJ hKW hO (hw1.sub (η' := [(b5, true, cel kindsV 93)]) (by repeat (first | exact List.Sublist.refl _ | apply List.Sublist.cons_cons | apply List.Sublist.cons | exact List.nil_sublist _))) (fun e he => by rw [List.mem_singleton.1 he])
   exact ⟨O2, h2, fun i ⟨e, he, _, hi⟩ => hi ▸ h3 e he⟩
  ·rw [if_pos (of_decide_eq_true hle)] at hpre
   with_reducible ((repeat apply xc_seq); apply xcR)
   refine xo_fa T_ rfl rfl rfl rfl rfl ?_
   refine xo_load0 T_ rfl rfl rfl (by repeat first | exact mH | apply mT | apply mA) rfl rfl ?_
   refine xo_fa T_ rfl rfl rfl rfl rfl ?_
   refine xo_load0 T_ rfl rfl rfl (by repeat first | exact mH | apply mT | apply mA) rfl rfl ?_
   refine xo_leq rfl rfl rfl rfl ?_
   refine xo_as (i := 56) rfl (congrArg Value.bool hle) ?_
   refine xoM ?_
   (first | refine xoN ?_ | refine xoM ?_)
   (first | refine xoN ?_ | refine xoM ?_)
   (first | refine xoN ?_ | refine xo_loadN T_ rfl rfl rfl (by repeat first | exact mH | apply mT | apply mA) rfl rfl ?_)
   refine xo_yieldO (K := K) (W := W) (O := O) (enc := encG) (HA := fun _ => []) (k, s) [(b5, true, cel kindsV 93)] rfl rfl rfl rfl aJ hKW hy hJ hO ⟨_, hpre⟩ (by repeat (first | exact List.Sublist.refl _ | apply List.Sublist.cons_cons | apply List.Sublist.cons | exact List.nil_sublist _)) (fun e he => by rw [List.mem_singleton.1 he]) (fun O' V' hr' hb' hO' => ?_) (fun O' V' hx' hb' hO' => ?_)
   rotate_left
   ·refine xo_notOp rfl rfl rfl ?_
    refine xo_pickT rfl rfl rfl rfl ?_
    with_reducible (apply xo_nil; (repeat first | apply xqT | apply xqB | apply xqS); (repeat apply xc_seq))
    refine xc_condT rfl ?_
    with_reducible ((repeat apply xc_seq); apply xc_ret; (repeat (first | apply xq_thenR | apply xq_blockR | apply xq_scopeR)))
    exact xq_ret0 rfl fun w2 hw2 => ⟨⟨_, rfl⟩, .inr ⟨O', _, aJx O' O' _ V' w2 hx' (hw2.kx.mono hO') (fun i q => .inl q)⟩⟩
   refine xo_notOp rfl rfl rfl ?_
   refine xo_pickT rfl rfl rfl rfl ?_
   with_reducible (apply xo_nil; (repeat first | apply xqT | apply xqB | apply xqS); (repeat apply xc_seq))
   refine xc_condF rfl ?_
   with_reducible (apply xc_skip; (repeat first | apply xqT | apply xqB | apply xqS); (repeat apply xc_seq); apply xcR)
   refine xo_add rfl rfl rfl (by omega) rfl ?_
   refine xoM ?_
   with_reducible (apply xo_nil; (repeat first | apply xqT | apply xqB | apply xqS))
   refine xq_againJ _ _ _ _ _ _ (k + 1, pre ++ [(k, s)]) ⟨hlt, by simpa using hpre⟩ (by simp only; omega) ⟨rfl, rfl, rfl, rfl, rfl, rfl, rfl, rfl, trivial⟩ (fun w1 hw1 => ⟨hw1.bok (List.Sublist.refl _), ?_⟩)
   obtain ⟨O2, h2, h3, _⟩ := hr'.step aJ hKW hO' hw1 (fun e he => by rw [List.mem_singleton.1 he])
   exact ⟨O2, h2, fun i ⟨e, he, _, hi⟩ => hi ▸ h3 e he⟩
 ·have hge : k = (allD gs).length := by have := of_decide_eq_false h; omega
  rw [List.drop_of_length_le (by omega), beganFrom, List.append_nil] at hpre
  with_reducible (apply xc_exit; (repeat (first | apply xq_blockX | apply xq_thenE | refine xq_blockE rfl ?_ | apply xq_scopeE)))
  refine xq_end0 rfl fun w2 hw2 => ⟨⟨_, rfl⟩, .inl ?_⟩
  obtain ⟨O2, h2, _⟩ := hJ.step aJ hKW hO (hw2.sub (List.nil_sublist _)) (fun e he => by cases he)
  exact ⟨O2, pre, hpre.symm, h2.1⟩
end Go.Proofs.YtommeljlfkmpjaaDoor
namespace Go.Proofs.YtommeljlfkmpjaaDoor
def cmpL : List MarT → List MarT → Int
 | [], [] => 0
 | [], _ :: _ => -1
 | _ :: _, [] => 1
 | x :: xs, y :: ys => if x.f0 - y.f0 = 0 then cmpL xs ys else x.f0 - y.f0
def cmpS (xs ys : List MarT) : Int := if (xs.length : Int) = ys.length then cmpL xs ys else (xs.length : Int) - ys.length
def IdsOK (xs : List MarT) : Prop := xs.length ≤ 8 ∧ ∀ m ∈ xs, 0 ≤ m.f0 ∧ m.f0 ≤ 9999
end Go.Proofs.YtommeljlfkmpjaaDoor
namespace Go.Proofs.YtommeljlfkmpjaaDoor.Q
open Go.RowKit Go.Proofs.YtommeljlfkmpjaaDoorW.PrintWords
theorem ro_q {w : World} {p : Addr} {cs : List Value} (h : Go.Proofs.YtommeljlfkmpjaaDoor.RO w Go.Proofs.YtommeljlfkmpjaaDoor.XNone p cs) : RO w XNone p cs := h
theorem RO.below {w w' : World} {p : Addr} {cs : List Value} (h : RO w XNone p cs) (hb : Below w.heap.size w w') : RO w' XNone p cs := Go.Proofs.YtommeljlfkmpjaaDoor.RO.below h hb
theorem number_calls (m : MarT) (w : World) : Calls Tryd.prog 75 #[.agg (marV m).toArray] w fun e w' => e = .returned (.int .i64 m.f0) ∧ WOK w XNone [] w' := by
 refine x_calls (X := XNone) Tryd.func75 rfl rfl rfl ?_
 with_reducible ((repeat apply xc_seq); apply xcR)
 refine xo_box rfl rfl rfl rfl (fun b1 => ?_)
 refine xoA ?_
 with_reducible (apply xo_nil; (repeat first | apply xqT | apply xqB | apply xqS); (repeat apply xc_seq); apply xcR)
 refine xo_fa T_ rfl rfl rfl rfl rfl ?_
 refine xo_load0 T_ rfl rfl rfl (by repeat first | exact mH | apply mT | apply mA) rfl rfl ?_
 refine xoA ?_
 with_reducible (apply xo_nil; (repeat first | apply xqT | apply xqB | apply xqS); (repeat apply xc_seq); apply xc_ret; (repeat (first | apply xq_thenR | apply xq_blockR | apply xq_scopeR)))
 exact xq_ret1 rfl rfl fun w' hw => ⟨rfl, hw.sub (List.nil_sublist _)⟩
theorem number_enters : ∀ args w, (callFunc 75 args).run Tryd.prog w = .ok (.enter 75 args) w := enters_of Tryd.func75 (by kernel_rfl) rfl
theorem diff_calls (x y : MarT) (B : Nat) (w : World) (hx : 0 ≤ x.f0 ∧ x.f0 ≤ 9999) (hy : 0 ≤ y.f0 ∧ y.f0 ≤ 9999) (hB : RO w XNone ⟨B, 0, none⟩ [.func (.func 75) #[] #[]]) :
  Calls Tryd.prog 79 #[.agg (marV x).toArray, .agg (marV y).toArray, .pointer (some ⟨B, 0, none⟩)] w fun e w' => e = .returned (.int .i64 (x.f0 - y.f0)) ∧ WOK w XNone [] w' := by
 refine x_calls (X := XNone) Tryd.func79 rfl rfl rfl ?_
 with_reducible ((repeat apply xc_seq); apply xcR)
 refine xo_box rfl rfl rfl rfl (fun b3 => ?_)
 refine xo_box rfl rfl rfl rfl (fun b4 => ?_)
 refine xoA ?_
 with_reducible (apply xo_nil; (repeat first | apply xqT | apply xqB | apply xqS))
 refine xc_slots [(2, .pointer (some ⟨B, 0, none⟩)), (3, .pointer (some ⟨b3, 0, none⟩)), (4, .pointer (some ⟨b4, 0, none⟩))] ⟨rfl, rfl, rfl, trivial⟩ ?_
 with_reducible (repeat apply xc_seq)
 apply xc_drawN
 ·exact T_.mixed
 ·rfl
 ·rfl
 ·rfl
 ·rfl
 ·apply DrawOps.cons
  ·intro τ
   refine xo_loadR0 T_ rfl rfl rfl hB rfl ?_
   exact xoF
  apply DrawOps.cons
  ·intro τ
   refine xo_loadN T_ rfl rfl rfl (by repeat first | exact mH | apply mT | apply mA) rfl rfl ?_
   exact xoF
  apply DrawOps.cons
  ·intro τ
   refine xo_callB (fs := []) (cs := []) rfl rfl rfl number_enters rfl (fun w1 hw1 => number_calls x w1) ?_
   exact xoF
  apply DrawOps.cons
  ·intro τ
   refine xo_loadR0 T_ rfl rfl rfl hB rfl ?_
   exact xoF
  apply DrawOps.cons
  ·intro τ
   refine xo_loadN T_ rfl rfl rfl (by repeat first | exact mH | apply mT | apply mA) rfl rfl ?_
   exact xoF
  apply DrawOps.cons
  ·intro τ
   refine xo_callB (fs := []) (cs := []) rfl rfl rfl number_enters rfl (fun w1 hw1 => number_calls y w1) ?_
   exact xoF
  apply DrawOps.cons
  ·intro τ
   refine xo_sub rfl rfl rfl (by omega) rfl ?_
   exact xoF
  apply DrawOps.cons
  ·intro τ
   refine xoA ?_
   exact xoF
  exact DrawOps.nil
 ·rfl
 with_reducible ((repeat first | apply xqT | apply xqB | apply xqS); (repeat apply xc_seq); apply xc_ret; (repeat (first | apply xq_thenR | apply xq_blockR | apply xq_scopeR)))
 exact xq_ret1 rfl rfl fun w' hw => ⟨rfl, hw.sub (List.nil_sublist _)⟩
theorem diff_enters : ∀ args w, (callFunc 79 args).run Tryd.prog w = .ok (.enter 79 args) w := enters_of Tryd.func79 (by kernel_rfl) rfl
theorem cmpL_step (xs ys : List MarT) (k : Nat) (h1 : k < xs.length) (h2 : k < ys.length) : cmpL (xs.drop k) (ys.drop k) = if (xs.getD k zMar).f0 - (ys.getD k zMar).f0 = 0 then cmpL (xs.drop (k + 1)) (ys.drop (k + 1)) else (xs.getD k zMar).f0 - (ys.getD k zMar).f0 := by
 rw [drop_at xs zMar k h1, drop_at ys zMar k h2, cmpL]
theorem cmpL_end1 {xs ys : List MarT} {k : Nat} (h1 : k < xs.length) (h2 : ¬ k < ys.length) : cmpL (xs.drop k) (ys.drop k) = 1 := by
 rw [drop_at xs zMar k h1, List.drop_of_length_le (l := ys) (by omega)]
 rfl
theorem cmpL_end {xs ys : List MarT} {k : Nat} (h1 : k = xs.length) (h3 : k ≤ ys.length) : cmpL (xs.drop k) (ys.drop k) = if xs.length < ys.length then -1 else 0 := by
 rw [List.drop_of_length_le (l := xs) (by omega)]
 split
 ·rw [drop_at ys zMar k (by omega)]; rfl
 ·rw [List.drop_of_length_le (l := ys) (by omega)]; rfl
set_option maxHeartbeats 4000000 in
theorem cmpr_calls (A1 A2 : Option Addr) (c1 c2 : Nat) (xs ys : List MarT) (B : Nat) (w : World) (hx : IdsOK xs) (hy : IdsOK ys) (r1 : RowOf marV 7 zMar w A1 xs) (r2 : RowOf marV 7 zMar w A2 ys) (hB : RO w XNone ⟨B, 0, none⟩ [.func (.func 75) #[] #[]]) :
  Calls Tryd.prog 78 #[.slice A1 xs.length c1, .slice A2 ys.length c2, .func (.func 79) #[] #[.pointer (some ⟨B, 0, none⟩)]] w fun e w' => e = .returned (.int .i64 (cmpL xs ys)) ∧ WOK w XNone [] w' := by
 obtain ⟨lx, ix⟩ := hx
 obtain ⟨ly, iy⟩ := hy
 refine x_calls (X := XNone) Tryd.func78 rfl rfl rfl ?_
 with_reducible ((repeat apply xc_seq); apply xcR)
 refine xoA ?_
 with_reducible (apply xo_nil; (repeat first | apply xqT | apply xqB | apply xqS); (repeat apply xc_seq); apply xcR)
 refine xoM ?_
 refine xo_len T_ rfl rfl rfl rfl ?_
 refine xoM ?_
 with_reducible (apply xo_nil; (repeat first | apply xqT | apply xqB | apply xqS); (repeat apply xc_seq); apply xc_block)
 refine xc_loop (γ := Nat) (fun k => k ≤ xs.length ∧ k ≤ ys.length ∧ cmpL xs ys = cmpL (xs.drop k) (ys.drop k)) (fun k => [(0, .slice A1 xs.length c1), (1, .slice A2 ys.length c2), (2, .func (.func 79) #[] #[.pointer (some ⟨B, 0, none⟩)]), (11, .slice A1 xs.length c1), (12, .int .i64 (xs.length : Int)), (13, .int .i64 (k : Int))]) (fun _ => []) (fun k => xs.length - k) 0
  ⟨Nat.zero_le _, Nat.zero_le _, rfl⟩ ⟨rfl, rfl, rfl, rfl, rfl, rfl, trivial⟩ (List.nil_sublist _) ?_
 rintro k ⟨hk, hk2, hc⟩
 with_reducible ((repeat apply xc_seq); apply xcR)
 refine xo_lss rfl rfl rfl rfl ?_
 with_reducible (apply xo_nil; (repeat first | apply xqT | apply xqB | apply xqS); (repeat apply xc_seq))
 refine xc_cond rfl (fun h => ?_) (fun h => ?_)
 ·have hlt : k < xs.length := by have := of_decide_eq_true h; omega
  obtain ⟨ad1, rfl, q1⟩ := r1 k hlt
  have q1 := ro_q q1
  have i1 := ix _ (getD_mem xs zMar k hlt)
  with_reducible (apply xc_skip; (repeat first | apply xqT | apply xqB | apply xqS); (repeat apply xc_seq); apply xc_block; (repeat apply xc_seq); apply xcR)
  refine xoM ?_
  refine xo_ia T_ rfl rfl rfl rfl rfl ⟨by omega, by omega⟩ rfl ?_
  refine xo_loadRN T_ rfl rfl rfl q1 rfl rfl ?_
  refine xo_alloc T_ rfl rfl rfl rfl (fun b8 => ?_)
  refine xoA ?_
  refine xo_store T_ rfl rfl rfl rfl (by repeat first | exact mH | apply mT | apply mA) rfl rfl rfl rfl (by repeat first | exact Upd.head | apply Upd.tail | apply Upd.app) rfl ?_
  with_reducible (apply xo_nil; (repeat first | apply xqT | apply xqB | apply xqS); (repeat apply xc_seq); apply xcR)
  refine xoM ?_
  refine xoM ?_
  refine xo_len T_ rfl rfl rfl rfl ?_
  refine xo_geq rfl rfl rfl rfl ?_
  with_reducible (apply xo_nil; (repeat first | apply xqT | apply xqB | apply xqS); (repeat apply xc_seq))
  refine xc_cond rfl (fun h2 => ?_) (fun h2 => ?_)
  ·have hge : ¬ k < ys.length := by have := of_decide_eq_true h2; omega
   with_reducible ((repeat apply xc_seq); apply xcR)
   refine xoA ?_
   with_reducible (apply xo_nil; (repeat first | apply xqT | apply xqB | apply xqS); (repeat apply xc_seq); apply xc_ret; (repeat (first | apply xq_thenR | apply xq_blockR | apply xq_scopeR)))
   exact xq_ret1 rfl rfl fun w' hw => ⟨by rw [hc, cmpL_end1 hlt hge], hw.sub (List.nil_sublist _)⟩
  have hlt2 : k < ys.length := by have := of_decide_eq_false h2; omega
  obtain ⟨ad2, rfl, q2⟩ := r2 k hlt2
  have q2 := ro_q q2
  have i2 := iy _ (getD_mem ys zMar k hlt2)
  rw [cmpL_step xs ys k hlt hlt2] at hc
  generalize xs.getD k zMar = x at q1 i1 hc
  generalize ys.getD k zMar = y at q2 i2 hc
  with_reducible (apply xc_skip; (repeat first | apply xqT | apply xqB | apply xqS); (repeat apply xc_seq); apply xcR)
  refine xoM ?_
  refine xoM ?_
  refine xo_ia T_ rfl rfl rfl rfl rfl ⟨by omega, by omega⟩ rfl ?_
  refine xo_loadRN T_ rfl rfl rfl q2 rfl rfl ?_
  refine xo_alloc T_ rfl rfl rfl rfl (fun b9 => ?_)
  refine xo_store T_ rfl rfl rfl rfl (by repeat first | exact mH | apply mT | apply mA) rfl rfl rfl rfl (by repeat first | exact Upd.head | apply Upd.tail | apply Upd.app) rfl ?_
  with_reducible (apply xo_nil; (repeat first | apply xqT | apply xqB | apply xqS); (repeat apply xc_seq); apply xcR)
  refine xoM ?_
  refine xo_loadN T_ rfl rfl rfl (by repeat first | exact mH | apply mT | apply mA) rfl rfl ?_
  refine xo_loadN T_ rfl rfl rfl (by repeat first | exact mH | apply mT | apply mA) rfl rfl ?_
  refine xo_callB (fs := []) rfl rfl rfl diff_enters rfl (fun w1 hw1 => diff_calls x y B w1 i1 i2 (hB.below hw1.kx.below)) ?_
  refine xoA ?_
  with_reducible (apply xo_nil; (repeat first | apply xqT | apply xqB | apply xqS); (repeat apply xc_seq); apply xcR)
  refine xoM ?_
  refine xo_neq rfl rfl rfl rfl ?_
  with_reducible (apply xo_nil; (repeat first | apply xqT | apply xqB | apply xqS))
  cases hd : decide (x.f0 - y.f0 = 0)
  ·refine xc_slots [(10, .int .i64 (x.f0 - y.f0)), (31, .bool true)] ⟨rfl, by first | rfl | (rw [hd]; rfl), trivial⟩ ?_
   with_reducible (repeat apply xc_seq)
   refine xc_condT rfl ?_
   with_reducible ((repeat apply xc_seq); apply xcR)
   refine xoM ?_
   refine xoA ?_
   with_reducible (apply xo_nil; (repeat first | apply xqT | apply xqB | apply xqS); (repeat apply xc_seq); apply xc_ret; (repeat (first | apply xq_thenR | apply xq_blockR | apply xq_scopeR)))
   exact xq_ret1 rfl rfl fun w' hw => ⟨by rw [hc, if_neg (of_decide_eq_false hd)], hw.sub (List.nil_sublist _)⟩
  ·refine xc_slots [(0, .slice (some ad1) xs.length c1), (1, .slice (some ad2) ys.length c2), (2, .func (.func 79) #[] #[.pointer (some ⟨B, 0, none⟩)]), (11, .slice (some ad1) xs.length c1), (12, .int .i64 (xs.length : Int)), (13, .int .i64 (k : Int)), (31, .bool false)] ⟨rfl, rfl, rfl, rfl, rfl, rfl, by first | rfl | (rw [hd]; rfl), trivial⟩ ?_
   with_reducible (repeat apply xc_seq)
   refine xc_condF rfl ?_
   with_reducible (apply xc_skip; (repeat first | apply xqT | apply xqB | apply xqS); (repeat apply xc_seq); apply xcR)
   refine xo_add rfl rfl rfl (by omega) rfl ?_
   refine xoM ?_
   with_reducible (apply xo_nil; (repeat first | apply xqT | apply xqB | apply xqS))
   exact xq_again _ _ _ _ _ (k + 1) ⟨hlt, hlt2, by rw [hc, if_pos (of_decide_eq_true hd)]⟩ (by omega) ⟨rfl, rfl, rfl, rfl, rfl, rfl, trivial⟩ (List.nil_sublist _)
 have hge : k = xs.length := by have := of_decide_eq_false h; omega
 rw [cmpL_end hge hk2] at hc
 with_reducible (apply xc_exit; (repeat (first | apply xq_blockX | apply xq_thenE | refine xq_blockE rfl ?_ | apply xq_scopeE)); (repeat first | apply xqT | apply xqB | apply xqS); (repeat apply xc_seq); apply xcR)
 refine xoM ?_
 refine xo_len T_ rfl rfl rfl rfl ?_
 refine xoM ?_
 refine xo_len T_ rfl rfl rfl rfl ?_
 refine xo_lss rfl rfl rfl rfl ?_
 with_reducible (apply xo_nil; (repeat first | apply xqT | apply xqB | apply xqS); (repeat apply xc_seq))
 refine xc_cond rfl (fun h2 => ?_) (fun h2 => ?_)
 ·have h3 : xs.length < ys.length := by have := of_decide_eq_true h2; omega
  with_reducible ((repeat apply xc_seq); apply xcR)
  refine xoA ?_
  with_reducible (apply xo_nil; (repeat first | apply xqT | apply xqB | apply xqS); (repeat apply xc_seq); apply xc_ret; (repeat (first | apply xq_thenR | apply xq_blockR | apply xq_scopeR)))
  exact xq_ret1 rfl rfl fun w' hw => ⟨by rw [hc, if_pos h3], hw.sub (List.nil_sublist _)⟩
 ·have h3 : ¬ xs.length < ys.length := by have := of_decide_eq_false h2; omega
  with_reducible (apply xc_skip; (repeat first | apply xqT | apply xqB | apply xqS); (repeat apply xc_seq); apply xcR)
  refine xoA ?_
  with_reducible (apply xo_nil; (repeat first | apply xqT | apply xqB | apply xqS); (repeat apply xc_seq); apply xc_ret; (repeat (first | apply xq_thenR | apply xq_blockR | apply xq_scopeR)))
  exact xq_ret1 rfl rfl fun w' hw => ⟨by rw [hc, if_neg h3], hw.sub (List.nil_sublist _)⟩
theorem cmpr_enters : ∀ args w, (callFunc 78 args).run Tryd.prog w = .ok (.enter 78 args) w := enters_of Tryd.func78 (by kernel_rfl) rfl
theorem fewer_calls (A1 A2 : Option Addr) (c1 c2 : Nat) (xs ys : List MarT) (B : Nat) (w : World) (hx : IdsOK xs) (hy : IdsOK ys) (r1 : RowOf marV 7 zMar w A1 xs) (r2 : RowOf marV 7 zMar w A2 ys) (hB : RO w XNone ⟨B, 0, none⟩ [.func (.func 75) #[] #[]]) :
  Calls Tryd.prog 77 #[.slice A1 xs.length c1, .slice A2 ys.length c2, .pointer (some ⟨B, 0, none⟩)] w fun e w' => e = .returned (.int .i64 (cmpS xs ys)) ∧ ∃ q os, w' = Go.Sort.grow (w.drewN q) os := by
 have lx := hx.1
 have ly := hy.1
 refine x_calls (X := XNone) Tryd.func77 rfl rfl rfl ?_
 with_reducible ((repeat apply xc_seq); apply xcR)
 refine xoA ?_
 with_reducible (apply xo_nil; (repeat first | apply xqT | apply xqB | apply xqS); (repeat apply xc_seq); apply xcR)
 refine xoM ?_
 refine xo_len T_ rfl rfl rfl rfl ?_
 refine xoM ?_
 refine xo_len T_ rfl rfl rfl rfl ?_
 refine xo_neq rfl rfl rfl rfl ?_
 with_reducible (apply xo_nil; (repeat first | apply xqT | apply xqB | apply xqS))
 unfold cmpS
 cases hd : decide ((xs.length : Int) = ys.length)
 ·refine xc_slots [(0, .slice A1 xs.length c1), (1, .slice A2 ys.length c2), (10, .bool true)] ⟨rfl, rfl, by first | rfl | (rw [hd]; rfl), trivial⟩ ?_
  with_reducible (repeat apply xc_seq)
  refine xc_condT rfl ?_
  with_reducible ((repeat apply xc_seq); apply xcR)
  refine xoM ?_
  refine xo_len T_ rfl rfl rfl rfl ?_
  refine xoM ?_
  refine xo_len T_ rfl rfl rfl rfl ?_
  refine xo_sub rfl rfl rfl (by omega) rfl ?_
  refine xoA ?_
  with_reducible (apply xo_nil; (repeat first | apply xqT | apply xqB | apply xqS); (repeat apply xc_seq); apply xc_ret; (repeat (first | apply xq_thenR | apply xq_blockR | apply xq_scopeR)))
  exact xq_ret1 rfl rfl fun w' hw => ⟨by rw [if_neg (of_decide_eq_false hd)], (hw.sub (List.nil_sublist _)).grown⟩
 ·refine xc_slots [(0, .slice A1 xs.length c1), (1, .slice A2 ys.length c2), (2, .pointer (some ⟨B, 0, none⟩)), (10, .bool false)] ⟨rfl, rfl, rfl, by first | rfl | (rw [hd]; rfl), trivial⟩ ?_
  with_reducible (repeat apply xc_seq)
  refine xc_condF rfl ?_
  with_reducible (apply xc_skip; (repeat first | apply xqT | apply xqB | apply xqS); (repeat apply xc_seq); apply xcR)
  refine xoM ?_
  refine xoM ?_
  refine xo_mkf rfl rfl rfl rfl ?_
  refine xo_callB (fs := []) (cs := []) rfl rfl rfl cmpr_enters rfl (fun w1 hw1 => cmpr_calls A1 A2 c1 c2 xs ys B w1 hx hy (r1.below hw1.kx.below) (r2.below hw1.kx.below) (hB.below hw1.kx.below)) ?_
  refine xoA ?_
  with_reducible (apply xo_nil; (repeat first | apply xqT | apply xqB | apply xqS); (repeat apply xc_seq); apply xc_ret; (repeat (first | apply xq_thenR | apply xq_blockR | apply xq_scopeR)))
  exact xq_ret1 rfl rfl fun w' hw => ⟨by rw [if_pos (of_decide_eq_true hd)], (hw.sub (List.nil_sublist _)).grown⟩
theorem fewer_enters : ∀ args w, (callFunc 77 args).run Tryd.prog w = .ok (.enter 77 args) w := enters_of Tryd.func77 (by kernel_rfl) rfl
end Go.Proofs.YtommeljlfkmpjaaDoor.Q
namespace Go.Proofs.YtommeljlfkmpjaaDoor
open Go.Shelf Go.RowKit
set_option maxRecDepth 100000
def renF : Ren := ⟨fun n => bif Nat.beq n 6 then 76 else bif Nat.beq n 14 then 88 else bif Nat.beq n 15 then 83 else bif Nat.beq n 20 then 102 else bif Nat.beq n 21 then 103 else bif Nat.beq n 22 then 104 else bif Nat.beq n 23 then 105 else bif Nat.beq n 24 then 106 else bif Nat.beq n 25 then 107 else bif Nat.beq n 26 then 108 else bif Nat.beq n 27 then 109 else bif Nat.beq n 28 then 99 else bif Nat.beq n 29 then 100 else bif Nat.beq n 46 then 116 else bif Nat.beq n 47 then 111 else bif Nat.beq n 48 then 112 else bif Nat.beq n 49 then 117 else bif Nat.beq n 50 then 118 else bif Nat.beq n 57 then 120 else n, fun n => bif Nat.beq n 0 then 0 else bif Nat.beq n 3 then 3 else bif Nat.beq n 4 then 4 else bif Nat.beq n 5 then 5 else bif Nat.beq n 9 then 9 else bif Nat.beq n 22 then 111 else bif Nat.beq n 24 then 23 else bif Nat.beq n 25 then 117 else bif Nat.beq n 39 then 123 else bif Nat.beq n 45 then 133 else bif Nat.beq n 46 then 134 else bif Nat.beq n 50 then 138 else bif Nat.beq n 53 then 141 else bif Nat.beq n 55 then 143 else bif Nat.beq n 66 then 150 else bif Nat.beq n 70 then 154 else bif Nat.beq n 76 then 158 else bif Nat.beq n 77 then 41 else n, fun n => n⟩
theorem laysF : SlLaysF.n6 Tryd.prog renF where
 mixed := T_.mixed
 f6 := ⟨"slices.SortFunc[[][]cottonpad/api.Mark,[]cottonpad/api.Mark]", by kernel_rfl, by kernel_rfl⟩
 f14 := ⟨"slices.pdqsortCmpFunc[[]cottonpad/api.Mark]", by kernel_rfl, by kernel_rfl⟩
 f15 := by kernel_rfl
 f20 := ⟨"slices.insertionSortCmpFunc[[]cottonpad/api.Mark]", by kernel_rfl, by kernel_rfl⟩
 f21 := ⟨"slices.heapSortCmpFunc[[]cottonpad/api.Mark]", by kernel_rfl, by kernel_rfl⟩
 f22 := ⟨"slices.breakPatternsCmpFunc[[]cottonpad/api.Mark]", by kernel_rfl, by kernel_rfl⟩
 f23 := ⟨"slices.choosePivotCmpFunc[[]cottonpad/api.Mark]", by kernel_rfl, by kernel_rfl⟩
 f24 := ⟨"slices.reverseRangeCmpFunc[[]cottonpad/api.Mark]", by kernel_rfl, by kernel_rfl⟩
 f25 := ⟨"slices.partialInsertionSortCmpFunc[[]cottonpad/api.Mark]", by kernel_rfl, by kernel_rfl⟩
 f26 := ⟨"slices.partitionEqualCmpFunc[[]cottonpad/api.Mark]", by kernel_rfl, by kernel_rfl⟩
 f27 := ⟨"slices.partitionCmpFunc[[]cottonpad/api.Mark]", by kernel_rfl, by kernel_rfl⟩
 f28 := by kernel_rfl
 f29 := by kernel_rfl
 f46 := ⟨"slices.siftDownCmpFunc[[]cottonpad/api.Mark]", by kernel_rfl, by kernel_rfl⟩
 f47 := by kernel_rfl
 f48 := by kernel_rfl
 f49 := ⟨"slices.medianAdjacentCmpFunc[[]cottonpad/api.Mark]", by kernel_rfl, by kernel_rfl⟩
 f50 := ⟨"slices.medianCmpFunc[[]cottonpad/api.Mark]", by kernel_rfl, by kernel_rfl⟩
 f57 := ⟨"slices.order2CmpFunc[[]cottonpad/api.Mark]", by kernel_rfl, by kernel_rfl⟩
 t0 := by kernel_rfl
 a0 := fun w => by kernel_rfl
 z0 := fun w => by kernel_rfl
 v0 := fun w => by kernel_rfl
 t3 := by kernel_rfl
 a3 := fun w => by kernel_rfl
 z3 := fun w => by kernel_rfl
 v3 := fun w => by kernel_rfl
 t4 := by kernel_rfl
 a4 := fun w => by kernel_rfl
 z4 := fun w => by kernel_rfl
 v4 := fun w => by kernel_rfl
 t5 := by kernel_rfl
 a5 := fun w => by kernel_rfl
 z5 := fun w => by kernel_rfl
 v5 := fun w => by kernel_rfl
 t9 := by kernel_rfl
 a9 := fun w => by kernel_rfl
 z9 := fun w => by kernel_rfl
 v9 := fun w => by kernel_rfl
 t22 := by kernel_rfl
 a22 := fun w => by kernel_rfl
 z22 := fun w => by kernel_rfl
 v22 := fun w => by kernel_rfl
 a24 := fun w => by kernel_rfl
 z24 := fun w => by kernel_rfl
 t25 := by kernel_rfl
 a25 := fun w => by kernel_rfl
 z25 := fun w => by kernel_rfl
 v25 := fun w => by kernel_rfl
 t39 := by kernel_rfl
 a39 := fun w => by kernel_rfl
 z39 := fun w => by kernel_rfl
 v39 := fun w => by kernel_rfl
 t45 := by kernel_rfl
 a45 := fun w => by kernel_rfl
 z45 := fun w => by kernel_rfl
 v45 := fun w => by kernel_rfl
 t46 := by kernel_rfl
 a46 := fun w => by kernel_rfl
 z46 := fun w => by kernel_rfl
 v46 := fun w => by kernel_rfl
 t50 := by kernel_rfl
 a50 := fun w => by kernel_rfl
 z50 := fun w => by kernel_rfl
 v50 := fun w => by kernel_rfl
 t53 := by kernel_rfl
 a53 := fun w => by kernel_rfl
 z53 := fun w => by kernel_rfl
 v53 := fun w => by kernel_rfl
 t55 := by kernel_rfl
 a55 := fun w => by kernel_rfl
 z55 := fun w => by kernel_rfl
 v55 := fun w => by kernel_rfl
 t66 := by kernel_rfl
 a66 := fun w => by kernel_rfl
 z66 := fun w => by kernel_rfl
 v66 := fun w => by kernel_rfl
 t70 := by kernel_rfl
 a70 := fun w => by kernel_rfl
 z70 := fun w => by kernel_rfl
 v70 := fun w => by kernel_rfl
 t76 := by kernel_rfl
 a76 := fun w => by kernel_rfl
 z76 := fun w => by kernel_rfl
 v76 := fun w => by kernel_rfl
 t77 := by kernel_rfl
 a77 := fun w => by kernel_rfl
 z77 := fun w => by kernel_rfl
 v77 := fun w => by kernel_rfl
end Go.Proofs.YtommeljlfkmpjaaDoor
namespace Go.Proofs.YtommeljlfkmpjaaDoor
open Go.RowKit Go.Proofs.YtommeljlfkmpjaaDoorW.PrintWords
structure SiteOK (w : World) (bs : Nat) (R : Nat) (E : Int) (gs : List GatT) (B : Option Addr) (nm c2 : Nat) : Prop where
 R6 : 1 ≤ R ∧ R ≤ 6
 E6 : 0 ≤ E ∧ E ≤ 600
 G : GatesR R gs
 glob : GlobO w
 at_ : ∃ fb fc wv A c, SiteR w bs fb fc (scnV R A gs.length c E B nm c2) wv R gs
theorem SiteOK.below {w w' : World} {bs R : Nat} {E : Int} {gs : List GatT} {B : Option Addr} {nm c2 : Nat} (h : SiteOK w bs R E gs B nm c2) (hb : Below w.heap.size w w') : SiteOK w' bs R E gs B nm c2 := by
 obtain ⟨fb, fc, wv, A, c, h1⟩ := h.at_
 exact ⟨h.R6, h.E6, h.G, h.glob.below hb, fb, fc, wv, A, c, h1.below hb⟩
theorem allD_pos {R : Nat} {gs : List GatT} (hG : GatesR R gs) : 0 < (allD gs).length := by
 have := allD_ne fun g hg => (hG.ok g hg).2.2.2.2.1
 exact List.length_pos_iff.2 this
theorem SiteR.lts {w : World} {bs fb fc : Nat} {sv : List Value} {wv : Value} {R : Nat} {gs : List GatT} (h : SiteR w bs fb fc sv wv R gs) (hG : GatesR R gs) : bs < w.heap.size ∧ fb < w.heap.size := by
 refine ⟨?_, ?_⟩
 ·have h1 := h.site
  have h2 : ∃ v, (siteV sv (.slice (some ⟨fb, 0, none⟩) (allD gs).length fc) wv)[0]? = some v := by
   cases sv with
   | nil => exact ⟨_, rfl⟩
   | cons v sv => exact ⟨_, rfl⟩
  obtain ⟨v, h2⟩ := h2
  have := World.block_lt_of_cell? w _ (h1 0 v h2).1
  rwa [add_blk] at this
 ·have := World.block_lt_of_cell? w _ (h.fars 0 (allD_pos hG) 0 _ rfl).1
  rwa [add_blk, add_blk] at this
theorem RowOf.lt {α : Type} {V : α → List Value} {sz : Nat} {z : α} {w : World} {A : Option Addr} {xs : List α} (h : RowOf V sz z w A xs) (hV : ∀ x, ∃ v, (V x)[0]? = some v) : 0 < xs.length → ∀ ad, A = some ad → ad.block < w.heap.size := fun h0 ad e => by
 obtain ⟨ad', e', hR⟩ := h 0 h0
 rw [e] at e'
 cases e'
 obtain ⟨v, hv⟩ := hV (xs.getD 0 z)
 have := World.block_lt_of_cell? w _ (hR 0 _ hv).1
 rwa [add_blk, add_blk] at this
theorem marV_0 (x : MarT) : ∃ v, (marV x)[0]? = some v := ⟨_, rfl⟩
def canF (E : Int) (R : Nat) (gs : List GatT) (room : Nat) (ms : List MarT) : Bool := !(beganL E R gs room ms).isEmpty
theorem began_calls (pv mv : Value) (room : Int) (w : World) (hp : pv.cells = #[pv]) (hm : mv.cells = #[mv]) : Calls Tryd.prog 28 #[pv, .int .i64 room, mv] w fun e w' => ∃ b1 b2 b3, e = .returned (.func (.func 51) #[] #[.pointer (some ⟨b1, 0, none⟩), .pointer (some ⟨b2, 0, none⟩), .pointer (some ⟨b3, 0, none⟩)]) ∧
  WOK w XNone [(b2, true, cel [mv] 23), (b3, true, cel [.int .i64 room] 3), (b1, true, cel [pv] 62)] w' := by
 refine x_calls (X := XNone) Tryd.func28 rfl rfl rfl ?_
 with_reducible ((repeat apply xc_seq); apply xcR)
 refine xo_box (cs := [pv]) rfl rfl (by rw [hp]) rfl (fun b3 => ?_)
 refine xo_box rfl rfl rfl rfl (fun b4 => ?_)
 refine xo_box (cs := [mv]) rfl rfl (by rw [hm]) rfl (fun b5 => ?_)
 refine xoA ?_
 with_reducible (apply xo_nil; (repeat first | apply xqT | apply xqB | apply xqS); (repeat apply xc_seq); apply xcR)
 refine xo_mkf rfl rfl rfl rfl ?_
 refine xoA ?_
 with_reducible (apply xo_nil; (repeat first | apply xqT | apply xqB | apply xqS); (repeat apply xc_seq); apply xc_ret; (repeat (first | apply xq_thenR | apply xq_blockR | apply xq_scopeR)))
 exact xq_ret1 rfl rfl fun w' hw => ⟨b3, b5, b4, rfl, hw⟩
theorem began_enters : ∀ args w, (callFunc 28 args).run Tryd.prog w = .ok (.enter 28 args) w := enters_of Tryd.func28 (by kernel_rfl) rfl
theorem xq_retC0 {P : Program} {N : Nat} {w0 : World} {X : Nat → Prop} {fn : Func} {R : Ending → World → Prop} {σ : Slots} {η : Hp} (T : Tys P) {t : Tmp} {ts : TypeId} {b : Nat} {wr : Bool} {v : Value} {te : TypeId} (hf : fn.results = #[.cell t ts]) (hv : slot t σ = some (.pointer (some ⟨b, 0, none⟩)))
  (ht : look ts T.tk = some 0) (hm : (b, wr, cel [v] te) ∈ η) (h : ∀ w, WOK w0 X η w → R (.returned v) w) : XQ N [] w0 X (bodyPost P fn R) .ret σ η :=
 fun a w ha hw => ⟨ha.df, v, by
  have h1 := (T.htk _ (look_mem ht)).1 w
  have h2 := hw.cell hm 0 rfl
  have : (loadVar ts ⟨b, 0, none⟩).run P w = .ok v w := by simp [loadVar, h1, h2]
  simp [results, hf, ha.sl _ _ hv, asAddr, this], h w hw⟩
set_option maxHeartbeats 8000000 in
theorem can_calls (bs R : Nat) (E : Int) (gs : List GatT) (B Bm : Option Addr) (nm c2 cm : Nat) (ms : List MarT) (room : Nat) (w : World) (hs : SiteOK w bs R E gs B nm c2) (hM : RowOf marV 7 zMar w Bm ms) (hm8 : ms.length ≤ 8) (hmk : ∀ m ∈ ms, MarkOK m) (hroom : room < 6) :
  Calls Tryd.prog 47 #[.pointer (some ⟨bs, 0, none⟩), .int .i64 (room : Int), .slice Bm ms.length cm] w fun e w' => e = .returned (.bool (canF E R gs room ms)) ∧ Below w.heap.size w w' := by
 obtain ⟨hR6, hE6, hG, hglob, fb, fc, wv, A, c, hS⟩ := hs
 refine x_callsM (vs := [.pointer (some ⟨bs, 0, none⟩), .int .i64 (room : Int), .slice Bm ms.length cm]) 1000 Tryd.func47 rfl rfl rfl (WOK.start XNone w) ?_
 with_reducible ((repeat apply xc_seq); apply xcR)
 refine xo_alloc T_ rfl rfl rfl rfl (fun b6 => ?_)
 with_reducible (apply xo_nil; (repeat first | apply xqT | apply xqB | apply xqS); (repeat apply xc_seq); apply xcR)
 refine xoM ?_
 refine xoM ?_
 refine xoM ?_
 refine xo_call (fs := []) (cs := []) rfl rfl rfl began_enters rfl (fun w1 hw1 => (began_calls (.pointer (some ⟨bs, 0, none⟩)) (.slice Bm ms.length cm) room w1 rfl rfl).mono ?_)
 rintro e w2 ⟨b1, b2, b3, rfl, hz⟩
 refine ⟨_, _, rfl, hw1.join hz (fun e he => by simp only [List.mem_cons, List.not_mem_nil, or_false] at he; rcases he with rfl | rfl | rfl <;> rfl), ?_⟩
 clear hz hw1
 with_reducible (apply xo_nil; (repeat first | apply xqT | apply xqB | apply xqS))
 refine xc_know (φ := w.heap.size ≤ b6 ∧ b6 ≠ b1 ∧ b6 ≠ b2 ∧ b6 ≠ b3) (fun w1 hw1 => ?_) fun hne => ?_
 ·have h1 := hw1.nd
  have h2 := hw1.ow (b6, true, cel [.bool false] 4) (by repeat (first | exact List.Mem.head _ | apply List.Mem.tail)) rfl
  simp only [List.cons_append, List.nil_append, List.map_cons, List.map_nil, List.nodup_cons, List.mem_cons, List.not_mem_nil, or_false, not_or] at h1
  refine ⟨h2.resolve_right fun q => q, fun q => h1.2.2.1 q.symm, fun q => h1.1.2.2 q.symm, fun q => h1.2.1.2 q.symm⟩
 obtain ⟨hne0, hne1, hne2, hne3⟩ := hne
 with_reducible ((repeat apply xc_seq); apply xc_block)
 have hlts := hS.lts hG
 have hglt := hglob.lt
 have hMl := hM.lt marV_0
 refine xc_rangeO (α := Nat × SpaT) (β := Unit) (γ := Unit) (enc := encG) (HA := fun _ => []) (T := fun pre x => ∃ rest, beganL E R gs room ms = pre ++ x :: rest) (S := fun xs => xs = beganL E R gs room ms) rfl began1_enters rfl (fun x => rfl)
  (fun k => k < w.heap.size ∨ k = b1 ∨ k = b2 ∨ k = b3) (fun w1 hw1 k hk => ?_) (fun w1 hw1 => ?_)
  (fun pre _ => pre = []) (fun _ _ => [(b6, true, cel [.bool false] 4)]) () rfl ?_ (fun pre g hC e he => ?_) (fun pre g hC e he hwr hk => ?_) (fun c _ _ => c = .ret ∧ canF E R gs room ms = true) (fun _ _ _ => [(b6, true, cel [.bool true] 4)]) (fun _ _ _ _ e he => ?_)
  (fun x _ => [(6, .pointer (some ⟨b6, 0, none⟩))]) (fun _ _ => []) (fun x y e he => by cases he) (fun l x V0 => ?_) (fun l pre x y g W hC hT hw0 => ?_) (fun D xs g hS2 hC => ?_) (fun D c p g hCx => ?_)
 ·rcases hk with hk | rfl | rfl | rfl
  ·exact Nat.lt_of_lt_of_le hk hw1.kx.size
  ·exact hw1.lt (e := (k, true, cel [.pointer (some ⟨bs, 0, none⟩)] 62)) (by repeat (first | exact List.Mem.head _ | apply List.Mem.tail))
  ·exact hw1.lt (e := (k, true, cel [.slice Bm ms.length cm] 23)) (by repeat (first | exact List.Mem.head _ | apply List.Mem.tail))
  ·exact hw1.lt (e := (k, true, cel [.int .i64 (room : Int)] 3)) (by repeat (first | exact List.Mem.head _ | apply List.Mem.tail))
 ·have hb := hw1.kx.below
  refine began_seq _ R E A B Bm c nm c2 cm gs ms room b1 b2 b3 bs fb fc wv _ w1 hR6 hE6 hG hm8 hmk hroom (hw1.ro (wr := true) (t := 62) (by repeat (first | exact List.Mem.head _ | apply List.Mem.tail))) (hw1.ro (wr := true) (t := 23) (by repeat (first | exact List.Mem.head _ | apply List.Mem.tail))) (hw1.ro (wr := true) (t := 3) (by repeat (first | exact List.Mem.head _ | apply List.Mem.tail))) (hS.below hb) (hM.below hb) (hglob.below hb)
   ?_ (.inr (.inl rfl)) (.inr (.inr (.inl rfl))) (.inr (.inr (.inr rfl))) (.inl hlts.1) (.inl hlts.2) (.inl hglt) (fun h0 ad e => .inl (hMl h0 ad e))
  intro k hk
  rcases hk with hk | rfl | rfl | rfl
  ·exact Nat.lt_of_lt_of_le hk hw1.kx.size
  ·exact hw1.lt (e := (k, true, cel [.pointer (some ⟨bs, 0, none⟩)] 62)) (by repeat (first | exact List.Mem.head _ | apply List.Mem.tail))
  ·exact hw1.lt (e := (k, true, cel [.slice Bm ms.length cm] 23)) (by repeat (first | exact List.Mem.head _ | apply List.Mem.tail))
  ·exact hw1.lt (e := (k, true, cel [.int .i64 (room : Int)] 3)) (by repeat (first | exact List.Mem.head _ | apply List.Mem.tail))
 ·exact (by repeat (first | exact List.Sublist.refl _ | apply List.Sublist.cons_cons | apply List.Sublist.cons | exact List.nil_sublist _))
 ·rw [List.mem_singleton.1 he]
  exact .inl ⟨rfl, fun o ho => by rw [show o = _ from ho]; rfl⟩
 ·rw [List.mem_singleton.1 he] at hk
  simp only at hk
  rcases hk with hk | hk | hk | hk
  ·omega
  ·exact hne1 hk
  ·exact hne2 hk
  ·exact hne3 hk
 ·rw [List.mem_singleton.1 he]
  exact .inl ⟨rfl, fun o ho => by rw [show o = _ from ho]; rfl⟩
 ·with_reducible apply xc_skip
  exact fun a w1 ha hw1 => ⟨(), ha.sub ⟨rfl, trivial⟩, hw1⟩
 ·with_reducible repeat apply xc_seq
  with_reducible (apply xc_block; (repeat apply xc_seq); apply xcR)
  refine xo_store T_ rfl rfl rfl rfl (by repeat first | exact mH | apply mT | apply mA) rfl rfl rfl rfl (by repeat first | exact Upd.head | apply Upd.tail | apply Upd.app) rfl ?_
  with_reducible (apply xo_nil; (repeat first | apply xqT | apply xqB | apply xqS); apply xc_ret; (repeat (first | apply xq_thenR | apply xq_blockR | apply xq_scopeR)))
  intro a w1 ha hw1
  obtain ⟨rest, h⟩ := hT
  refine ⟨(), ⟨rfl, ?_⟩, hw1⟩
  unfold canF
  rw [h, hC]
  rfl
 ·subst hC
  with_reducible ((repeat first | apply xqT | apply xqB | apply xqS); (repeat apply xc_seq); apply xcR)
  refine xo_store T_ rfl rfl rfl rfl (by repeat first | exact mH | apply mT | apply mA) rfl rfl rfl rfl (by repeat first | exact Upd.head | apply Upd.tail | apply Upd.app) rfl ?_
  with_reducible (apply xo_nil; (repeat first | apply xqT | apply xqB | apply xqS); (repeat apply xc_seq); apply xc_ret; (repeat (first | apply xq_thenR | apply xq_blockR | apply xq_scopeR)))
  refine xq_ofM [D] (xq_retC0 T_ rfl rfl rfl (List.Mem.head _) fun w2 hw2 => ⟨?_, hw2.kx.below⟩)
  unfold canF
  rw [← hS2]
  rfl
 ·obtain ⟨rfl, hc⟩ := hCx
  rw [hc]
  with_reducible (apply xc_ret; (repeat (first | apply xq_thenR | apply xq_blockR | apply xq_scopeR)))
  exact xq_ofM [D] (xq_retC0 T_ rfl rfl rfl (List.Mem.head _) fun w2 hw2 => ⟨rfl, hw2.kx.below⟩)
theorem can_enters : ∀ args w, (callFunc 47 args).run Tryd.prog w = .ok (.enter 47 args) w := enters_of Tryd.func47 (by kernel_rfl) rfl
end Go.Proofs.YtommeljlfkmpjaaDoor
namespace Go.Proofs.YtommeljlfkmpjaaDoor
open Go.Shelf Go.RowKit
set_option maxRecDepth 100000
def ren189 : Ren := ⟨fun n => bif Nat.beq n 125 then 83 else bif Nat.beq n 128 then 99 else bif Nat.beq n 129 then 100 else bif Nat.beq n 189 then 54 else bif Nat.beq n 215 then 115 else bif Nat.beq n 216 then 96 else bif Nat.beq n 257 then 82 else bif Nat.beq n 294 then 90 else bif Nat.beq n 295 then 91 else bif Nat.beq n 296 then 92 else bif Nat.beq n 297 then 93 else bif Nat.beq n 298 then 94 else bif Nat.beq n 299 then 95 else bif Nat.beq n 300 then 97 else bif Nat.beq n 301 then 98 else bif Nat.beq n 328 then 110 else bif Nat.beq n 329 then 111 else bif Nat.beq n 330 then 112 else bif Nat.beq n 331 then 113 else bif Nat.beq n 332 then 114 else bif Nat.beq n 343 then 119 else n, fun n => bif Nat.beq n 0 then 0 else bif Nat.beq n 3 then 3 else bif Nat.beq n 4 then 4 else bif Nat.beq n 5 then 5 else bif Nat.beq n 9 then 9 else bif Nat.beq n 28 then 34 else bif Nat.beq n 46 then 123 else bif Nat.beq n 51 then 141 else bif Nat.beq n 53 then 143 else bif Nat.beq n 131 then 138 else bif Nat.beq n 182 then 133 else bif Nat.beq n 183 then 134 else bif Nat.beq n 218 then 150 else bif Nat.beq n 222 then 154 else bif Nat.beq n 228 then 158 else bif Nat.beq n 229 then 41 else n, fun n => n⟩
theorem lays189 : Lays.n189 Tryd.prog ren189 where
 mixed := T_.mixed
 f125 := by kernel_rfl
 f128 := by kernel_rfl
 f129 := by kernel_rfl
 f189 := by kernel_rfl
 f215 := by kernel_rfl
 f216 := by kernel_rfl
 f257 := by kernel_rfl
 f294 := by kernel_rfl
 f295 := by kernel_rfl
 f296 := by kernel_rfl
 f297 := by kernel_rfl
 f298 := by kernel_rfl
 f299 := by kernel_rfl
 f300 := by kernel_rfl
 f301 := by kernel_rfl
 f328 := by kernel_rfl
 f329 := by kernel_rfl
 f330 := by kernel_rfl
 f331 := by kernel_rfl
 f332 := by kernel_rfl
 f343 := by kernel_rfl
 t0 := by kernel_rfl
 a0 := fun w => by kernel_rfl
 z0 := fun w => by kernel_rfl
 v0 := fun w => by kernel_rfl
 t3 := by kernel_rfl
 a3 := fun w => by kernel_rfl
 z3 := fun w => by kernel_rfl
 v3 := fun w => by kernel_rfl
 t4 := by kernel_rfl
 a4 := fun w => by kernel_rfl
 z4 := fun w => by kernel_rfl
 v4 := fun w => by kernel_rfl
 t5 := by kernel_rfl
 a5 := fun w => by kernel_rfl
 z5 := fun w => by kernel_rfl
 v5 := fun w => by kernel_rfl
 t9 := by kernel_rfl
 a9 := fun w => by kernel_rfl
 z9 := fun w => by kernel_rfl
 v9 := fun w => by kernel_rfl
 t28 := by kernel_rfl
 a28 := fun w => by kernel_rfl
 z28 := fun w => by kernel_rfl
 v28 := fun w => by kernel_rfl
 t46 := by kernel_rfl
 a46 := fun w => by kernel_rfl
 z46 := fun w => by kernel_rfl
 v46 := fun w => by kernel_rfl
 t51 := by kernel_rfl
 a51 := fun w => by kernel_rfl
 z51 := fun w => by kernel_rfl
 v51 := fun w => by kernel_rfl
 t53 := by kernel_rfl
 a53 := fun w => by kernel_rfl
 z53 := fun w => by kernel_rfl
 v53 := fun w => by kernel_rfl
 t131 := by kernel_rfl
 a131 := fun w => by kernel_rfl
 z131 := fun w => by kernel_rfl
 v131 := fun w => by kernel_rfl
 t182 := by kernel_rfl
 a182 := fun w => by kernel_rfl
 z182 := fun w => by kernel_rfl
 v182 := fun w => by kernel_rfl
 t183 := by kernel_rfl
 a183 := fun w => by kernel_rfl
 z183 := fun w => by kernel_rfl
 v183 := fun w => by kernel_rfl
 t218 := by kernel_rfl
 a218 := fun w => by kernel_rfl
 z218 := fun w => by kernel_rfl
 v218 := fun w => by kernel_rfl
 t222 := by kernel_rfl
 a222 := fun w => by kernel_rfl
 z222 := fun w => by kernel_rfl
 v222 := fun w => by kernel_rfl
 t228 := by kernel_rfl
 a228 := fun w => by kernel_rfl
 z228 := fun w => by kernel_rfl
 v228 := fun w => by kernel_rfl
 t229 := by kernel_rfl
 a229 := fun w => by kernel_rfl
 z229 := fun w => by kernel_rfl
 v229 := fun w => by kernel_rfl
end Go.Proofs.YtommeljlfkmpjaaDoor
namespace Go.Proofs.YtommeljlfkmpjaaDoor
open Go.RowKit
end Go.Proofs.YtommeljlfkmpjaaDoor
namespace Go.Proofs.YtommeljlfkmpjaaDoor
open Go.RowKit
set_option maxHeartbeats 4000000 in
theorem appendSeqS_calls (g : Nat) (cs : List Value) (eg : ∀ args w, (callFunc g args).run Tryd.prog w = .ok (.enter g args) w) (need : Nat → Prop) (S : List Int → Prop) (M : Nat) (w : World) (hit : IterS Tryd.prog g cs w need S M) (hneed : ∀ k, need k → k < w.heap.size) (hlen : M ≤ 1000000) :
  Calls Tryd.prog 81 #[.slice none 0 0, .func (.func g) #[] cs.toArray] w fun e w' => ∃ (xs : List Int) (r : RowR), S xs ∧ e = .returned (valR r xs.length) ∧ RowAt 3 w.heap.size w' r xs ∧ Below w.heap.size w w' := by
 refine x_callsM 3 Tryd.func81 rfl rfl rfl (WOK.start XNone w) ?_
 with_reducible ((repeat apply xc_seq); apply xcR)
 refine xo_box rfl rfl rfl rfl (fun b2 => ?_)
 refine xoA ?_
 with_reducible (apply xo_nil; (repeat first | apply xqT | apply xqB | apply xqS); (repeat apply xc_seq); apply xcR)
 refine xoM ?_
 with_reducible (apply xo_nil; (repeat first | apply xqT | apply xqB | apply xqS); (repeat apply xc_seq); apply xc_block)
 refine xc_know (φ := w.heap.size ≤ b2) (fun w1 hw1 => hw1.own (by repeat first | exact mH | apply mT | apply mA)) fun hb2 => ?_
 refine xc_rangeS (by omega) rfl eg rfl (fun k => k < w.heap.size) (fun w1 hw1 k hk => Nat.lt_of_lt_of_le hk hw1.kx.size) (fun w1 hw1 => hit w1 hw1.kx.size (fun k hk => hw1.kx.below.block k (hneed k hk)) _ hneed _)
  (γ := RowR) (fun ys r => (r = none → ys = []) ∧ ∀ p, r = some p → w.heap.size ≤ p.1) (fun ys r => hpR 3 1 r ys.length (ys.map (.int .i64)) ++ [(b2, true, cel [valR r ys.length] 34)]) none ⟨fun _ => rfl, fun p h => by cases h⟩ (List.Sublist.refl _) ?_ ?_ (fun x => [(2, .pointer (some ⟨b2, 0, none⟩)), (5, .int .i64 x)]) ?_ ?_ ?_
 ·intro ys r hC e he
  left
  intro o ho
  rcases List.mem_append.1 he with he | he
  ·cases r with
   | none => cases he
   | some p =>
    simp only [hpR, List.mem_singleton] at he
    subst he
    obtain ⟨cur, rfl, _⟩ := ho
    rfl
  ·simp only [List.mem_singleton] at he
   subst he
   rw [show o = _ from ho]
   rfl
 ·rintro ys r ⟨_, hC⟩ e he _
  rcases List.mem_append.1 he with he | he
  ·cases r with
   | none => cases he
   | some p =>
    simp only [hpR, List.mem_singleton] at he
    subst he
    exact Nat.not_lt.2 (hC p rfl)
  ·simp only [List.mem_singleton] at he
   subst he
   exact Nat.not_lt.2 hb2
 ·intro l x W
  with_reducible ((repeat apply xc_seq); apply xcR)
  refine xoA ?_
  with_reducible (apply xo_nil; (repeat first | apply xqT | apply xqB | apply xqS))
  exact fun a w1 ha hw1 => ⟨ha.sub ⟨rfl, rfl, trivial⟩, hw1.kx⟩
 ·rintro l ys x r W ⟨hC1, hC2⟩ hlt hW
  with_reducible ((repeat apply xc_seq); apply xc_block; (repeat apply xc_seq); apply xcR)
  refine xo_load0 T_ rfl rfl rfl (by repeat first | exact mH | apply mT | apply mA) rfl rfl ?_
  refine xoM ?_
  refine xo_bs1 T_ rfl rfl rfl rfl rfl rfl rfl rfl (fun b10 => ?_)
  refine xo_app TR_ rfl rfl rfl rfl rfl rfl rfl rfl (by simp) rfl rfl (fun h => by rw [hC1 h]; rfl) (by omega) rfl rfl (fun r' hr' => ?_)
  rcases r' with _ | ⟨g', cap'⟩
  ·exact absurd rfl hr'
  refine xo_store T_ rfl rfl rfl rfl (by repeat first | exact mH | apply mT | apply mA) rfl rfl rfl rfl (by repeat first | exact Upd.head | apply Upd.tail | apply Upd.app) rfl ?_
  with_reducible (apply xo_nil; (repeat first | apply xqT | apply xqB | apply xqS))
  intro a w1 ha hw1
  refine ⟨some (g', cap'), ⟨(fun h => by cases h), fun p hp => ?_⟩, ?_⟩
  ·cases hp
   rcases hw1.ow (g', true, _) (by repeat first | exact mH | apply mT | apply mA) rfl with h1 | ⟨e, he, _, rfl⟩
   ·exact Nat.le_trans hW.kx.size h1
   ·rcases List.mem_append.1 he with he | he
    ·cases r with
     | none => cases he
     | some p =>
      simp only [hpR, List.mem_singleton] at he
      subst he
      exact hC2 p rfl
    ·simp only [List.mem_singleton] at he
     subst he
     exact hb2
  ·have e1 : (ys ++ [x]).length = ys.length + 1 := by simp
   have e2 : (ys ++ [x]).map (Value.int .i64) = ys.map (Value.int .i64) ++ [Value.int .i64 x] := by simp
   show WOK W _ (hpR 3 1 (some (g', cap')) (ys ++ [x]).length ((ys ++ [x]).map (.int .i64)) ++ [(b2, true, cel [valR (some (g', cap')) (ys ++ [x]).length] 34)]) w1
   rw [e1, e2]
   exact hw1
 ·rintro D xs r hS ⟨hC1, hC2⟩
  with_reducible ((repeat first | apply xqT | apply xqB | apply xqS); (repeat apply xc_seq); apply xcR)
  refine xo_load0 T_ rfl rfl rfl (by repeat first | exact mH | apply mT | apply mA) rfl rfl ?_
  refine xoA ?_
  with_reducible (apply xo_nil; (repeat first | apply xqT | apply xqB | apply xqS); (repeat apply xc_seq); apply xc_ret; (repeat (first | apply xq_thenR | apply xq_blockR | apply xq_scopeR)))
  refine xq_retM1 rfl rfl fun w1 hw1 => ⟨xs, r, hS, rfl, ⟨hC1, fun p hp => ⟨hC2 p hp, ?_⟩⟩, hw1.kx.below⟩
  subst hp
  exact hw1.bl (p.1, true, orow 3 1 xs.length p.2 (xs.map (.int .i64))) (List.Mem.head _)
theorem collectS_calls (g : Nat) (cs : List Value) (eg : ∀ args w, (callFunc g args).run Tryd.prog w = .ok (.enter g args) w) (need : Nat → Prop) (S : List Int → Prop) (M : Nat) (w : World) (hit : IterS Tryd.prog g cs w need S M) (hneed : ∀ k, need k → k < w.heap.size) (hlen : M ≤ 1000000) :
  Calls Tryd.prog 53 #[.func (.func g) #[] cs.toArray] w fun e w' => ∃ (xs : List Int) (r : RowR), S xs ∧ e = .returned (valR r xs.length) ∧ RowAt 3 w.heap.size w' r xs ∧ Below w.heap.size w w' := by
 have eg2 := enters_of Tryd.func81 (by kernel_rfl) rfl
 refine x_calls (X := XNone) Tryd.func53 rfl rfl rfl ?_
 with_reducible ((repeat apply xc_seq); apply xcR)
 refine xoA ?_
 with_reducible (apply xo_nil; (repeat first | apply xqT | apply xqB | apply xqS); (repeat apply xc_seq); apply xcR)
 refine xoM ?_
 refine xo_call (fs := []) (cs := []) rfl rfl rfl eg2 rfl (fun w1 hw1 => (appendSeqS_calls g cs eg need S M w1 (fun w2 h1 h2 => hit w2 (Nat.le_trans hw1.kx.size h1) (fun k hk => (h2 k hk).trans (hw1.kx.below.block k (hneed k hk)))) (fun k hk => Nat.lt_of_lt_of_le (hneed k hk) hw1.kx.size) hlen).mono ?_)
 rintro e w2 ⟨xs, r, hS, rfl, hrow, hb⟩
 refine ⟨_, _, rfl, hw1.row hb hrow, ?_⟩
 refine xoA ?_
 with_reducible (apply xo_nil; (repeat first | apply xqT | apply xqB | apply xqS); (repeat apply xc_seq); apply xc_ret; (repeat (first | apply xq_thenR | apply xq_blockR | apply xq_scopeR)))
 exact xq_ret1 rfl rfl fun w3 hw3 => ⟨xs, r, hS, rfl, RowAt.of hw3 hrow.1, hw3.kx.below⟩
end Go.Proofs.YtommeljlfkmpjaaDoor
namespace Go.Proofs.YtommeljlfkmpjaaDoor
open Go.RowKit
theorem keys_uniq {es : Array MapEntry} {c : Nat} {l : List (Int × Value)} (hE : Ents es c l) {e e' : MapEntry} (he : e ∈ es.toList) (he' : e' ∈ es.toList) (h : e.key = e'.key) : e.born = e'.born := by
 have h1 : (es.toList.map (·.key)) = l.map (fun p => Value.int .i64 p.1) := by
  have := congrArg (List.map Prod.fst) hE.is
  simpa [List.map_map, Function.comp_def, kvE, kvI] using this
 have h2 : (es.toList.map (·.key)).Nodup := by
  rw [h1, show (fun p : Int × Value => Value.int .i64 p.1) = (fun n => Value.int .i64 n) ∘ Prod.fst from rfl, ← List.map_map]
  refine List.Pairwise.map _ ?_ hE.keys
  intro a b hab q
  injection q with _ q
  exact hab q
 obtain ⟨i, hi, rfl⟩ := List.getElem_of_mem he
 obtain ⟨j, hj, rfl⟩ := List.getElem_of_mem he'
 by_cases e : i = j
 ·subst e; rfl
 ·exfalso
  rw [List.nodup_iff_pairwise_ne, List.pairwise_iff_getElem] at h2
  by_cases hij : i < j
  ·exact h2 i j (by simpa using hi) (by simpa using hj) hij (by simpa using h)
  ·exact h2 j i (by simpa using hj) (by simpa using hi) (by omega) (by simpa using h.symm)
theorem keys_nodup {es : Array MapEntry} {c : Nat} {s : List Int} (hE : Ents es c (setV s)) : s.Nodup := by
 have h := hE.keys
 simpa [setV, List.map_map, Function.comp_def] using h
def Seen (es : Array MapEntry) (seen : Array Nat) (ys : List Int) : Prop := ys.Nodup ∧ ∀ n, n ∈ ys ↔ ∃ e ∈ es.toList, seen.contains e.born = true ∧ e.key = .int .i64 n
theorem Seen.step {es : Array MapEntry} {c : Nat} {s : List Int} (hE : Ents es c (setV s)) {seen : Array Nat} {ys : List Int} (h : Seen es seen ys) {e : MapEntry} (he : e ∈ es.toList) (hns : seen.contains e.born = false) {k : Int} (hk : e.key = .int .i64 k) : Seen es (seen.push e.born) (ys ++ [k]) := by
 obtain ⟨h1, h2⟩ := h
 refine ⟨List.nodup_append.2 ⟨h1, by simp, fun a ha b hb q => ?_⟩, fun n => ?_⟩
 ·simp at hb
  subst hb
  subst q
  obtain ⟨e', he', h3, h4⟩ := (h2 a).1 ha
  rw [keys_uniq hE he' he (h4.trans hk.symm)] at h3
  rw [h3] at hns
  cases hns
 ·rw [List.mem_append, List.mem_singleton, h2]
  constructor
  ·rintro (⟨e', he', h3, h4⟩ | rfl)
   ·exact ⟨e', he', by simp at h3 ⊢; exact .inl h3, h4⟩
   ·exact ⟨e, he, by simp, hk⟩
  ·rintro ⟨e', he', h3, h4⟩
   simp at h3
   rcases h3 with h3 | h3
   ·exact .inl ⟨e', he', by simpa using h3, h4⟩
   ·right
    obtain ⟨i, hi, rfl⟩ := List.getElem_of_mem he
    obtain ⟨j, hj, rfl⟩ := List.getElem_of_mem he'
    have hij : i = j := by
     have ho := hE.once
     by_cases q : i = j
     ·exact q
     ·exfalso
      rw [List.nodup_iff_pairwise_ne, List.pairwise_iff_getElem] at ho
      by_cases hl : i < j
      ·exact ho i j (by simpa using hi) (by simpa using hj) hl (by simpa using h3.symm)
      ·exact ho j i (by simpa using hj) (by simpa using hi) (by omega) (by simpa using h3)
    subst hij
    rw [hk] at h4
    injection h4 with _ h4
    exact h4.symm
theorem Seen.sub {es : Array MapEntry} {c : Nat} {s : List Int} (hE : Ents es c (setV s)) {seen : Array Nat} {ys : List Int} (h : Seen es seen ys) : ∀ n ∈ ys, n ∈ s := fun n hn => by
 obtain ⟨e, he, _, h4⟩ := (h.2 n).1 hn
 obtain ⟨k, hk, h5, _⟩ := hE.setV he
 rw [h5] at h4
 injection h4 with _ h4
 rwa [← h4]
theorem Seen.len {es : Array MapEntry} {c : Nat} {s : List Int} (hE : Ents es c (setV s)) {seen : Array Nat} {ys : List Int} (h : Seen es seen ys) : ys.length ≤ s.length := by
 have hp : (s.filter fun n => decide (n ∈ ys)).Perm ys := (List.perm_ext_iff_of_nodup ((keys_nodup hE).filter _) h.1).2 fun n => by
  simp only [List.mem_filter, decide_eq_true_eq]
  exact ⟨fun q => q.2, fun q => ⟨h.sub hE n q, q⟩⟩
 rw [← hp.length_eq]
 exact List.length_filter_le _ _
theorem Seen.all {es : Array MapEntry} {c : Nat} {s : List Int} (hE : Ents es c (setV s)) {seen : Array Nat} {ys : List Int} (h : Seen es seen ys) (hall : ∀ e ∈ es.toList, seen.contains e.born = true) : ys.Perm s :=
 (List.perm_ext_iff_of_nodup h.1 (keys_nodup hE)).2 fun n => ⟨h.sub hE n, fun hn => by
  have : (Value.int .i64 n, Value.bool true) ∈ es.toList.map kvE := by
   rw [hE.is, Go.Proofs.YtommeljlfkmpjaaDoor.setV, List.map_map]
   exact List.mem_map.2 ⟨n, hn, rfl⟩
  obtain ⟨e, he, q⟩ := List.mem_map.1 this
  exact (h.2 n).2 ⟨e, he, hall e he, congrArg Prod.fst q⟩⟩
theorem keysIter_enters : ∀ args w, (callFunc 55 args).run Tryd.prog w = .ok (.enter 55 args) w := enters_of Tryd.func55 (by kernel_rfl) rfl
set_option maxHeartbeats 4000000 in
theorem iter_keys (s : List Int) (M0 B : Nat) (wB : World) (hB : wB.heap[B]? = some (.cells #[.map (some M0)] 65 (0, 0))) (hM : IMap wB M0 (setV s)) :
  IterS Tryd.prog 55 [.pointer (some ⟨B, 0, none⟩)] wB (fun k => k = B ∨ k = M0) (fun ys => ys.Perm s) s.length := by
 intro w hszB hneed K hK m l J Jx W hW hJ hJx hY h0
 have ltB : B < wB.heap.size := (Array.getElem?_eq_some_iff.1 hB).1
 have ltM := hM.lt
 have gB : W.heap[B]? = _ := (hW.block B (by omega)).trans ((hneed B (.inl rfl)).trans hB)
 have gM : IMap W M0 (setV s) := hM.at_ ((hW.block M0 (by omega)).trans (hneed M0 (.inr rfl)))
 have nBM : B ≠ M0 := fun e => by obtain ⟨es, cl, h, _⟩ := gM; rw [← e, gB] at h; cases h
 have hszW := hW.size
 have hw0 : WOK W XNone [(B, false, cel [.map (some M0)] 65), (M0, false, hmap (setV s))] W := by
  refine ⟨Kx.refl _ W, ?_, by simp [nBM], by simp⟩
  intro e he
  simp only [List.mem_cons, List.not_mem_nil, or_false] at he
  rcases he with rfl | rfl
  ·exact ⟨_, gB, rfl⟩
  ·exact hmap_of gM
 refine x_iter Tryd.func55 rfl rfl rfl hw0 ?_
 with_reducible ((repeat apply xc_seq); apply xcR)
 refine xo_load0 T_ rfl rfl rfl (by repeat first | exact mH | apply mT | apply mA) rfl rfl ?_
 refine xo_rangeM T_ rfl rfl rfl (by repeat first | exact mH | apply mT | apply mA) (fun es c => Rep.tail Rep.head) rfl (fun r5 es c hE => ?_)
 with_reducible (apply xo_nil; (repeat first | apply xqT | apply xqB | apply xqS); (repeat apply xc_seq); apply xc_block)
 refine xc_loopJ (γ := Array Nat × List Int) (fun q => Seen es q.1 q.2) (fun q => [(0, .func (.yield l) #[] #[]), (5, .pointer (some ⟨r5, 0, none⟩))])
  (fun q => [(r5, true, hiter M0 c q.1), (B, false, cel [.map (some M0)] 65), (M0, false, hmapE es c)]) (fun q w => J q.2 w ∧ W.heap.size ≤ r5 ∧ W.heap.size ≤ w.heap.size) (fun q => s.length - q.2.length) (#[], []) ⟨List.nodup_nil, fun n => by simp⟩ ⟨rfl, rfl, trivial⟩
  (fun w1 hw1 => ⟨hw1.bok (by repeat (first | exact List.Sublist.refl _ | apply List.Sublist.cons_cons | apply List.Sublist.cons | exact List.nil_sublist _)), hJ _ _ _ none h0 (hw1.kx.grown (fun k q => q.elim)) (fun r e => by cases e), hw1.own (b := r5) (by repeat first | exact mH | apply mT | apply mA), hw1.kx.size⟩) ?_
 rintro ⟨seen, ys⟩ hseen wr hbok ⟨hJr, hr5, hszr⟩
 simp only at hseen hJr ⊢
 have hXW : ∀ seen b, XW [(r5, true, hiter M0 c seen), (B, false, cel [.map (some M0)] 65), (M0, false, hmapE es c)] b → r5 = b := by
  rintro seen b ⟨e, he, hwr, rfl⟩
  simp only [List.mem_cons, List.not_mem_nil, or_false] at he
  rcases he with rfl | rfl | rfl
  ·rfl
  ·cases hwr
  ·cases hwr
 have hIr : wr.heap[r5]? = some (.mapIter (some M0) c seen c) := by
  obtain ⟨o, h5, h6⟩ := hbok.bl (r5, true, hiter M0 c seen) (by repeat first | exact mH | apply mT | apply mA)
  rw [h5]
  exact congrArg some h6
 have hwalk : ∀ (wx : World) (sn : Array Nat), wx.heap[r5]? = some (.mapIter (some M0) c sn c) → ∀ q, some r5 = some q → W.heap.size ≤ q ∧ ∃ o : Obj, wx.heap[q]? = some o ∧ o.isWalk = true := fun wx sn h q e => by
  cases e
  exact ⟨hr5, _, h, rfl⟩
 have hJn : ∀ (X : Nat → Prop) (w1 : World), (∀ b, X b → r5 = b) → Kx X wr w1 → J ys w1 := fun X w1 hX kx => hJ ys wr w1 (some r5) hJr (kx.grown (fun k q => congrArg some (hX k q))) (hwalk wr seen hIr)
 with_reducible ((repeat apply xc_seq); apply xcR)
 refine xo_next rfl rfl (by repeat first | exact mH | apply mT | apply mA) (by repeat first | exact mH | apply mT | apply mA) hE (fun seen' => Upd.head) rfl (fun hall => ?_) (fun e he hns => ?_)
 ·refine xo_ext rfl rfl rfl rfl ?_
  with_reducible (apply xo_nil; (repeat first | apply xqT | apply xqB | apply xqS); (repeat apply xc_seq))
  refine xc_condF rfl ?_
  with_reducible (apply xc_exit; (repeat (first | apply xq_blockX | apply xq_thenE | refine xq_blockE rfl ?_ | apply xq_scopeE)))
  exact xq_end0 rfl fun w2 hw2 => ⟨⟨_, rfl⟩, .inl ⟨ys, hseen.all hE hall, hJn _ _ (hXW seen) hw2.kx⟩⟩
 ·obtain ⟨k, hk, hk1, hk2⟩ := hE.setV he
  have hst := hseen.step hE he hns hk1
  have hlen : ys.length < s.length := by
   have := hst.len hE
   simp at this
   omega
  rw [hk1, hk2]
  refine xo_ext rfl rfl rfl rfl ?_
  with_reducible (apply xo_nil; (repeat first | apply xqT | apply xqB | apply xqS); (repeat apply xc_seq))
  refine xc_condT rfl ?_
  with_reducible (apply xc_skip; (repeat first | apply xqT | apply xqB | apply xqS); (repeat apply xc_seq); apply xc_block; (repeat apply xc_seq); apply xcR)
  refine xo_entry rfl rfl (by repeat first | exact mH | apply mT | apply mA) (by repeat first | exact mH | apply mT | apply mA) hE he rfl ?_
  rw [hk1, hk2]
  refine xo_ext rfl rfl rfl rfl ?_
  refine xoA ?_
  with_reducible (apply xo_nil; (repeat first | apply xqT | apply xqB | apply xqS); (repeat apply xc_seq); apply xcR)
  refine xoM ?_
  refine xoM ?_
  refine xo_yield rfl rfl rfl rfl (fun w1 hw1 => ?_)
  obtain ⟨fn, tmps, assign, body, hy1, hy2⟩ := hY ys k w1 (hJn _ _ (hXW _) hw1.kx) hlen
  refine ⟨fn, tmps, assign, body, hy1, hy2.mono ?_⟩
  have hI1 : w1.heap[r5]? = some (.mapIter (some M0) c (seen.push e.born) c) := by
   obtain ⟨o, h5, h6⟩ := hw1.bl (r5, true, hiter M0 c (seen.push e.born)) (by repeat first | exact mH | apply mT | apply mA)
   rw [h5]
   exact congrArg some h6
  have hB1 := hw1.obj (b := B) (wr := false) (cs := [.map (some M0)]) (t := 65) (by repeat first | exact mH | apply mT | apply mA)
  have hM1 : w1.heap[M0]? = some (.map es c) := by
   obtain ⟨o, h5, h6⟩ := hw1.bl (M0, false, hmapE es c) (by repeat first | exact mH | apply mT | apply mA)
   rw [h5]
   exact congrArg some h6
  have hsz1 := hw1.kx.size
  clear hw1 hy1 hy2
  rintro e2 W3 (⟨rfl, hJ3, hk3⟩ | ⟨rfl, hJx3⟩)
  ·have hI3 := hk3.2.2 r5 _ (by omega) hI1 rfl
   have hB3 := (hk3.1 B (hK B (.inl rfl))).trans hB1
   have hM3 := (hk3.1 M0 (hK M0 (.inr rfl))).trans hM1
   have n5B : r5 ≠ B := by omega
   have n5M : r5 ≠ M0 := by omega
   have hsz3 : W.heap.size ≤ W3.heap.size := by have := hk3.2.1; omega
   have hbok3 : BOK [(r5, true, hiter M0 c (seen.push e.born)), (B, false, cel [.map (some M0)] 65), (M0, false, hmapE es c)] W3 := by
    refine ⟨?_, by simp [n5B, n5M, nBM]⟩
    intro e he
    simp only [List.mem_cons, List.not_mem_nil, or_false] at he
    rcases he with rfl | rfl | rfl
    ·exact ⟨_, hI3, rfl⟩
    ·exact ⟨_, hB3, rfl⟩
    ·exact ⟨_, hM3, rfl⟩
   refine ⟨.bool true, _, W3, _, rfl, hbok3.wok, ?_⟩
   refine xo_notOp rfl rfl rfl ?_
   with_reducible (apply xo_nil; (repeat first | apply xqT | apply xqB | apply xqS); (repeat apply xc_seq))
   refine xc_condF rfl ?_
   with_reducible (apply xc_skip; (repeat first | apply xqT | apply xqB | apply xqS))
   refine xq_againJ _ _ _ _ _ _ (seen.push e.born, ys ++ [k]) hst (by simp only [List.length_append, List.length_cons, List.length_nil]; omega) ⟨rfl, rfl, trivial⟩
    (fun w1 hw1 => ⟨hw1.bok (by repeat (first | exact List.Sublist.refl _ | apply List.Sublist.cons_cons | apply List.Sublist.cons | exact List.nil_sublist _)), hJ _ W3 w1 (some r5) hJ3 (hw1.kx.grown (fun k q => congrArg some (hXW _ k q))) (hwalk W3 _ hI3), hr5, Nat.le_trans hsz3 hw1.kx.size⟩)
  ·refine ⟨.bool false, [], W3, XNone, rfl, WOK.start _ _, ?_⟩
   refine xo_notOp rfl rfl rfl ?_
   with_reducible (apply xo_nil; (repeat first | apply xqT | apply xqB | apply xqS); (repeat apply xc_seq))
   refine xc_condT rfl ?_
   with_reducible ((repeat apply xc_seq); apply xc_ret; (repeat (first | apply xq_thenR | apply xq_blockR | apply xq_scopeR)))
   exact xq_ret0 rfl fun w2 hw2 => ⟨⟨_, rfl⟩, .inr ⟨_, trivial, hJx _ W3 w2 none hJx3 (hw2.kx.grown (fun k q => q.elim)) (fun r e => by cases e)⟩⟩
end Go.Proofs.YtommeljlfkmpjaaDoor
