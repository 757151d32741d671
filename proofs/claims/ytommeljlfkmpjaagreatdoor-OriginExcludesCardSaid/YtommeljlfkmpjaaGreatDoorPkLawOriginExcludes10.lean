/- ref09: least, next, far. / ref09: far. / ref09: window, both. / ref09: some, rooms. -/
import Derived.Test.YtommeljlfkmpjaaGreatDoorPkLawOriginExcludes9
import Derived.Test.YtommeljlfkmpjaaGreatDoorPkLawOriginExcludes3
namespace Go.Proofs.YtommeljlfkmpjaaGreatDoor
open Go.RowKit Go.Proofs.YtommeljlfkmpjaaGreatDoorW.PrintWords
set_option linter.unusedVariables false
set_option linter.unusedSimpArgs false
theorem RO.fld2 {w : World} {X : Nat → Prop} {p : Addr} {cs : List Value} {i j : Nat} {v : Value} (h : RO w X p cs) (hj : cs[i + j]? = some v) : RO w X ((p.add i).add j) [v] := by
 rw [add_add]
 exact RO.fld h hj
theorem least_calls (R E : Int) (A B : Option Addr) (c m c2 : Nat) (gs : List GatT) (w : World) (hA : RowOf gatV 4 zGat w A gs) (hg6 : gs.length ≤ 6) :
   Calls Tryz.prog 66 #[.agg (scnV R A gs.length c E B m c2).toArray] w fun e w' => ∃ rr : RowR, e = .returned (valR rr gs.length) ∧ RowAt 3 w.heap.size w' rr (leastD gs) ∧ Below w.heap.size w w' := by
 have hll : (leastD gs).length = gs.length := by simp [leastD]
 refine x_calls (X := XNone) Tryz.func66 rfl rfl rfl ?_
 with_reducible ((repeat refine xc_seq ?_); refine xcR ?_)
 refine xo_box rfl rfl rfl rfl (fun b1 => ?_)
 refine xo_asg rfl rfl rfl ?_
 with_reducible (refine xo_nil ?_; (repeat (first | refine xqT ?_ | refine xqB ?_ | refine xqS ?_)); (repeat refine xc_seq ?_); refine xcR ?_)
 refine xo_asg rfl rfl rfl ?_
 with_reducible (refine xo_nil ?_; (repeat (first | refine xqT ?_ | refine xqB ?_ | refine xqS ?_)); (repeat refine xc_seq ?_); refine xcR ?_)
 refine xo_asg rfl rfl rfl ?_
 with_reducible (refine xo_nil ?_; (repeat (first | refine xqT ?_ | refine xqB ?_ | refine xqS ?_)); (repeat refine xc_seq ?_); refine xc_block ?_)
 refine xc_loop (γ := Nat × RowR) (fun q => q.1 ≤ gs.length ∧ (q.2 = none → q.1 = 0)) (fun q => [(1, .pointer (some ⟨b1, 0, none⟩)), (3, valR q.2 q.1), (4, .int .i64 (q.1 : Int))])
   (fun q => hpR 3 1 q.2 q.1 (((leastD gs).take q.1).map (.int .i64)) ++ [(b1, true, cel (scnV R A gs.length c E B m c2) 25)]) (fun q => gs.length - q.1) (0, none) ⟨Nat.zero_le _, fun _ => rfl⟩ ⟨rfl, rfl, rfl, trivial⟩ (by repeat (first | exact List.Sublist.refl _ | apply List.Sublist.cons_cons | apply List.Sublist.cons | exact List.nil_sublist _)) ?_
 rintro ⟨k, rr⟩ ⟨hk, hrr⟩
 simp only at hk hrr
 with_reducible ((repeat refine xc_seq ?_); refine xcR ?_)
 refine xo_mv rfl rfl rfl ?_
 refine xo_fa T_ rfl rfl rfl rfl rfl ?_
 refine xo_load0 T_ (b := b1) (wr := true) (cs := scnV R A gs.length c E B m c2) (te := 25) rfl rfl rfl (by repeat first | exact memH | apply memT | apply memA) rfl rfl ?_
 refine xo_len T_ rfl rfl rfl rfl ?_
 refine xo_lss rfl rfl rfl rfl ?_
 with_reducible (refine xo_nil ?_; (repeat (first | refine xqT ?_ | refine xqB ?_ | refine xqS ?_)); (repeat refine xc_seq ?_))
 refine xc_cond rfl (fun h => ?_) (fun h => ?_)
 · have hlt : k < gs.length := by have := of_decide_eq_true h; omega
   obtain ⟨ad, rfl, q1⟩ := hA k hlt
   have hst : (leastD gs).take (k + 1) = (leastD gs).take k ++ [(gs.getD k zGat).f2.f0] := by
     rw [List.take_add_one]
     unfold leastD
     rw [List.getElem?_map, List.getElem?_eq_getElem hlt]
     simp [List.getD_eq_getElem?_getD, List.getElem?_eq_getElem hlt]
   have htl : ((leastD gs).take k).length = k := by rw [List.length_take, hll]; omega
   generalize gs.getD k zGat = g at q1 hst
   with_reducible (refine xc_skip ?_; (repeat (first | refine xqT ?_ | refine xqB ?_ | refine xqS ?_)); (repeat refine xc_seq ?_); refine xc_block ?_; (repeat refine xc_seq ?_); refine xcR ?_)
   refine xo_mv rfl rfl rfl ?_
   refine xo_fa T_ rfl rfl rfl rfl rfl ?_
   refine xo_load0 T_ (b := b1) (wr := true) (cs := scnV R (some ad) gs.length c E B m c2) (te := 25) rfl rfl rfl (by repeat first | exact memH | apply memT | apply memA) rfl rfl ?_
   refine xo_mv rfl rfl rfl ?_
   refine xo_ia T_ rfl rfl rfl rfl rfl ⟨by omega, by omega⟩ rfl ?_
   refine xo_faR T_ rfl rfl rfl rfl rfl ?_
   refine xo_faR T_ rfl rfl rfl rfl rfl ?_
   refine xo_loadR0 T_ rfl rfl rfl (RO.fld2 (v := .int .i64 g.f2.f0) q1 rfl) rfl ?_
   refine xo_bs1 T_ rfl rfl rfl rfl rfl rfl rfl rfl (fun b20 => ?_)
   refine xo_app TR_ rfl rfl rfl rfl rfl rfl rfl rfl (by rw [List.length_map, htl, Nat.mul_one]) rfl rfl hrr (by omega) rfl rfl (fun r' hr' => ?_)
   refine xo_asg rfl rfl rfl ?_
   with_reducible (refine xo_nil ?_; (repeat (first | refine xqT ?_ | refine xqB ?_ | refine xqS ?_)); (repeat refine xc_seq ?_); refine xcR ?_)
   refine xo_mv rfl rfl rfl ?_
   refine xo_add rfl rfl rfl (by omega) rfl ?_
   refine xo_asg rfl rfl rfl ?_
   with_reducible (refine xo_nil ?_; (repeat (first | refine xqT ?_ | refine xqB ?_ | refine xqS ?_)))
   exact xq_again _ _ _ _ _ (k + 1, r') ⟨hlt, fun q => absurd q hr'⟩ (by simp only; omega) ⟨rfl, rfl, rfl, trivial⟩ (by rw [hst, List.map_append]; exact List.Sublist.refl _)
 have hge : k = gs.length := by have := of_decide_eq_false h; omega
 subst hge
 rw [List.take_of_length_le (by omega), ← hll]
 with_reducible (refine xc_exit ?_; (repeat (first | refine xq_blockX ?_ | refine xq_thenE ?_ | refine xq_blockE rfl ?_ | refine xq_scopeE ?_)); (repeat (first | refine xqT ?_ | refine xqB ?_ | refine xqS ?_)); (repeat refine xc_seq ?_); refine xcR ?_)
 refine xo_mv rfl rfl rfl ?_
 refine xo_asg rfl rfl rfl ?_
 with_reducible (refine xo_nil ?_; (repeat (first | refine xqT ?_ | refine xqB ?_ | refine xqS ?_)); (repeat refine xc_seq ?_); refine xc_ret ?_; (repeat (first | refine xq_thenR ?_ | refine xq_blockR ?_ | refine xq_scopeR ?_)))
 exact xq_ret1 rfl rfl fun w' hw => ⟨rr, rfl, RowAt.of hw (fun q => List.eq_nil_of_length_eq_zero (by rw [hll]; exact hrr q)), hw.kx.below⟩
theorem least_enters : ∀ args w, (callFunc 66 args).run Tryz.prog w = .ok (.enter 66 args) w := enters_of Tryz.func66 (by kernel_rfl) rfl
/-! ### next -/
theorem WOK.start1 {w : World} {b : Nat} {φ : HP} {o : Obj} (h1 : w.heap[b]? = some o) (h2 : φ o) : WOK w (fun q => q = b) [(b, true, φ)] w := by
 refine ⟨Kx.refl _ w, ?_, by simp, ?_⟩
 · intro e he
   simp only [List.mem_singleton] at he
   subst he
   exact ⟨o, h1, h2⟩
 · intro e he _
   simp only [List.mem_singleton] at he
   subst he
   exact .inr rfl
theorem back_zero (gs : List GatT) (now : List Int) (hn : now.length = gs.length) : backL gs now 0 = now := by
 unfold backL
 rw [Nat.sub_zero, List.take_of_length_le (by omega), List.drop_of_length_le (by simp [leastD]), List.append_nil]
theorem backL_end (gs : List GatT) (now : List Int) (hn : now.length = gs.length) : backL gs now gs.length = leastD gs := by simp [backL]
theorem back_at {gs : List GatT} {now : List Int} (hn : now.length = gs.length) {p : Nat} (hp : p < gs.length) : (backL gs now p)[gs.length - 1 - p]? = some (now.getD (gs.length - 1 - p) 0) := by
 unfold backL
 rw [List.getElem?_append_left (by rw [List.length_take, hn]; omega), List.getElem?_take_of_lt (by omega), List.getElem?_eq_getElem (by omega)]
 simp [List.getD_eq_getElem?_getD, List.getElem?_eq_getElem (show gs.length - 1 - p < now.length by omega)]
set_option maxHeartbeats 4000000 in
theorem next_calls (R E : Int) (A B : Option Addr) (c m c2 : Nat) (gs : List GatT) (b cap : Nat) (now : List Int) (w : World) (o : Obj) (hA : RowOf gatV 4 zGat w A gs) (hg6 : gs.length ≤ 6) (hAb : 0 < gs.length → ∀ ad, A = some ad → ad.block ≠ b) (h1 : w.heap[b]? = some o) (h2 : orow 3 1 gs.length cap (now.map (.int .i64)) o) (hn : now.length = gs.length) (hb : ∀ x ∈ now, 0 ≤ x ∧ x ≤ 1000) :
   Calls Tryz.prog 67 #[.agg (scnV R A gs.length c E B m c2).toArray, .slice (some ⟨b, 0, none⟩) gs.length cap] w fun e w' => e = .returned (.bool (nextD gs now).isSome) ∧ Kx (fun q => q = b) w w' ∧ ∃ o', w'.heap[b]? = some o' ∧ orow 3 1 gs.length cap (((nextD gs now).getD (leastD gs)).map (.int .i64)) o' := by
 refine x_callsH (X := fun q => q = b) (vs := [.agg (scnV R A gs.length c E B m c2).toArray, .slice (some ⟨b, 0, none⟩) gs.length cap]) Tryz.func67 rfl rfl rfl (WOK.start1 h1 h2) ?_
 clear h1 h2
 with_reducible ((repeat refine xc_seq ?_); refine xcR ?_)
 refine xo_box rfl rfl rfl rfl (fun b2 => ?_)
 refine xo_asg rfl rfl rfl ?_
 with_reducible (refine xo_nil ?_; (repeat (first | refine xqT ?_ | refine xqB ?_ | refine xqS ?_)); (repeat refine xc_seq ?_); refine xcR ?_)
 refine xo_mv rfl rfl rfl ?_
 refine xo_len T_ rfl rfl rfl rfl ?_
 refine xo_sub rfl rfl rfl (by omega) rfl ?_
 refine xo_asg rfl rfl rfl ?_
 with_reducible (refine xo_nil ?_; (repeat (first | refine xqT ?_ | refine xqB ?_ | refine xqS ?_)); (repeat refine xc_seq ?_); refine xc_block ?_)
 refine xc_loop (γ := Nat) (fun p => p ≤ gs.length ∧ nextD (gs.drop (gs.length - p)) (now.drop (gs.length - p)) = none) (fun p => [(1, .slice (some ⟨b, 0, none⟩) gs.length cap), (2, .pointer (some ⟨b2, 0, none⟩)), (5, .int .i64 ((gs.length : Int) - 1 - (p : Int)))])
   (fun p => [(b2, true, cel (scnV R A gs.length c E B m c2) 25), (b, true, orow 3 1 gs.length cap ((backL gs now p).map (.int .i64)))]) (fun p => gs.length - p) 0 ⟨Nat.zero_le _, by rw [Nat.sub_zero, List.drop_of_length_le (Nat.le_refl _), List.drop_of_length_le (by omega)]; rfl⟩ ⟨rfl, rfl, by rw [show ((gs.length : Int) - 1 - ((0 : Nat) : Int)) = (gs.length : Int) - 1 by omega]; rfl, trivial⟩ (by rw [back_zero gs now hn]; exact List.Sublist.refl _) ?_
 rintro p ⟨hp, hnone⟩
 with_reducible ((repeat refine xc_seq ?_); refine xcR ?_)
 refine xo_mv rfl rfl rfl ?_
 refine xo_geq rfl rfl rfl rfl ?_
 with_reducible (refine xo_nil ?_; (repeat (first | refine xqT ?_ | refine xqB ?_ | refine xqS ?_)); (repeat refine xc_seq ?_))
 refine xc_cond rfl (fun h => ?_) (fun h => ?_)
 · have hlt : p < gs.length := by have := of_decide_eq_true h; omega
   obtain ⟨ad, rfl, q1⟩ := hA (gs.length - 1 - p) (by omega)
   rw [show ((gs.length - 1 - p : Nat) : Int) = (gs.length : Int) - 1 - (p : Int) by omega] at q1
   have q1 := q1.wr (X := fun q => q = b) (by rw [add_blk]; exact hAb (by omega) ad rfl)
   have hba := back_at hn hlt
   have hget : ((backL gs now p).map (Value.int .i64))[((gs.length : Int) - 1 - (p : Int)).toNat * szN 0]? = some (.int .i64 (now.getD (gs.length - 1 - p) 0)) := by
     rw [show ((gs.length : Int) - 1 - (p : Int)).toNat * szN 0 = gs.length - 1 - p by rw [show szN 0 = 1 from rfl]; omega, List.getElem?_map, hba]
     rfl
   have hb1 := fun h => nextD_back hn hlt hnone h
   have hb2 := fun h => nextD_back2 hn hlt hnone h
   have hs2 := backL_succ gs now p hn hlt
   have hbd := hb _ (getD_mem now 0 (gs.length - 1 - p) (by omega))
   have hbl : (backL gs now p).length = gs.length := backL_len gs now p hn
   generalize now.getD (gs.length - 1 - p) 0 = v at hget hb1 hb2 hbd
   generalize gs.getD (gs.length - 1 - p) zGat = g at q1 hb1 hb2 hs2
   with_reducible (refine xc_skip ?_; (repeat (first | refine xqT ?_ | refine xqB ?_ | refine xqS ?_)); (repeat refine xc_seq ?_); refine xc_block ?_)
   refine xc_slots [(1, .slice (some ⟨b, 0, none⟩) gs.length cap), (2, .pointer (some ⟨b2, 0, none⟩)), (5, .int .i64 ((gs.length : Int) - 1 - (p : Int)))] ⟨rfl, rfl, rfl, trivial⟩ ?_
   with_reducible (repeat refine xc_seq ?_)
   apply xc_drawN
   · exact T_.mixed
   · rfl
   · rfl
   · rfl
   · rfl
   · apply DrawOps.cons
     · intro τ
       refine xo_mv rfl rfl rfl ?_
       exact xo_fin rfl
     apply DrawOps.cons
     · intro τ
       refine xo_mv rfl rfl rfl ?_
       exact xo_fin rfl
     apply DrawOps.cons
     · intro τ
       refine xo_ia T_ rfl rfl rfl rfl rfl ⟨by omega, by omega⟩ rfl ?_
       exact xo_fin rfl
     apply DrawOps.cons
     · intro τ
       refine xo_loadO T_ (k := ((gs.length : Int) - 1 - (p : Int)).toNat * szN 0) (v := .int .i64 v) rfl rfl rfl (List.Mem.tail _ (List.Mem.head _)) hget rfl ?_
       exact xo_fin rfl
     apply DrawOps.cons
     · intro τ
       refine xo_fa T_ rfl rfl rfl rfl rfl ?_
       exact xo_fin rfl
     apply DrawOps.cons
     · intro τ
       refine xo_load0 T_ rfl rfl rfl (by repeat first | exact memH | apply memT | apply memA) rfl rfl ?_
       exact xo_fin rfl
     apply DrawOps.cons
     · intro τ
       refine xo_mv rfl rfl rfl ?_
       exact xo_fin rfl
     apply DrawOps.cons
     · intro τ
       refine xo_ia T_ rfl rfl rfl rfl rfl ⟨by omega, by omega⟩ rfl ?_
       exact xo_fin rfl
     apply DrawOps.cons
     · intro τ
       refine xo_faR T_ rfl rfl rfl rfl rfl ?_
       exact xo_fin rfl
     apply DrawOps.cons
     · intro τ
       refine xo_faR T_ rfl rfl rfl rfl rfl ?_
       exact xo_fin rfl
     apply DrawOps.cons
     · intro τ
       refine xo_loadR0 T_ rfl rfl rfl (RO.fld2 (v := .int .i64 g.f2.f1) q1 rfl) rfl ?_
       exact xo_fin rfl
     apply DrawOps.cons
     · intro τ
       refine xo_lss rfl rfl rfl rfl ?_
       exact xo_fin rfl
     exact DrawOps.nil
   · rfl
   with_reducible ((repeat (first | refine xqT ?_ | refine xqB ?_ | refine xqS ?_)); (repeat refine xc_seq ?_))
   refine xc_cond rfl (fun h2 => ?_) (fun h2 => ?_)
   · have hv := of_decide_eq_true h2
     have hnx := hb1 hv
     have hset : ((backL gs now p).map (Value.int .i64)).set (((gs.length : Int) - 1 - (p : Int)).toNat * szN 0) (.int .i64 (v + 1)) = ((backL gs now p).set (gs.length - 1 - p) (v + 1)).map (.int .i64) := by
       rw [show ((gs.length : Int) - 1 - (p : Int)).toNat * szN 0 = gs.length - 1 - p by rw [show szN 0 = 1 from rfl]; omega, map_set_int]
     with_reducible ((repeat refine xc_seq ?_); refine xcR ?_)
     refine xo_mv rfl rfl rfl ?_
     refine xo_mv rfl rfl rfl ?_
     refine xo_ia T_ rfl rfl rfl rfl rfl ⟨by omega, by omega⟩ rfl ?_
     refine xo_loadO T_ (k := ((gs.length : Int) - 1 - (p : Int)).toNat * szN 0) (v := .int .i64 v) rfl rfl rfl (List.Mem.tail _ (List.Mem.head _)) hget rfl ?_
     refine xo_add rfl rfl rfl (by omega) rfl ?_
     refine xo_ia T_ rfl rfl rfl rfl rfl ⟨by omega, by omega⟩ rfl ?_
     refine xo_storeO T_ (k := ((gs.length : Int) - 1 - (p : Int)).toNat * szN 0) (η' := [(b2, true, cel (scnV R (some ad) gs.length c E B m c2) 25), (b, true, orow 3 1 gs.length cap (((backL gs now p).set (gs.length - 1 - p) (v + 1)).map (.int .i64)))]) rfl rfl rfl rfl (List.Mem.tail _ (List.Mem.head _)) rfl rfl (by rw [show szN 0 = 1 from rfl]; omega) (by rw [hset]; exact Upd.tail Upd.head) rfl ?_
     with_reducible (refine xo_nil ?_; (repeat (first | refine xqT ?_ | refine xqB ?_ | refine xqS ?_)); (repeat refine xc_seq ?_); refine xcR ?_)
     refine xo_asg rfl rfl rfl ?_
     with_reducible (refine xo_nil ?_; (repeat (first | refine xqT ?_ | refine xqB ?_ | refine xqS ?_)); (repeat refine xc_seq ?_); refine xc_ret ?_; (repeat (first | refine xq_thenR ?_ | refine xq_blockR ?_ | refine xq_scopeR ?_)))
     exact xq_ret1 rfl rfl fun w' hw => ⟨by rw [hnx]; rfl, hw.kx, by rw [hnx]; exact hw.bl (b, true, orow 3 1 gs.length cap (((backL gs now p).set (gs.length - 1 - p) (v + 1)).map (.int .i64))) (List.Mem.tail _ (List.Mem.head _))⟩
   · have hv := of_decide_eq_false h2
     have hset : ((backL gs now p).map (Value.int .i64)).set (((gs.length : Int) - 1 - (p : Int)).toNat * szN 0) (.int .i64 g.f2.f0) = (backL gs now (p + 1)).map (.int .i64) := by
       rw [show ((gs.length : Int) - 1 - (p : Int)).toNat * szN 0 = gs.length - 1 - p by rw [show szN 0 = 1 from rfl]; omega, map_set_int, hs2]
     with_reducible (refine xc_skip ?_; (repeat (first | refine xqT ?_ | refine xqB ?_ | refine xqS ?_)); (repeat refine xc_seq ?_); refine xcR ?_)
     refine xo_mv rfl rfl rfl ?_
     refine xo_mv rfl rfl rfl ?_
     refine xo_fa T_ rfl rfl rfl rfl rfl ?_
     refine xo_load0 T_ rfl rfl rfl (by repeat first | exact memH | apply memT | apply memA) rfl rfl ?_
     refine xo_mv rfl rfl rfl ?_
     refine xo_ia T_ rfl rfl rfl rfl rfl ⟨by omega, by omega⟩ rfl ?_
     refine xo_faR T_ rfl rfl rfl rfl rfl ?_
     refine xo_faR T_ rfl rfl rfl rfl rfl ?_
     refine xo_loadR0 T_ rfl rfl rfl (RO.fld2 (v := .int .i64 g.f2.f0) q1 rfl) rfl ?_
     refine xo_ia T_ rfl rfl rfl rfl rfl ⟨by omega, by omega⟩ rfl ?_
     refine xo_storeO T_ (k := ((gs.length : Int) - 1 - (p : Int)).toNat * szN 0) (η' := [(b2, true, cel (scnV R (some ad) gs.length c E B m c2) 25), (b, true, orow 3 1 gs.length cap ((backL gs now (p + 1)).map (.int .i64)))]) rfl rfl rfl rfl (List.Mem.tail _ (List.Mem.head _)) rfl rfl (by rw [show szN 0 = 1 from rfl]; omega) (by rw [hset]; exact Upd.tail Upd.head) rfl ?_
     with_reducible (refine xo_nil ?_; (repeat (first | refine xqT ?_ | refine xqB ?_ | refine xqS ?_)); (repeat refine xc_seq ?_); refine xcR ?_)
     refine xo_mv rfl rfl rfl ?_
     refine xo_sub rfl rfl rfl (by omega) rfl ?_
     refine xo_asg rfl rfl rfl ?_
     with_reducible (refine xo_nil ?_; (repeat (first | refine xqT ?_ | refine xqB ?_ | refine xqS ?_)))
     exact xq_again _ _ _ _ _ (p + 1) ⟨hlt, hb2 hv⟩ (by omega) ⟨rfl, rfl, by rw [show ((gs.length : Int) - 1 - ((p + 1 : Nat) : Int)) = (gs.length : Int) - 1 - (p : Int) - 1 by omega]; rfl, trivial⟩ (List.Sublist.refl _)
 have hge : p = gs.length := by have := of_decide_eq_false h; omega
 subst hge
 rw [Nat.sub_self, List.drop_zero, List.drop_zero] at hnone
 rw [hnone, backL_end gs now hn]
 with_reducible (refine xc_exit ?_; (repeat (first | refine xq_blockX ?_ | refine xq_thenE ?_ | refine xq_blockE rfl ?_ | refine xq_scopeE ?_)); (repeat (first | refine xqT ?_ | refine xqB ?_ | refine xqS ?_)); (repeat refine xc_seq ?_); refine xcR ?_)
 refine xo_asg rfl rfl rfl ?_
 with_reducible (refine xo_nil ?_; (repeat (first | refine xqT ?_ | refine xqB ?_ | refine xqS ?_)); (repeat refine xc_seq ?_); refine xc_ret ?_; (repeat (first | refine xq_thenR ?_ | refine xq_blockR ?_ | refine xq_scopeR ?_)))
 exact xq_ret1 rfl rfl fun w' hw => ⟨rfl, hw.kx, hw.bl (b, true, orow 3 1 gs.length cap ((leastD gs).map (.int .i64))) (List.Mem.tail _ (List.Mem.head _))⟩
theorem next_enters : ∀ args w, (callFunc 67 args).run Tryz.prog w = .ok (.enter 67 args) w := enters_of Tryz.func67 (by kernel_rfl) rfl
def rowD (n : Nat) (d : Nat → Int) : List Value := (List.range n).map fun v => Value.int .i64 (d v)
theorem rowD_len (n : Nat) (d : Nat → Int) : (rowD n d).length = n := by simp [rowD]
theorem rowD_at {n : Nat} (d : Nat → Int) {v : Nat} (hv : v < n) : (rowD n d)[0 + (v : Int).toNat * szN 0]? = some (.int .i64 (d v)) := by
 rw [show 0 + (v : Int).toNat * szN 0 = v by rw [show szN 0 = 1 from rfl, Int.toNat_natCast]; omega]
 simp [rowD, hv]
theorem rowD_set {n : Nat} (d : Nat → Int) (a : Nat) (x : Int) : (rowD n d).set (0 + (a : Int).toNat * szN 0) (.int .i64 x) = rowD n (fun v => if v = a then x else d v) := by
 rw [show 0 + (a : Int).toNat * szN 0 = a by rw [show szN 0 = 1 from rfl, Int.toNat_natCast]; omega]
 apply List.ext_getElem?
 intro i
 rw [List.getElem?_set]
 simp only [rowD, List.getElem?_map, List.length_map, List.length_range]
 by_cases hi : i < n
 · rw [List.getElem?_range hi]
   by_cases e : a = i
   · subst e
     simp [hi]
   · rw [if_neg e]
     simp [show ¬ i = a from fun q => e q.symm]
 · rw [List.getElem?_eq_none (by simpa using hi)]
   by_cases e : a = i
   · subst e
     simp [hi]
   · rw [if_neg e]
     rfl
theorem upd_set {b : Nat} {cs cs' : List Value} {t : TypeId} {φ : HP} {r : Hp} (h : cs = cs') : Upd b (cel cs t) ((b, true, φ) :: r) ((b, true, cel cs' t) :: r) := h ▸ Upd.head
theorem rowD_congr {n : Nat} {d e : Nat → Int} (h : ∀ v, v < n → d v = e v) : rowD n d = rowD n e := List.map_congr_left fun v hv => by rw [h v (List.mem_range.1 hv)]
theorem rowD_zero (n : Nat) : List.replicate n (Value.int .i64 0) = rowD n fun v => if v < 0 then 1000000 else 0 := by
 apply List.ext_getElem
 · simp [rowD]
 · intro i h1 h2
   simp [rowD]
def InN (d : Nat → Int) : Prop := ∀ v, 0 ≤ d v ∧ d v ≤ 1000000
theorem InN.relax {d : Nat → Int} (h : InN d) {e : Edge3} (he : 0 ≤ e.2.2) : InN (relax d e) := fun v => by
 have h1 := h e.1
 have h2 := h e.2.1
 have h3 := h v
 unfold Go.Proofs.YtommeljlfkmpjaaGreatDoor.relax
 split
 · split <;> omega
 · split
   · split <;> omega
   · exact h3
theorem InN.round {d : Nat → Int} (h : InN d) : ∀ {es : List Edge3}, (∀ e ∈ es, 0 ≤ e.2.2) → InN (roundB es d)
 | [], _ => h
 | e :: es, he => (h.relax (he e List.mem_cons_self)).round (es := es) fun q hq => he q (List.mem_cons_of_mem _ hq)
theorem InN.rounds {d : Nat → Int} (h : InN d) {es : List Edge3} (he : ∀ e ∈ es, 0 ≤ e.2.2) : ∀ k, InN (roundsB es d k)
 | 0 => h
 | k + 1 => (h.rounds he k).round he
theorem InN.start (r : Nat) : InN (startB 1000000 r) := fun v => by unfold startB; split <;> omega
theorem relax_two (d : Nat → Int) (a b : Nat) (l : Int) (hne : a ≠ b) : (fun v => if v = b then (if d a + l < d b then d a + l else d b) else if v = a then (if d b + l < d a then d b + l else d a) else d v) = relax d (a, b, l) := by
 funext v
 unfold relax
 by_cases h1 : v = a
 · subst h1
   simp [hne]
 · by_cases h2 : v = b
   · subst h2
     simp [h1]
   · simp [h1, h2]
theorem edges_at {gs : List GatT} {l : List Int} (hl : l.length = gs.length) (i : Nat) (hi : i < gs.length) : (edgesL gs l)[i]? = some (edgeL (gs.getD i zGat) (l.getD i 0)) := by
 unfold edgesL
 rw [List.getElem?_zipWith, List.getElem?_eq_getElem hi, List.getElem?_eq_getElem (by omega)]
 simp [List.getD_eq_getElem?_getD, List.getElem?_eq_getElem hi, List.getElem?_eq_getElem (show i < l.length by omega)]
theorem edges_len {gs : List GatT} {l : List Int} (hl : l.length = gs.length) : (edgesL gs l).length = gs.length := by simp [edgesL, hl]
theorem roundB_take (es : List Edge3) (d : Nat → Int) (i : Nat) (e : Edge3) (h : es[i]? = some e) : roundB (es.take (i + 1)) d = relax (roundB (es.take i) d) e := by
 unfold roundB
 rw [List.take_add_one, h, List.foldl_append]
 rfl
set_option maxHeartbeats 40000000 in
theorem far_calls (n : Nat) (E : Int) (A B Dl : Option Addr) (c m c2 cd : Nat) (gs : List GatT) (l : List Int) (room : Nat) (w : World) (hn : 1 ≤ n ∧ n ≤ 6) (hG : GatesR n gs) (hl : okD gs l) (hA : RowOf gatV 4 zGat w A gs) (hD : IntsAt w Dl l) (hr : room < n) :
   Calls Tryz.prog 69 #[.agg (scnV n A gs.length c E B m c2).toArray, .slice Dl l.length cd, .int .i64 (room : Int)] w fun e w' => ∃ b, e = .returned (.slice (some ⟨b, 0, none⟩) n n) ∧ WOK w XNone [(b, true, cel (rowD n (roundsB (edgesL gs l) (startB 1000000 room) n)) 3)] w' := by
 have hll := okD_len hl
 have hes : ∀ e ∈ edgesL gs l, 0 ≤ e.2.2 := okD_pos hl fun g hg => (hG.ok g hg).2.2.2.1
 have hl60 : ∀ i, i < gs.length → 0 ≤ l.getD i 0 ∧ l.getD i 0 ≤ 60 := fun i hi => by
   have h1 := okD_at hl i hi
   have h2 := hG.ok _ (getD_mem gs zGat i hi)
   omega
 have hg6 := hG.len
 refine x_calls (X := XNone) Tryz.func69 rfl rfl rfl ?_
 with_reducible ((repeat refine xc_seq ?_); refine xcR ?_)
 refine xo_box rfl rfl rfl rfl (fun b3 => ?_)
 refine xo_asg rfl rfl rfl ?_
 with_reducible (refine xo_nil ?_; (repeat (first | refine xqT ?_ | refine xqB ?_ | refine xqS ?_)); (repeat refine xc_seq ?_); refine xcR ?_)
 refine xo_fa T_ rfl rfl rfl rfl rfl ?_
 refine xo_load0 T_ rfl rfl rfl (by repeat first | exact memH | apply memT | apply memA) rfl rfl ?_
 refine xo_mks TR_ (m := n) rfl rfl rfl rfl rfl rfl (by omega) (by omega) rfl (fun b7 => ?_)
 refine xo_asg rfl rfl rfl ?_
 with_reducible (refine xo_nil ?_; (repeat (first | refine xqT ?_ | refine xqB ?_ | refine xqS ?_)); (repeat refine xc_seq ?_); refine xcR ?_)
 refine xo_asg rfl rfl rfl ?_
 with_reducible (refine xo_nil ?_; (repeat (first | refine xqT ?_ | refine xqB ?_ | refine xqS ?_)))
 rw [rowD_zero]
 with_reducible ((repeat refine xc_seq ?_); refine xc_block ?_)
 refine xc_loop (γ := Nat) (fun k => k ≤ n) (fun k => [(1, .slice Dl l.length cd), (2, .int .i64 (room : Int)), (3, .pointer (some ⟨b3, 0, none⟩)), (7, .slice (some ⟨b7, 0, none⟩) n n), (8, .int .i64 (k : Int))])
   (fun k => [(b7, true, cel (rowD n fun v => if v < k then 1000000 else 0) 3), (b3, true, cel (scnV n A gs.length c E B m c2) 25)]) (fun k => n - k) 0 (Nat.zero_le _) ⟨rfl, rfl, rfl, rfl, rfl, trivial⟩ (List.Sublist.refl _) ?_
 intro k hk
 with_reducible ((repeat refine xc_seq ?_); refine xcR ?_)
 refine xo_mv rfl rfl rfl ?_
 refine xo_mv rfl rfl rfl ?_
 refine xo_len T_ rfl rfl rfl rfl ?_
 refine xo_lss rfl rfl rfl rfl ?_
 with_reducible (refine xo_nil ?_; (repeat (first | refine xqT ?_ | refine xqB ?_ | refine xqS ?_)); (repeat refine xc_seq ?_))
 refine xc_cond rfl (fun h => ?_) (fun h => ?_)
 · have hlt : k < n := by have := of_decide_eq_true h; omega
   with_reducible (refine xc_skip ?_; (repeat (first | refine xqT ?_ | refine xqB ?_ | refine xqS ?_)); (repeat refine xc_seq ?_); refine xc_block ?_; (repeat refine xc_seq ?_); refine xcR ?_)
   refine xo_mv rfl rfl rfl ?_
   refine xo_mv rfl rfl rfl ?_
   refine xo_ia T_ rfl rfl rfl rfl rfl ⟨by omega, by omega⟩ rfl ?_
   refine xo_storeI T_ (o := 0) (k := (k : Int).toNat * szN 0) (η' := [(b7, true, cel (rowD n fun v => if v < k + 1 then 1000000 else 0) 3), (b3, true, cel (scnV n A gs.length c E B m c2) 25)]) rfl rfl rfl rfl (List.Mem.head _) rfl rfl (by rw [rowD_len, show szN 0 = 1 from rfl, Int.toNat_natCast]; omega) (by rw [rowD_set, rowD_congr (e := fun v => if v < k + 1 then 1000000 else 0) (fun v hv => by (repeat' split) <;> omega)]; exact Upd.head) rfl ?_
   with_reducible (refine xo_nil ?_; (repeat (first | refine xqT ?_ | refine xqB ?_ | refine xqS ?_)); (repeat refine xc_seq ?_); refine xcR ?_)
   refine xo_mv rfl rfl rfl ?_
   refine xo_add rfl rfl rfl (by omega) rfl ?_
   refine xo_asg rfl rfl rfl ?_
   with_reducible (refine xo_nil ?_; (repeat (first | refine xqT ?_ | refine xqB ?_ | refine xqS ?_)))
   exact xq_again _ _ _ _ _ (k + 1) (by omega) (by omega) ⟨rfl, rfl, rfl, rfl, rfl, trivial⟩ (List.Sublist.refl _)
 have hge : k = n := by have := of_decide_eq_false h; omega
 subst hge
 with_reducible (refine xc_exit ?_; (repeat (first | refine xq_blockX ?_ | refine xq_thenE ?_ | refine xq_blockE rfl ?_ | refine xq_scopeE ?_)); (repeat (first | refine xqT ?_ | refine xqB ?_ | refine xqS ?_)); (repeat refine xc_seq ?_); refine xcR ?_)
 refine xo_mv rfl rfl rfl ?_
 refine xo_mv rfl rfl rfl ?_
 refine xo_ia T_ rfl rfl rfl rfl rfl ⟨by omega, by omega⟩ rfl ?_
 refine xo_storeI T_ (o := 0) (k := (room : Int).toNat * szN 0) (η' := [(b7, true, cel (rowD k (startB 1000000 room)) 3), (b3, true, cel (scnV k A gs.length c E B m c2) 25)]) rfl rfl rfl rfl (List.Mem.head _) rfl rfl (by rw [rowD_len, show szN 0 = 1 from rfl, Int.toNat_natCast]; omega) (by rw [rowD_set, rowD_congr (e := startB 1000000 room) (fun v hv => by unfold startB; (repeat' split) <;> omega)]; exact Upd.head) rfl ?_
 with_reducible (refine xo_nil ?_; (repeat (first | refine xqT ?_ | refine xqB ?_ | refine xqS ?_)); (repeat refine xc_seq ?_); refine xcR ?_)
 refine xo_asg rfl rfl rfl ?_
 with_reducible (refine xo_nil ?_; (repeat (first | refine xqT ?_ | refine xqB ?_ | refine xqS ?_)); (repeat refine xc_seq ?_); refine xc_block ?_)
 refine xc_loop (γ := Nat) (fun q => q ≤ k) (fun q => [(1, .slice Dl l.length cd), (3, .pointer (some ⟨b3, 0, none⟩)), (7, .slice (some ⟨b7, 0, none⟩) k k), (9, .int .i64 (q : Int))])
   (fun q => [(b7, true, cel (rowD k (roundsB (edgesL gs l) (startB 1000000 room) q)) 3), (b3, true, cel (scnV k A gs.length c E B m c2) 25)]) (fun q => k - q) 0 (Nat.zero_le _) ⟨rfl, rfl, rfl, rfl, trivial⟩ (List.Sublist.refl _) ?_
 intro q hq
 with_reducible ((repeat refine xc_seq ?_); refine xcR ?_)
 refine xo_mv rfl rfl rfl ?_
 refine xo_fa T_ rfl rfl rfl rfl rfl ?_
 refine xo_load0 T_ rfl rfl rfl (by repeat first | exact memH | apply memT | apply memA) rfl rfl ?_
 refine xo_lss rfl rfl rfl rfl ?_
 with_reducible (refine xo_nil ?_; (repeat (first | refine xqT ?_ | refine xqB ?_ | refine xqS ?_)); (repeat refine xc_seq ?_))
 refine xc_cond rfl (fun h => ?_) (fun h => ?_)
 · have hlt : q < k := by have := of_decide_eq_true h; omega
   have hIn := (InN.start room).rounds hes q
   have hnext : roundsB (edgesL gs l) (startB 1000000 room) (q + 1) = roundB (edgesL gs l) (roundsB (edgesL gs l) (startB 1000000 room) q) := rfl
   generalize roundsB (edgesL gs l) (startB 1000000 room) q = d0 at hIn hnext
   with_reducible (refine xc_skip ?_; (repeat (first | refine xqT ?_ | refine xqB ?_ | refine xqS ?_)); (repeat refine xc_seq ?_); refine xc_block ?_; (repeat refine xc_seq ?_); refine xcR ?_)
   refine xo_asg rfl rfl rfl ?_
   with_reducible (refine xo_nil ?_; (repeat (first | refine xqT ?_ | refine xqB ?_ | refine xqS ?_)); (repeat refine xc_seq ?_); refine xc_block ?_)
   refine xc_loop (γ := Nat) (fun i => i ≤ gs.length) (fun i => [(1, .slice Dl l.length cd), (3, .pointer (some ⟨b3, 0, none⟩)), (7, .slice (some ⟨b7, 0, none⟩) k k), (9, .int .i64 (q : Int)), (10, .int .i64 (i : Int))])
     (fun i => [(b7, true, cel (rowD k (roundB ((edgesL gs l).take i) d0)) 3), (b3, true, cel (scnV k A gs.length c E B m c2) 25)]) (fun i => gs.length - i) 0 (Nat.zero_le _) ⟨rfl, rfl, rfl, rfl, rfl, trivial⟩ (List.Sublist.refl _) ?_
   intro i hi
   with_reducible ((repeat refine xc_seq ?_); refine xcR ?_)
   refine xo_mv rfl rfl rfl ?_
   refine xo_fa T_ rfl rfl rfl rfl rfl ?_
   refine xo_load0 T_ rfl rfl rfl (by repeat first | exact memH | apply memT | apply memA) rfl rfl ?_
   refine xo_len T_ rfl rfl rfl rfl ?_
   refine xo_lss rfl rfl rfl rfl ?_
   with_reducible (refine xo_nil ?_; (repeat (first | refine xqT ?_ | refine xqB ?_ | refine xqS ?_)); (repeat refine xc_seq ?_))
   refine xc_cond rfl (fun h => ?_) (fun h => ?_)
   · have hlti : i < gs.length := by have := of_decide_eq_true h; omega
     obtain ⟨ad, rfl, q1⟩ := hA i hlti
     obtain ⟨adl, rfl, q2⟩ := hD i (by omega)
     have hgo := hG.ok _ (getD_mem gs zGat i hlti)
     have hli := hl60 i hlti
     have hst := roundB_take (edgesL gs l) d0 i _ (edges_at hll i hlti)
     have hdI : InN (roundB ((edgesL gs l).take i) d0) := hIn.round fun e he => hes e (List.mem_of_mem_take he)
     generalize roundB ((edgesL gs l).take i) d0 = d at hst hdI
     generalize gs.getD i zGat = g at q1 hgo hst
     generalize l.getD i 0 = x at q2 hli hst
     obtain ⟨g0, g1, g2⟩ := g
     simp only at hgo
     obtain ⟨a, rfl⟩ : ∃ a : Nat, g0 = a := ⟨g0.toNat, by omega⟩
     obtain ⟨b, rfl⟩ : ∃ b : Nat, g1 = b := ⟨g1.toNat, by omega⟩
     have ha : a < k := by omega
     have hb : b < k := by omega
     have hne : a ≠ b := by omega
     have hst : roundB ((edgesL gs l).take (i + 1)) d0 = relax d (a, b, x) := hst
     have hda := hdI a
     have hdb := hdI b
     with_reducible (refine xc_skip ?_; (repeat (first | refine xqT ?_ | refine xqB ?_ | refine xqS ?_)); (repeat refine xc_seq ?_); refine xc_block ?_)
     refine xc_slots [(1, .slice (some adl) l.length cd), (3, .pointer (some ⟨b3, 0, none⟩)), (7, .slice (some ⟨b7, 0, none⟩) k k), (9, .int .i64 (q : Int)), (10, .int .i64 (i : Int))] ⟨rfl, rfl, rfl, rfl, rfl, trivial⟩ ?_
     with_reducible (repeat refine xc_seq ?_)
     apply xc_drawN
     · exact T_.mixed
     · rfl
     · rfl
     · rfl
     · rfl
     · apply DrawOps.cons
       · intro τ
         refine xo_fa T_ rfl rfl rfl rfl rfl ?_
         exact xo_fin rfl
       apply DrawOps.cons
       · intro τ
         refine xo_load0 T_ rfl rfl rfl (by repeat first | exact memH | apply memT | apply memA) rfl rfl ?_
         exact xo_fin rfl
       apply DrawOps.cons
       · intro τ
         refine xo_mv rfl rfl rfl ?_
         exact xo_fin rfl
       apply DrawOps.cons
       · intro τ
         refine xo_ia T_ rfl rfl rfl rfl rfl ⟨by omega, by omega⟩ rfl ?_
         exact xo_fin rfl
       apply DrawOps.cons
       · intro τ
         refine xo_faR T_ rfl rfl rfl rfl rfl ?_
         exact xo_fin rfl
       apply DrawOps.cons
       · intro τ
         refine xo_loadR0 T_ rfl rfl rfl (RO.fld (v := .int .i64 (a : Int)) q1 rfl) rfl ?_
         exact xo_fin rfl
       apply DrawOps.cons
       · intro τ
         refine xo_fa T_ rfl rfl rfl rfl rfl ?_
         exact xo_fin rfl
       apply DrawOps.cons
       · intro τ
         refine xo_load0 T_ rfl rfl rfl (by repeat first | exact memH | apply memT | apply memA) rfl rfl ?_
         exact xo_fin rfl
       apply DrawOps.cons
       · intro τ
         refine xo_mv rfl rfl rfl ?_
         exact xo_fin rfl
       apply DrawOps.cons
       · intro τ
         refine xo_ia T_ rfl rfl rfl rfl rfl ⟨by omega, by omega⟩ rfl ?_
         exact xo_fin rfl
       apply DrawOps.cons
       · intro τ
         refine xo_faR T_ rfl rfl rfl rfl rfl ?_
         exact xo_fin rfl
       apply DrawOps.cons
       · intro τ
         refine xo_loadR0 T_ rfl rfl rfl (RO.fld (v := .int .i64 (b : Int)) q1 rfl) rfl ?_
         exact xo_fin rfl
       apply DrawOps.cons
       · intro τ
         refine xo_asg rfl rfl rfl ?_
         exact xo_fin rfl
       apply DrawOps.cons
       · intro τ
         refine xo_asg rfl rfl rfl ?_
         exact xo_fin rfl
       exact DrawOps.nil
     · rfl
     with_reducible (repeat (first | refine xqT ?_ | refine xqB ?_ | refine xqS ?_))
     refine xc_slots [(1, .slice (some adl) l.length cd), (3, .pointer (some ⟨b3, 0, none⟩)), (7, .slice (some ⟨b7, 0, none⟩) k k), (9, .int .i64 (q : Int)), (10, .int .i64 (i : Int)), (11, .int .i64 (a : Int)), (12, .int .i64 (b : Int))] ⟨rfl, rfl, rfl, rfl, rfl, rfl, rfl, trivial⟩ ?_
     with_reducible (repeat refine xc_seq ?_)
     apply xc_drawE (fun g => []) (fun (η0 : Hp) g => match g with | [] => (η0) | a0 :: [] => ([(b7, true, cel (rowD k (fun v => if v = a then (if d b + x < d a then d b + x else d a) else d v)) 3), (b3, true, cel (scnV k (some ad) gs.length c E B m c2) 25)]) | a0 :: a1 :: _ => ([(b7, true, cel (rowD k (relax d (a, b, x))) 3), (b3, true, cel (scnV k (some ad) gs.length c E B m c2) 25)])) (fun _ => True) [0, 0, 0, 0, 0, 0, 0, 0, 0, 0, 0, 0, 0, 0, 0, 0, 0, 0, 0, 0, 0, 0, 0, 0, 0, 0, 0, 0, 0, 0, 0, 0, 0, 1, 1, 2] [33, 35] [[32, 17, 0, 1, 4, 5, 6, 7, 8, 9, 10, 11, 12, 13, 14, 15, 16, 17, 21, 25, 29], [34, 31, 33, 0, 1, 2, 3, 4, 5, 6, 7, 8, 9, 10, 11, 12, 13, 14, 15, 16, 17, 18, 19, 20, 21, 22, 23, 24, 25, 26, 27, 28, 29, 30, 31, 32, 33]] (by trivial)
     apply SameLen.cons
     apply SameLen.cons
     apply SameLen.cons
     apply SameLen.cons
     apply SameLen.cons
     apply SameLen.cons
     apply SameLen.cons
     apply SameLen.cons
     apply SameLen.cons
     apply SameLen.cons
     apply SameLen.cons
     apply SameLen.cons
     apply SameLen.cons
     apply SameLen.cons
     apply SameLen.cons
     apply SameLen.cons
     apply SameLen.cons
     apply SameLen.cons
     apply SameLen.cons
     apply SameLen.cons
     apply SameLen.cons
     apply SameLen.cons
     apply SameLen.cons
     apply SameLen.cons
     apply SameLen.cons
     apply SameLen.cons
     apply SameLen.cons
     apply SameLen.cons
     apply SameLen.cons
     apply SameLen.cons
     apply SameLen.cons
     apply SameLen.cons
     apply SameLen.cons
     apply SameLen.cons
     apply SameLen.cons
     apply SameLen.cons
     exact SameLen.nil
     rotate_left 36
     case hH0 => rfl
     case hmix => exact T_.mixed
     case hbind => rfl
     case hdeps => rfl
     case hdist => rfl
     case hfresh => rfl
     case hE => rfl
     case hEn => decide
     · refine DrawE.pure 0 0 rfl (.inr (by decide)) (fun L g hg hd => Nat.zero_le _) (fun g hlo hhi hF τ => ?_) ?_
       · rcases g with _ | ⟨a0, _ | ⟨a1, _ | ⟨a2, g⟩⟩⟩ <;> first | (simp only [lenC, lenN] at hlo hhi; omega) | (refine ⟨_, rfl, ?_⟩; refine xo_mv rfl rfl rfl ?_; exact xo_fin rfl)
       refine DrawE.pure 0 0 rfl (.inr (by decide)) (fun L g hg hd => Nat.zero_le _) (fun g hlo hhi hF τ => ?_) ?_
       · rcases g with _ | ⟨a0, _ | ⟨a1, _ | ⟨a2, g⟩⟩⟩ <;> first | (simp only [lenC, lenN] at hlo hhi; omega) | (refine ⟨_, rfl, ?_⟩; refine xo_mv rfl rfl rfl ?_; exact xo_fin rfl)
       refine DrawE.pure 0 1 rfl (.inr (by decide)) (fun L g hg hd => Nat.zero_le _) (fun g hlo hhi hF τ => ?_) ?_
       · rcases g with _ | ⟨a0, _ | ⟨a1, _ | ⟨a2, g⟩⟩⟩ <;> first | (simp only [lenC, lenN] at hlo hhi; omega) | (refine ⟨_, rfl, ?_⟩; refine xo_mv rfl rfl rfl ?_; exact xo_fin rfl)
       refine DrawE.pure 0 1 rfl (.inr (by decide)) (fun L g hg hd => Nat.zero_le _) (fun g hlo hhi hF τ => ?_) ?_
       · rcases g with _ | ⟨a0, _ | ⟨a1, _ | ⟨a2, g⟩⟩⟩ <;> first | (simp only [lenC, lenN] at hlo hhi; omega) | (refine ⟨_, rfl, ?_⟩; refine xo_mv rfl rfl rfl ?_; exact xo_fin rfl)
       refine DrawE.pure 0 0 rfl (.inr (by decide)) (fun L g hg hd => Nat.zero_le _) (fun g hlo hhi hF τ => ?_) ?_
       · rcases g with _ | ⟨a0, _ | ⟨a1, _ | ⟨a2, g⟩⟩⟩ <;> first | (simp only [lenC, lenN] at hlo hhi; omega) | (refine ⟨_, rfl, ?_⟩; refine xo_mv rfl rfl rfl ?_; exact xo_fin rfl)
       refine DrawE.pure 0 0 rfl (.inr (by decide)) (fun L g hg hd => Nat.zero_le _) (fun g hlo hhi hF τ => ?_) ?_
       · rcases g with _ | ⟨a0, _ | ⟨a1, _ | ⟨a2, g⟩⟩⟩ <;> first | (simp only [lenC, lenN] at hlo hhi; omega) | (refine ⟨_, rfl, ?_⟩; refine xo_mv rfl rfl rfl ?_; exact xo_fin rfl)
       refine DrawE.pure 0 0 rfl (.inr (by decide)) (fun L g hg hd => Nat.zero_le _) (fun g hlo hhi hF τ => ?_) ?_
       · rcases g with _ | ⟨a0, _ | ⟨a1, _ | ⟨a2, g⟩⟩⟩ <;> first | (simp only [lenC, lenN] at hlo hhi; omega) | (refine ⟨_, rfl, ?_⟩; refine xo_ia T_ rfl rfl rfl rfl rfl ⟨by omega, by omega⟩ rfl ?_; exact xo_fin rfl)
       refine DrawE.pure 0 0 rfl (.inr (by decide)) (fun L g hg hd => Nat.zero_le _) (fun g hlo hhi hF τ => ?_) ?_
       · rcases g with _ | ⟨a0, _ | ⟨a1, _ | ⟨a2, g⟩⟩⟩ <;> first | (simp only [lenC, lenN] at hlo hhi; omega) | (refine ⟨_, rfl, ?_⟩; refine xo_loadI T_ (o := 0) (k := (a : Int).toNat * szN 0) (v := .int .i64 (d a)) rfl rfl rfl (List.Mem.head _) (rowD_at d ha) rfl ?_; exact xo_fin rfl)
       refine DrawE.pure 0 0 rfl (.inr (by decide)) (fun L g hg hd => Nat.zero_le _) (fun g hlo hhi hF τ => ?_) ?_
       · rcases g with _ | ⟨a0, _ | ⟨a1, _ | ⟨a2, g⟩⟩⟩ <;> first | (simp only [lenC, lenN] at hlo hhi; omega) | (refine ⟨_, rfl, ?_⟩; refine xo_mv rfl rfl rfl ?_; exact xo_fin rfl)
       refine DrawE.pure 0 0 rfl (.inr (by decide)) (fun L g hg hd => Nat.zero_le _) (fun g hlo hhi hF τ => ?_) ?_
       · rcases g with _ | ⟨a0, _ | ⟨a1, _ | ⟨a2, g⟩⟩⟩ <;> first | (simp only [lenC, lenN] at hlo hhi; omega) | (refine ⟨_, rfl, ?_⟩; refine xo_mv rfl rfl rfl ?_; exact xo_fin rfl)
       refine DrawE.pure 0 0 rfl (.inr (by decide)) (fun L g hg hd => Nat.zero_le _) (fun g hlo hhi hF τ => ?_) ?_
       · rcases g with _ | ⟨a0, _ | ⟨a1, _ | ⟨a2, g⟩⟩⟩ <;> first | (simp only [lenC, lenN] at hlo hhi; omega) | (refine ⟨_, rfl, ?_⟩; refine xo_ia T_ rfl rfl rfl rfl rfl ⟨by omega, by omega⟩ rfl ?_; exact xo_fin rfl)
       refine DrawE.pure 0 0 rfl (.inr (by decide)) (fun L g hg hd => Nat.zero_le _) (fun g hlo hhi hF τ => ?_) ?_
       · rcases g with _ | ⟨a0, _ | ⟨a1, _ | ⟨a2, g⟩⟩⟩ <;> first | (simp only [lenC, lenN] at hlo hhi; omega) | (refine ⟨_, rfl, ?_⟩; refine xo_loadI T_ (o := 0) (k := (b : Int).toNat * szN 0) (v := .int .i64 (d b)) rfl rfl rfl (List.Mem.head _) (rowD_at d hb) rfl ?_; exact xo_fin rfl)
       refine DrawE.pure 0 0 rfl (.inr (by decide)) (fun L g hg hd => Nat.zero_le _) (fun g hlo hhi hF τ => ?_) ?_
       · rcases g with _ | ⟨a0, _ | ⟨a1, _ | ⟨a2, g⟩⟩⟩ <;> first | (simp only [lenC, lenN] at hlo hhi; omega) | (refine ⟨_, rfl, ?_⟩; refine xo_mv rfl rfl rfl ?_; exact xo_fin rfl)
       refine DrawE.pure 0 0 rfl (.inr (by decide)) (fun L g hg hd => Nat.zero_le _) (fun g hlo hhi hF τ => ?_) ?_
       · rcases g with _ | ⟨a0, _ | ⟨a1, _ | ⟨a2, g⟩⟩⟩ <;> first | (simp only [lenC, lenN] at hlo hhi; omega) | (refine ⟨_, rfl, ?_⟩; refine xo_mv rfl rfl rfl ?_; exact xo_fin rfl)
       refine DrawE.pure 0 0 rfl (.inr (by decide)) (fun L g hg hd => Nat.zero_le _) (fun g hlo hhi hF τ => ?_) ?_
       · rcases g with _ | ⟨a0, _ | ⟨a1, _ | ⟨a2, g⟩⟩⟩ <;> first | (simp only [lenC, lenN] at hlo hhi; omega) | (refine ⟨_, rfl, ?_⟩; refine xo_ia T_ rfl rfl rfl rfl rfl ⟨by omega, by omega⟩ rfl ?_; exact xo_fin rfl)
       refine DrawE.pure 0 0 rfl (.inr (by decide)) (fun L g hg hd => Nat.zero_le _) (fun g hlo hhi hF τ => ?_) ?_
       · rcases g with _ | ⟨a0, _ | ⟨a1, _ | ⟨a2, g⟩⟩⟩ <;> first | (simp only [lenC, lenN] at hlo hhi; omega) | (refine ⟨_, rfl, ?_⟩; refine xo_loadR0 T_ rfl rfl rfl q2 rfl ?_; exact xo_fin rfl)
       refine DrawE.pure 0 0 rfl (.inr (by decide)) (fun L g hg hd => Nat.zero_le _) (fun g hlo hhi hF τ => ?_) ?_
       · rcases g with _ | ⟨a0, _ | ⟨a1, _ | ⟨a2, g⟩⟩⟩ <;> first | (simp only [lenC, lenN] at hlo hhi; omega) | (refine ⟨_, rfl, ?_⟩; refine xo_add rfl rfl rfl (by omega) rfl ?_; exact xo_fin rfl)
       refine DrawE.pure 0 0 rfl (.inr (by decide)) (fun L g hg hd => Nat.zero_le _) (fun g hlo hhi hF τ => ?_) ?_
       · rcases g with _ | ⟨a0, _ | ⟨a1, _ | ⟨a2, g⟩⟩⟩ <;> first | (simp only [lenC, lenN] at hlo hhi; omega) | (refine ⟨_, rfl, ?_⟩; refine xo_min rfl rfl rfl rfl ?_; exact xo_fin rfl)
       refine DrawE.pure 0 1 rfl (.inr (by decide)) (fun L g hg hd => Nat.zero_le _) (fun g hlo hhi hF τ => ?_) ?_
       · rcases g with _ | ⟨a0, _ | ⟨a1, _ | ⟨a2, g⟩⟩⟩ <;> first | (simp only [lenC, lenN] at hlo hhi; omega) | (refine ⟨_, rfl, ?_⟩; refine xo_mv rfl rfl rfl ?_; exact xo_fin rfl)
       refine DrawE.pure 0 1 rfl (.inr (by decide)) (fun L g hg hd => Nat.zero_le _) (fun g hlo hhi hF τ => ?_) ?_
       · rcases g with _ | ⟨a0, _ | ⟨a1, _ | ⟨a2, g⟩⟩⟩ <;> first | (simp only [lenC, lenN] at hlo hhi; omega) | (refine ⟨_, rfl, ?_⟩; refine xo_mv rfl rfl rfl ?_; exact xo_fin rfl)
       refine DrawE.pure 0 1 rfl (.inr (by decide)) (fun L g hg hd => Nat.zero_le _) (fun g hlo hhi hF τ => ?_) ?_
       · rcases g with _ | ⟨a0, _ | ⟨a1, _ | ⟨a2, g⟩⟩⟩ <;> first | (simp only [lenC, lenN] at hlo hhi; omega) | (refine ⟨_, rfl, ?_⟩; refine xo_ia T_ rfl rfl rfl rfl rfl ⟨by omega, by omega⟩ rfl ?_; exact xo_fin rfl)
       refine DrawE.pure 0 0 rfl (.inr (by decide)) (fun L g hg hd => Nat.zero_le _) (fun g hlo hhi hF τ => ?_) ?_
       · rcases g with _ | ⟨a0, _ | ⟨a1, _ | ⟨a2, g⟩⟩⟩ <;> first | (simp only [lenC, lenN] at hlo hhi; omega) | (refine ⟨_, rfl, ?_⟩; refine xo_loadI T_ (o := 0) (k := (b : Int).toNat * szN 0) (v := .int .i64 (d b)) rfl rfl rfl (List.Mem.head _) (rowD_at d hb) rfl ?_; exact xo_fin rfl)
       refine DrawE.pure 0 1 rfl (.inr (by decide)) (fun L g hg hd => Nat.zero_le _) (fun g hlo hhi hF τ => ?_) ?_
       · rcases g with _ | ⟨a0, _ | ⟨a1, _ | ⟨a2, g⟩⟩⟩ <;> first | (simp only [lenC, lenN] at hlo hhi; omega) | (refine ⟨_, rfl, ?_⟩; refine xo_mv rfl rfl rfl ?_; exact xo_fin rfl)
       refine DrawE.pure 0 1 rfl (.inr (by decide)) (fun L g hg hd => Nat.zero_le _) (fun g hlo hhi hF τ => ?_) ?_
       · rcases g with _ | ⟨a0, _ | ⟨a1, _ | ⟨a2, g⟩⟩⟩ <;> first | (simp only [lenC, lenN] at hlo hhi; omega) | (refine ⟨_, rfl, ?_⟩; refine xo_mv rfl rfl rfl ?_; exact xo_fin rfl)
       refine DrawE.pure 0 1 rfl (.inr (by decide)) (fun L g hg hd => Nat.zero_le _) (fun g hlo hhi hF τ => ?_) ?_
       · rcases g with _ | ⟨a0, _ | ⟨a1, _ | ⟨a2, g⟩⟩⟩ <;> first | (simp only [lenC, lenN] at hlo hhi; omega) | (refine ⟨_, rfl, ?_⟩; refine xo_ia T_ rfl rfl rfl rfl rfl ⟨by omega, by omega⟩ rfl ?_; exact xo_fin rfl)
       refine DrawE.pure 0 0 rfl (.inr (by decide)) (fun L g hg hd => Nat.zero_le _) (fun g hlo hhi hF τ => ?_) ?_
       · rcases g with _ | ⟨a0, _ | ⟨a1, _ | ⟨a2, g⟩⟩⟩ <;> first | (simp only [lenC, lenN] at hlo hhi; omega) | (refine ⟨_, rfl, ?_⟩; refine xo_loadI T_ (o := 0) (k := (a : Int).toNat * szN 0) (v := .int .i64 (d a)) rfl rfl rfl (List.Mem.head _) (rowD_at d ha) rfl ?_; exact xo_fin rfl)
       refine DrawE.pure 0 1 rfl (.inr (by decide)) (fun L g hg hd => Nat.zero_le _) (fun g hlo hhi hF τ => ?_) ?_
       · rcases g with _ | ⟨a0, _ | ⟨a1, _ | ⟨a2, g⟩⟩⟩ <;> first | (simp only [lenC, lenN] at hlo hhi; omega) | (refine ⟨_, rfl, ?_⟩; refine xo_mv rfl rfl rfl ?_; exact xo_fin rfl)
       refine DrawE.pure 0 1 rfl (.inr (by decide)) (fun L g hg hd => Nat.zero_le _) (fun g hlo hhi hF τ => ?_) ?_
       · rcases g with _ | ⟨a0, _ | ⟨a1, _ | ⟨a2, g⟩⟩⟩ <;> first | (simp only [lenC, lenN] at hlo hhi; omega) | (refine ⟨_, rfl, ?_⟩; refine xo_mv rfl rfl rfl ?_; exact xo_fin rfl)
       refine DrawE.pure 0 1 rfl (.inr (by decide)) (fun L g hg hd => Nat.zero_le _) (fun g hlo hhi hF τ => ?_) ?_
       · rcases g with _ | ⟨a0, _ | ⟨a1, _ | ⟨a2, g⟩⟩⟩ <;> first | (simp only [lenC, lenN] at hlo hhi; omega) | (refine ⟨_, rfl, ?_⟩; refine xo_ia T_ rfl rfl rfl rfl rfl ⟨by omega, by omega⟩ rfl ?_; exact xo_fin rfl)
       refine DrawE.pure 0 0 rfl (.inr (by decide)) (fun L g hg hd => Nat.zero_le _) (fun g hlo hhi hF τ => ?_) ?_
       · rcases g with _ | ⟨a0, _ | ⟨a1, _ | ⟨a2, g⟩⟩⟩ <;> first | (simp only [lenC, lenN] at hlo hhi; omega) | (refine ⟨_, rfl, ?_⟩; refine xo_loadR0 T_ rfl rfl rfl q2 rfl ?_; exact xo_fin rfl)
       refine DrawE.pure 0 1 rfl (.inr (by decide)) (fun L g hg hd => Nat.zero_le _) (fun g hlo hhi hF τ => ?_) ?_
       · rcases g with _ | ⟨a0, _ | ⟨a1, _ | ⟨a2, g⟩⟩⟩ <;> first | (simp only [lenC, lenN] at hlo hhi; omega) | (refine ⟨_, rfl, ?_⟩; refine xo_add rfl rfl rfl (by omega) rfl ?_; exact xo_fin rfl)
       refine DrawE.pure 0 1 rfl (.inr (by decide)) (fun L g hg hd => Nat.zero_le _) (fun g hlo hhi hF τ => ?_) ?_
       · rcases g with _ | ⟨a0, _ | ⟨a1, _ | ⟨a2, g⟩⟩⟩ <;> first | (simp only [lenC, lenN] at hlo hhi; omega) | (refine ⟨_, rfl, ?_⟩; refine xo_min rfl rfl rfl rfl ?_; exact xo_fin rfl)
       refine DrawE.pure 0 0 rfl (.inr (by decide)) (fun L g hg hd => Nat.zero_le _) (fun g hlo hhi hF τ => ?_) ?_
       · rcases g with _ | ⟨a0, _ | ⟨a1, _ | ⟨a2, g⟩⟩⟩ <;> first | (simp only [lenC, lenN] at hlo hhi; omega) | (refine ⟨_, rfl, ?_⟩; refine xo_ia T_ rfl rfl rfl rfl rfl ⟨by omega, by omega⟩ rfl ?_; exact xo_fin rfl)
       refine DrawE.eff 0 rfl (by decide) rfl (fun j hj => hj) (fun j g a hj => ?_) (fun L g hg hd => Nat.zero_le _) (fun g hgl hF τ => ?_) ?_
       · rcases j with _ | _ | _ | _ | _ | _ | _ | _ | _ | _ | _ | _ | _ | _ | _ | _ | _ | _ | _ | _ | _ | _ | _ | _ | _ | _ | _ | _ | _ | _ | _ | _ | _ | _ | _ | _ | j
         all_goals first | rfl | (rcases g with _ | ⟨a0, _ | ⟨a1, _ | ⟨a2, g⟩⟩⟩ <;> first | rfl | exact absurd hj (by decide) | exact absurd hj (by simp [List.getD]))
       · obtain rfl : g = [] := by
           rcases g with _ | ⟨a0, g⟩ <;> first | rfl | (exfalso; simp only [List.length_cons, List.length_nil] at hgl; omega)
         refine xo_storeI T_ (o := 0) (k := (a : Int).toNat * szN 0) (η' := [(b7, true, cel (rowD k (fun v => if v = a then (if d b + x < d a then d b + x else d a) else d v)) 3), (b3, true, cel (scnV k (some ad) gs.length c E B m c2) 25)]) rfl rfl rfl rfl (List.Mem.head _) rfl rfl (by rw [rowD_len, show szN 0 = 1 from rfl, Int.toNat_natCast]; omega) (upd_set (rowD_set d a (if d b + x < d a then d b + x else d a))) rfl ?_
         exact xo_finE ⟨0, 0, none⟩ rfl trivial
       refine DrawE.pure 1 1 rfl (.inr (by decide)) (fun L g hg hd => hg.2.1 33 (hd 33 (by decide))) (fun g hlo hhi hF τ => ?_) ?_
       · rcases g with _ | ⟨a0, _ | ⟨a1, _ | ⟨a2, g⟩⟩⟩ <;> first | (simp only [lenC, lenN] at hlo hhi; omega) | (refine ⟨_, rfl, ?_⟩; refine xo_ia T_ rfl rfl rfl rfl rfl ⟨by omega, by omega⟩ rfl ?_; exact xo_fin rfl)
       refine DrawE.eff 1 rfl (by decide) rfl (fun j hj => hj) (fun j g a hj => ?_) (fun L g hg hd => hg.2.1 34 (hd 34 (by decide))) (fun g hgl hF τ => ?_) ?_
       · rcases j with _ | _ | _ | _ | _ | _ | _ | _ | _ | _ | _ | _ | _ | _ | _ | _ | _ | _ | _ | _ | _ | _ | _ | _ | _ | _ | _ | _ | _ | _ | _ | _ | _ | _ | _ | _ | j
         all_goals first | rfl | (rcases g with _ | ⟨a0, _ | ⟨a1, _ | ⟨a2, g⟩⟩⟩ <;> first | rfl | exact absurd hj (by decide) | exact absurd hj (by simp [List.getD]))
       · obtain ⟨a0, rfl⟩ : ∃ a0, g = [a0] := by
           rcases g with _ | ⟨a0, _ | ⟨a1, _ | ⟨a2, g⟩⟩⟩ <;> first | exact ⟨_, rfl⟩ | rfl | (exfalso; simp only [List.length_cons, List.length_nil] at hgl; omega)
         refine xo_storeI T_ (o := 0) (k := (b : Int).toNat * szN 0) (η' := [(b7, true, cel (rowD k (relax d (a, b, x))) 3), (b3, true, cel (scnV k (some ad) gs.length c E B m c2) 25)]) rfl rfl rfl rfl (List.Mem.head _) rfl rfl (by rw [rowD_len, show szN 0 = 1 from rfl, Int.toNat_natCast]; omega) (upd_set ((rowD_set (fun v => if v = a then (if d b + x < d a then d b + x else d a) else d v) b (if d a + x < d b then d a + x else d b)).trans (by rw [relax_two d a b x hne]))) rfl ?_
         exact xo_finE ⟨0, 0, none⟩ rfl trivial
       exact DrawE.nil
     intro g hgl hF
     obtain ⟨a0, a1, rfl⟩ : ∃ a0 a1, g = [a0, a1] := by
       rcases g with _ | ⟨a0, _ | ⟨a1, _ | ⟨a2, g⟩⟩⟩ <;> first | exact ⟨_, _, rfl⟩ | (exfalso; simp only [List.length_cons, List.length_nil] at hgl; omega)
     with_reducible (repeat (first | refine xqT ?_ | refine xqB ?_ | refine xqS ?_))
     refine xc_slots [(1, .slice (some adl) l.length cd), (3, .pointer (some ⟨b3, 0, none⟩)), (7, .slice (some ⟨b7, 0, none⟩) k k), (9, .int .i64 (q : Int)), (10, .int .i64 (i : Int))] ⟨rfl, rfl, rfl, rfl, rfl, trivial⟩ ?_
     with_reducible ((repeat refine xc_seq ?_); refine xcR ?_)
     refine xo_mv rfl rfl rfl ?_
     refine xo_add rfl rfl rfl (by omega) rfl ?_
     refine xo_asg rfl rfl rfl ?_
     with_reducible (refine xo_nil ?_; (repeat (first | refine xqT ?_ | refine xqB ?_ | refine xqS ?_)))
     exact xq_again _ _ _ _ _ (i + 1) (by omega) (by omega) ⟨rfl, rfl, rfl, rfl, rfl, trivial⟩ (by rw [hst]; exact List.Sublist.refl _)
   have hgei : i = gs.length := by have := of_decide_eq_false h; omega
   subst hgei
   rw [List.take_of_length_le (by rw [edges_len hll]; exact Nat.le_refl _), ← hnext]
   with_reducible (refine xc_exit ?_; (repeat (first | refine xq_blockX ?_ | refine xq_thenE ?_ | refine xq_blockE rfl ?_ | refine xq_scopeE ?_)); (repeat (first | refine xqT ?_ | refine xqB ?_ | refine xqS ?_)); (repeat refine xc_seq ?_); refine xcR ?_)
   refine xo_mv rfl rfl rfl ?_
   refine xo_add rfl rfl rfl (by omega) rfl ?_
   refine xo_asg rfl rfl rfl ?_
   with_reducible (refine xo_nil ?_; (repeat (first | refine xqT ?_ | refine xqB ?_ | refine xqS ?_)))
   exact xq_again _ _ _ _ _ (q + 1) (by omega) (by omega) ⟨rfl, rfl, rfl, rfl, trivial⟩ (List.Sublist.refl _)
 have hge : q = k := by have := of_decide_eq_false h; omega
 subst hge
 with_reducible (refine xc_exit ?_; (repeat (first | refine xq_blockX ?_ | refine xq_thenE ?_ | refine xq_blockE rfl ?_ | refine xq_scopeE ?_)); (repeat (first | refine xqT ?_ | refine xqB ?_ | refine xqS ?_)); (repeat refine xc_seq ?_); refine xcR ?_)
 refine xo_mv rfl rfl rfl ?_
 refine xo_asg rfl rfl rfl ?_
 with_reducible (refine xo_nil ?_; (repeat (first | refine xqT ?_ | refine xqB ?_ | refine xqS ?_)); (repeat refine xc_seq ?_); refine xc_ret ?_; (repeat (first | refine xq_thenR ?_ | refine xq_blockR ?_ | refine xq_scopeR ?_)))
 exact xq_ret1 rfl rfl fun w' hw => ⟨b7, rfl, hw.sub (List.Sublist.cons_cons _ (List.nil_sublist _))⟩
theorem far_enters : ∀ args w, (callFunc 69 args).run Tryz.prog w = .ok (.enter 69 args) w := enters_of Tryz.func69 (by kernel_rfl) rfl
def noneS : SpaT := ⟨1, 0⟩
/-- what a mark leaves, by how far rooms are -/
def windowV (E x y : Int) (m : MarT) : SpaT :=
 if m.f1 = 1 then (if x < 1000000 then ⟨m.f4.f0 - x, m.f4.f1 - x⟩ else noneS)
 else if m.f1 = 2 then (if x < 1000000 then ⟨m.f4.f0 + 1 - x, E⟩ else ⟨0, E⟩)
 else if m.f1 = 3 then (if x < 1000000 then ⟨0, m.f4.f1 - x⟩ else noneS)
 else if m.f1 = 4 then (if x < 1000000 then ⟨0, E - m.f5 - x⟩ else noneS)
 else if m.f1 = 5 then (if x < 1000000 then ⟨E - m.f5 + 1 - x, E⟩ else ⟨0, E⟩)
 else if m.f1 = 6 then (if x < 1000000 ∧ x < y then ⟨0, E⟩ else noneS)
 else noneS
def windowF (E : Int) (d : Nat → Int) (m : MarT) : SpaT := windowV E (d m.f2.toNat) (d m.f3.toNat) m
abbrev IntsD (w : World) (A : Option Addr) (n : Nat) (d : Nat → Int) : Prop := IntsAt w A ((List.range n).map d)
theorem intsD_at {w : World} {A : Option Addr} {n : Nat} {d : Nat → Int} (h : IntsD w A n d) {v : Nat} (hv : v < n) : ∃ ad, A = some ad ∧ RO w XNone (ad.add ((v : Int).toNat * szN 0)) [.int .i64 (d v)] := by
 obtain ⟨ad, e, q⟩ := h v (by simpa using hv)
 refine ⟨ad, e, ?_⟩
 have : ((List.range n).map d).getD v 0 = d v := by simp [List.getD_eq_getElem?_getD, hv]
 rwa [this] at q
/-- a mark's rooms -/
structure MarkR (n : Nat) (m : MarT) : Prop where
 ok : MarkOK m
 room : 0 ≤ m.f2 ∧ m.f2 < n
 other : 0 ≤ m.f3 ∧ m.f3 < n
set_option maxHeartbeats 8000000 in
theorem window_calls (n : Nat) (E : Int) (A B D : Option Addr) (ng c nm c2 cd : Nat) (d : Nat → Int) (m : MarT) (w : World) (hn : 1 ≤ n ∧ n ≤ 6) (hE : 0 ≤ E ∧ E ≤ 600) (hm : MarkR n m) (hd : InN d) (hD : IntsD w D n d) :
   Calls Tryz.prog 83 #[.agg (scnV n A ng c E B nm c2).toArray, .agg (marV m).toArray, .slice D n cd] w fun e w' => e = .returned (.agg (spaV (windowF E d m)).toArray) ∧ Below w.heap.size w w' := by
 obtain ⟨⟨hk, hb, ho, hlo, hhi, hlong⟩, hroom, hother⟩ := hm
 obtain ⟨ad, rfl, q1⟩ := intsD_at hD (v := m.f2.toNat) (by omega)
 obtain ⟨ad2, e2, q2⟩ := intsD_at hD (v := m.f3.toNat) (by omega)
 cases e2
 rw [Int.toNat_natCast] at q1 q2
 have hdr := hd m.f2.toNat
 unfold windowF
 generalize d m.f2.toNat = x at q1 hdr ⊢
 generalize d m.f3.toNat = y at q2 ⊢
 unfold windowV
 refine x_calls (X := XNone) Tryz.func83 rfl rfl rfl ?_
 with_reducible ((repeat refine xc_seq ?_); refine xcR ?_)
 refine xo_box rfl rfl rfl rfl (fun b3 => ?_)
 refine xo_box rfl rfl rfl rfl (fun b4 => ?_)
 refine xo_alloc T_ rfl rfl rfl rfl (fun b6 => ?_)
 with_reducible (refine xo_nil ?_; (repeat (first | refine xqT ?_ | refine xqB ?_ | refine xqS ?_)); (repeat refine xc_seq ?_); refine xcR ?_)
 refine xo_fa T_ rfl rfl rfl rfl rfl ?_
 refine xo_load0 T_ rfl rfl rfl (by repeat first | exact memH | apply memT | apply memA) rfl rfl ?_
 refine xo_build TB_ rfl rfl rfl rfl rfl ?_
 refine xo_build TB_ rfl rfl rfl rfl rfl ?_
 refine xo_alloc T_ rfl rfl rfl rfl (fun b7 => ?_)
 refine xo_alloc T_ rfl rfl rfl rfl (fun b8 => ?_)
 refine xo_store T_ rfl rfl rfl rfl (by repeat first | exact memH | apply memT | apply memA) rfl rfl rfl rfl (by repeat (first | exact Upd.head | apply Upd.tail | apply Upd.app)) rfl ?_
 refine xo_store T_ rfl rfl rfl rfl (by repeat first | exact memH | apply memT | apply memA) rfl rfl rfl rfl (by repeat (first | exact Upd.head | apply Upd.tail | apply Upd.app)) rfl ?_
 with_reducible (refine xo_nil ?_; (repeat (first | refine xqT ?_ | refine xqB ?_ | refine xqS ?_)); (repeat refine xc_seq ?_); refine xcR ?_)
 refine xo_mv rfl rfl rfl ?_
 refine xo_fa T_ rfl rfl rfl rfl rfl ?_
 refine xo_load0 T_ rfl rfl rfl (by repeat first | exact memH | apply memT | apply memA) rfl rfl ?_
 refine xo_ia T_ (i := m.f2) rfl rfl rfl rfl rfl ⟨by omega, by omega⟩ rfl ?_
 refine xo_loadR0 T_ rfl rfl rfl q1 rfl ?_
 refine xo_asg rfl rfl rfl ?_
 with_reducible (refine xo_nil ?_; (repeat (first | refine xqT ?_ | refine xqB ?_ | refine xqS ?_)))
 have hcase : m.f1 = 1 ∨ m.f1 = 2 ∨ m.f1 = 3 ∨ m.f1 = 4 ∨ m.f1 = 5 ∨ m.f1 = 6 := by omega
 cases hc : decide (x < 1000000)
 · have hx : ¬ x < 1000000 := of_decide_eq_false hc
   with_reducible ((repeat refine xc_seq ?_); refine xcR ?_)
   refine xo_mv rfl rfl rfl ?_
   refine xo_lss rfl rfl rfl rfl ?_
   refine xo_asg rfl rfl rfl ?_
   refine xo_as (i := 10) rfl (congrArg Value.bool hc) ?_
   with_reducible (refine xo_nil ?_; (repeat (first | refine xqT ?_ | refine xqB ?_ | refine xqS ?_)); (repeat refine xc_seq ?_); refine xcR ?_)
   refine xo_fa T_ rfl rfl rfl rfl rfl ?_
   refine xo_load0 T_ rfl rfl rfl (by repeat first | exact memH | apply memT | apply memA) rfl rfl ?_
   with_reducible (refine xo_nil ?_; (repeat (first | refine xqT ?_ | refine xqB ?_ | refine xqS ?_)); (repeat refine xc_seq ?_); refine xc_block ?_)
   rcases hcase with hk | hk | hk | hk | hk | hk
   · refine xc_slots [(2, .slice (some ad) n cd), (3, .pointer (some ⟨b3, 0, none⟩)), (4, .pointer (some ⟨b4, 0, none⟩)), (6, .pointer (some ⟨b6, 0, none⟩)), (7, .pointer (some ⟨b7, 0, none⟩)), (8, .pointer (some ⟨b8, 0, none⟩)), (9, .int .i64 x), (10, .bool false), (23, .int .u8 1)] ⟨rfl, rfl, rfl, rfl, rfl, rfl, rfl, rfl, congrArg (fun q => some (Value.int .u8 q)) hk, trivial⟩ ?_
     with_reducible ((repeat refine xc_seq ?_); refine xcR ?_)
     refine xo_eql rfl rfl rfl rfl ?_
     refine xo_asg rfl rfl rfl ?_
     with_reducible (refine xo_nil ?_; (repeat (first | refine xqT ?_ | refine xqB ?_ | refine xqS ?_)); (repeat refine xc_seq ?_))
     refine xc_condT rfl ?_
     with_reducible ((repeat refine xc_seq ?_); refine xcR ?_)
     refine xo_mv rfl rfl rfl ?_
     with_reducible (refine xo_nil ?_; (repeat (first | refine xqT ?_ | refine xqB ?_ | refine xqS ?_)); (repeat refine xc_seq ?_))
     refine xc_condF rfl ?_
     with_reducible (refine xc_skip ?_; (repeat (first | refine xqT ?_ | refine xqB ?_ | refine xqS ?_)); (repeat refine xc_seq ?_); refine xcR ?_)
     refine xo_loadN T_ rfl rfl rfl (by repeat first | exact memH | apply memT | apply memA) rfl rfl ?_
     refine xo_store T_ rfl rfl rfl rfl (by repeat first | exact memH | apply memT | apply memA) rfl rfl rfl rfl (by repeat (first | exact Upd.head | apply Upd.tail | apply Upd.app)) rfl ?_
     with_reducible (refine xo_nil ?_; (repeat (first | refine xqT ?_ | refine xqB ?_ | refine xqS ?_)); (repeat refine xc_seq ?_); refine xc_ret ?_; (repeat (first | refine xq_thenR ?_ | refine xq_blockR ?_ | refine xq_scopeR ?_)))
     exact xq_retC T_ rfl rfl rfl (by repeat first | exact memH | apply memT | apply memA) rfl fun w' hw => ⟨by rw [if_pos hk, if_neg hx]; rfl, hw.kx.below⟩
   · refine xc_slots [(2, .slice (some ad) n cd), (3, .pointer (some ⟨b3, 0, none⟩)), (4, .pointer (some ⟨b4, 0, none⟩)), (6, .pointer (some ⟨b6, 0, none⟩)), (7, .pointer (some ⟨b7, 0, none⟩)), (8, .pointer (some ⟨b8, 0, none⟩)), (9, .int .i64 x), (10, .bool false), (23, .int .u8 2)] ⟨rfl, rfl, rfl, rfl, rfl, rfl, rfl, rfl, congrArg (fun q => some (Value.int .u8 q)) hk, trivial⟩ ?_
     with_reducible ((repeat refine xc_seq ?_); refine xcR ?_)
     refine xo_eql rfl rfl rfl rfl ?_
     refine xo_asg rfl rfl rfl ?_
     with_reducible (refine xo_nil ?_; (repeat (first | refine xqT ?_ | refine xqB ?_ | refine xqS ?_)); (repeat refine xc_seq ?_))
     refine xc_condF rfl ?_
     with_reducible ((repeat refine xc_seq ?_); refine xcR ?_)
     refine xo_eql rfl rfl rfl rfl ?_
     refine xo_asg rfl rfl rfl ?_
     with_reducible (refine xo_nil ?_; (repeat (first | refine xqT ?_ | refine xqB ?_ | refine xqS ?_)); (repeat refine xc_seq ?_))
     refine xc_condT rfl ?_
     with_reducible ((repeat refine xc_seq ?_); refine xcR ?_)
     refine xo_mv rfl rfl rfl ?_
     refine xo_notOp rfl rfl rfl ?_
     with_reducible (refine xo_nil ?_; (repeat (first | refine xqT ?_ | refine xqB ?_ | refine xqS ?_)); (repeat refine xc_seq ?_))
     refine xc_condT rfl ?_
     with_reducible ((repeat refine xc_seq ?_); refine xcR ?_)
     refine xo_loadN T_ rfl rfl rfl (by repeat first | exact memH | apply memT | apply memA) rfl rfl ?_
     refine xo_store T_ rfl rfl rfl rfl (by repeat first | exact memH | apply memT | apply memA) rfl rfl rfl rfl (by repeat (first | exact Upd.head | apply Upd.tail | apply Upd.app)) rfl ?_
     with_reducible (refine xo_nil ?_; (repeat (first | refine xqT ?_ | refine xqB ?_ | refine xqS ?_)); (repeat refine xc_seq ?_); refine xc_ret ?_; (repeat (first | refine xq_thenR ?_ | refine xq_blockR ?_ | refine xq_scopeR ?_)))
     exact xq_retC T_ rfl rfl rfl (by repeat first | exact memH | apply memT | apply memA) rfl fun w' hw => ⟨by rw [if_neg (by omega), if_pos hk, if_neg hx]; rfl, hw.kx.below⟩
   · refine xc_slots [(2, .slice (some ad) n cd), (3, .pointer (some ⟨b3, 0, none⟩)), (4, .pointer (some ⟨b4, 0, none⟩)), (6, .pointer (some ⟨b6, 0, none⟩)), (7, .pointer (some ⟨b7, 0, none⟩)), (8, .pointer (some ⟨b8, 0, none⟩)), (9, .int .i64 x), (10, .bool false), (23, .int .u8 3)] ⟨rfl, rfl, rfl, rfl, rfl, rfl, rfl, rfl, congrArg (fun q => some (Value.int .u8 q)) hk, trivial⟩ ?_
     with_reducible ((repeat refine xc_seq ?_); refine xcR ?_)
     refine xo_eql rfl rfl rfl rfl ?_
     refine xo_asg rfl rfl rfl ?_
     with_reducible (refine xo_nil ?_; (repeat (first | refine xqT ?_ | refine xqB ?_ | refine xqS ?_)); (repeat refine xc_seq ?_))
     refine xc_condF rfl ?_
     with_reducible ((repeat refine xc_seq ?_); refine xcR ?_)
     refine xo_eql rfl rfl rfl rfl ?_
     refine xo_asg rfl rfl rfl ?_
     with_reducible (refine xo_nil ?_; (repeat (first | refine xqT ?_ | refine xqB ?_ | refine xqS ?_)); (repeat refine xc_seq ?_))
     refine xc_condF rfl ?_
     with_reducible ((repeat refine xc_seq ?_); refine xcR ?_)
     refine xo_eql rfl rfl rfl rfl ?_
     refine xo_asg rfl rfl rfl ?_
     with_reducible (refine xo_nil ?_; (repeat (first | refine xqT ?_ | refine xqB ?_ | refine xqS ?_)); (repeat refine xc_seq ?_))
     refine xc_condT rfl ?_
     with_reducible ((repeat refine xc_seq ?_); refine xcR ?_)
     refine xo_mv rfl rfl rfl ?_
     with_reducible (refine xo_nil ?_; (repeat (first | refine xqT ?_ | refine xqB ?_ | refine xqS ?_)); (repeat refine xc_seq ?_))
     refine xc_condF rfl ?_
     with_reducible (refine xc_skip ?_; (repeat (first | refine xqT ?_ | refine xqB ?_ | refine xqS ?_)); (repeat refine xc_seq ?_); refine xcR ?_)
     refine xo_loadN T_ rfl rfl rfl (by repeat first | exact memH | apply memT | apply memA) rfl rfl ?_
     refine xo_store T_ rfl rfl rfl rfl (by repeat first | exact memH | apply memT | apply memA) rfl rfl rfl rfl (by repeat (first | exact Upd.head | apply Upd.tail | apply Upd.app)) rfl ?_
     with_reducible (refine xo_nil ?_; (repeat (first | refine xqT ?_ | refine xqB ?_ | refine xqS ?_)); (repeat refine xc_seq ?_); refine xc_ret ?_; (repeat (first | refine xq_thenR ?_ | refine xq_blockR ?_ | refine xq_scopeR ?_)))
     exact xq_retC T_ rfl rfl rfl (by repeat first | exact memH | apply memT | apply memA) rfl fun w' hw => ⟨by rw [if_neg (by omega), if_neg (by omega), if_pos hk, if_neg hx]; rfl, hw.kx.below⟩
   · refine xc_slots [(2, .slice (some ad) n cd), (3, .pointer (some ⟨b3, 0, none⟩)), (4, .pointer (some ⟨b4, 0, none⟩)), (6, .pointer (some ⟨b6, 0, none⟩)), (7, .pointer (some ⟨b7, 0, none⟩)), (8, .pointer (some ⟨b8, 0, none⟩)), (9, .int .i64 x), (10, .bool false), (23, .int .u8 4)] ⟨rfl, rfl, rfl, rfl, rfl, rfl, rfl, rfl, congrArg (fun q => some (Value.int .u8 q)) hk, trivial⟩ ?_
     with_reducible ((repeat refine xc_seq ?_); refine xcR ?_)
     refine xo_eql rfl rfl rfl rfl ?_
     refine xo_asg rfl rfl rfl ?_
     with_reducible (refine xo_nil ?_; (repeat (first | refine xqT ?_ | refine xqB ?_ | refine xqS ?_)); (repeat refine xc_seq ?_))
     refine xc_condF rfl ?_
     with_reducible ((repeat refine xc_seq ?_); refine xcR ?_)
     refine xo_eql rfl rfl rfl rfl ?_
     refine xo_asg rfl rfl rfl ?_
     with_reducible (refine xo_nil ?_; (repeat (first | refine xqT ?_ | refine xqB ?_ | refine xqS ?_)); (repeat refine xc_seq ?_))
     refine xc_condF rfl ?_
     with_reducible ((repeat refine xc_seq ?_); refine xcR ?_)
     refine xo_eql rfl rfl rfl rfl ?_
     refine xo_asg rfl rfl rfl ?_
     with_reducible (refine xo_nil ?_; (repeat (first | refine xqT ?_ | refine xqB ?_ | refine xqS ?_)); (repeat refine xc_seq ?_))
     refine xc_condF rfl ?_
     with_reducible ((repeat refine xc_seq ?_); refine xcR ?_)
     refine xo_eql rfl rfl rfl rfl ?_
     refine xo_asg rfl rfl rfl ?_
     with_reducible (refine xo_nil ?_; (repeat (first | refine xqT ?_ | refine xqB ?_ | refine xqS ?_)); (repeat refine xc_seq ?_))
     refine xc_condT rfl ?_
     with_reducible ((repeat refine xc_seq ?_); refine xcR ?_)
     refine xo_mv rfl rfl rfl ?_
     with_reducible (refine xo_nil ?_; (repeat (first | refine xqT ?_ | refine xqB ?_ | refine xqS ?_)); (repeat refine xc_seq ?_))
     refine xc_condF rfl ?_
     with_reducible (refine xc_skip ?_; (repeat (first | refine xqT ?_ | refine xqB ?_ | refine xqS ?_)); (repeat refine xc_seq ?_); refine xcR ?_)
     refine xo_loadN T_ rfl rfl rfl (by repeat first | exact memH | apply memT | apply memA) rfl rfl ?_
     refine xo_store T_ rfl rfl rfl rfl (by repeat first | exact memH | apply memT | apply memA) rfl rfl rfl rfl (by repeat (first | exact Upd.head | apply Upd.tail | apply Upd.app)) rfl ?_
     with_reducible (refine xo_nil ?_; (repeat (first | refine xqT ?_ | refine xqB ?_ | refine xqS ?_)); (repeat refine xc_seq ?_); refine xc_ret ?_; (repeat (first | refine xq_thenR ?_ | refine xq_blockR ?_ | refine xq_scopeR ?_)))
     exact xq_retC T_ rfl rfl rfl (by repeat first | exact memH | apply memT | apply memA) rfl fun w' hw => ⟨by rw [if_neg (by omega), if_neg (by omega), if_neg (by omega), if_pos hk, if_neg hx]; rfl, hw.kx.below⟩
   · refine xc_slots [(2, .slice (some ad) n cd), (3, .pointer (some ⟨b3, 0, none⟩)), (4, .pointer (some ⟨b4, 0, none⟩)), (6, .pointer (some ⟨b6, 0, none⟩)), (7, .pointer (some ⟨b7, 0, none⟩)), (8, .pointer (some ⟨b8, 0, none⟩)), (9, .int .i64 x), (10, .bool false), (23, .int .u8 5)] ⟨rfl, rfl, rfl, rfl, rfl, rfl, rfl, rfl, congrArg (fun q => some (Value.int .u8 q)) hk, trivial⟩ ?_
     with_reducible ((repeat refine xc_seq ?_); refine xcR ?_)
     refine xo_eql rfl rfl rfl rfl ?_
     refine xo_asg rfl rfl rfl ?_
     with_reducible (refine xo_nil ?_; (repeat (first | refine xqT ?_ | refine xqB ?_ | refine xqS ?_)); (repeat refine xc_seq ?_))
     refine xc_condF rfl ?_
     with_reducible ((repeat refine xc_seq ?_); refine xcR ?_)
     refine xo_eql rfl rfl rfl rfl ?_
     refine xo_asg rfl rfl rfl ?_
     with_reducible (refine xo_nil ?_; (repeat (first | refine xqT ?_ | refine xqB ?_ | refine xqS ?_)); (repeat refine xc_seq ?_))
     refine xc_condF rfl ?_
     with_reducible ((repeat refine xc_seq ?_); refine xcR ?_)
     refine xo_eql rfl rfl rfl rfl ?_
     refine xo_asg rfl rfl rfl ?_
     with_reducible (refine xo_nil ?_; (repeat (first | refine xqT ?_ | refine xqB ?_ | refine xqS ?_)); (repeat refine xc_seq ?_))
     refine xc_condF rfl ?_
     with_reducible ((repeat refine xc_seq ?_); refine xcR ?_)
     refine xo_eql rfl rfl rfl rfl ?_
     refine xo_asg rfl rfl rfl ?_
     with_reducible (refine xo_nil ?_; (repeat (first | refine xqT ?_ | refine xqB ?_ | refine xqS ?_)); (repeat refine xc_seq ?_))
     refine xc_condF rfl ?_
     with_reducible ((repeat refine xc_seq ?_); refine xcR ?_)
     refine xo_eql rfl rfl rfl rfl ?_
     refine xo_asg rfl rfl rfl ?_
     with_reducible (refine xo_nil ?_; (repeat (first | refine xqT ?_ | refine xqB ?_ | refine xqS ?_)); (repeat refine xc_seq ?_))
     refine xc_condT rfl ?_
     with_reducible ((repeat refine xc_seq ?_); refine xcR ?_)
     refine xo_mv rfl rfl rfl ?_
     refine xo_notOp rfl rfl rfl ?_
     with_reducible (refine xo_nil ?_; (repeat (first | refine xqT ?_ | refine xqB ?_ | refine xqS ?_)); (repeat refine xc_seq ?_))
     refine xc_condT rfl ?_
     with_reducible ((repeat refine xc_seq ?_); refine xcR ?_)
     refine xo_loadN T_ rfl rfl rfl (by repeat first | exact memH | apply memT | apply memA) rfl rfl ?_
     refine xo_store T_ rfl rfl rfl rfl (by repeat first | exact memH | apply memT | apply memA) rfl rfl rfl rfl (by repeat (first | exact Upd.head | apply Upd.tail | apply Upd.app)) rfl ?_
     with_reducible (refine xo_nil ?_; (repeat (first | refine xqT ?_ | refine xqB ?_ | refine xqS ?_)); (repeat refine xc_seq ?_); refine xc_ret ?_; (repeat (first | refine xq_thenR ?_ | refine xq_blockR ?_ | refine xq_scopeR ?_)))
     exact xq_retC T_ rfl rfl rfl (by repeat first | exact memH | apply memT | apply memA) rfl fun w' hw => ⟨by rw [if_neg (by omega), if_neg (by omega), if_neg (by omega), if_neg (by omega), if_pos hk, if_neg hx]; rfl, hw.kx.below⟩
   · refine xc_slots [(2, .slice (some ad) n cd), (3, .pointer (some ⟨b3, 0, none⟩)), (4, .pointer (some ⟨b4, 0, none⟩)), (6, .pointer (some ⟨b6, 0, none⟩)), (7, .pointer (some ⟨b7, 0, none⟩)), (8, .pointer (some ⟨b8, 0, none⟩)), (9, .int .i64 x), (10, .bool false), (23, .int .u8 6)] ⟨rfl, rfl, rfl, rfl, rfl, rfl, rfl, rfl, congrArg (fun q => some (Value.int .u8 q)) hk, trivial⟩ ?_
     with_reducible ((repeat refine xc_seq ?_); refine xcR ?_)
     refine xo_eql rfl rfl rfl rfl ?_
     refine xo_asg rfl rfl rfl ?_
     with_reducible (refine xo_nil ?_; (repeat (first | refine xqT ?_ | refine xqB ?_ | refine xqS ?_)); (repeat refine xc_seq ?_))
     refine xc_condF rfl ?_
     with_reducible ((repeat refine xc_seq ?_); refine xcR ?_)
     refine xo_eql rfl rfl rfl rfl ?_
     refine xo_asg rfl rfl rfl ?_
     with_reducible (refine xo_nil ?_; (repeat (first | refine xqT ?_ | refine xqB ?_ | refine xqS ?_)); (repeat refine xc_seq ?_))
     refine xc_condF rfl ?_
     with_reducible ((repeat refine xc_seq ?_); refine xcR ?_)
     refine xo_eql rfl rfl rfl rfl ?_
     refine xo_asg rfl rfl rfl ?_
     with_reducible (refine xo_nil ?_; (repeat (first | refine xqT ?_ | refine xqB ?_ | refine xqS ?_)); (repeat refine xc_seq ?_))
     refine xc_condF rfl ?_
     with_reducible ((repeat refine xc_seq ?_); refine xcR ?_)
     refine xo_eql rfl rfl rfl rfl ?_
     refine xo_asg rfl rfl rfl ?_
     with_reducible (refine xo_nil ?_; (repeat (first | refine xqT ?_ | refine xqB ?_ | refine xqS ?_)); (repeat refine xc_seq ?_))
     refine xc_condF rfl ?_
     with_reducible ((repeat refine xc_seq ?_); refine xcR ?_)
     refine xo_eql rfl rfl rfl rfl ?_
     refine xo_asg rfl rfl rfl ?_
     with_reducible (refine xo_nil ?_; (repeat (first | refine xqT ?_ | refine xqB ?_ | refine xqS ?_)); (repeat refine xc_seq ?_))
     refine xc_condF rfl ?_
     with_reducible ((repeat refine xc_seq ?_); refine xcR ?_)
     refine xo_eql rfl rfl rfl rfl ?_
     refine xo_asg rfl rfl rfl ?_
     with_reducible (refine xo_nil ?_; (repeat (first | refine xqT ?_ | refine xqB ?_ | refine xqS ?_)); (repeat refine xc_seq ?_))
     refine xc_condT rfl ?_
     with_reducible ((repeat refine xc_seq ?_); refine xcR ?_)
     refine xo_mv rfl rfl rfl ?_
     refine xo_mv rfl rfl rfl ?_
     (first | refine xo_not rfl rfl ?_ | (refine xo_mv rfl rfl rfl ?_))
     (first | refine xo_not rfl rfl ?_ | (refine xo_mv rfl rfl rfl ?_))
     (first | refine xo_not rfl rfl ?_ | (refine xo_fa T_ rfl rfl rfl rfl rfl ?_))
     (first | refine xo_not rfl rfl ?_ | (refine xo_load0 T_ rfl rfl rfl (by repeat first | exact memH | apply memT | apply memA) rfl rfl ?_))
     (first | refine xo_not rfl rfl ?_ | (refine xo_ia T_ rfl rfl rfl rfl rfl ⟨by omega, by omega⟩ rfl ?_))
     (first | refine xo_not rfl rfl ?_ | (refine xo_loadR0 T_ rfl rfl rfl (by first | assumption | exact RO.fld (by assumption) rfl) rfl ?_))
     (first | refine xo_not rfl rfl ?_ | (refine xo_lss rfl rfl rfl rfl ?_))
     first | refine xo_pickT rfl rfl rfl rfl ?_ | refine xo_pickF rfl rfl rfl rfl ?_
     with_reducible (refine xo_nil ?_; (repeat (first | refine xqT ?_ | refine xqB ?_ | refine xqS ?_)); (repeat refine xc_seq ?_))
     refine xc_condF rfl ?_
     with_reducible (refine xc_skip ?_; (repeat (first | refine xqT ?_ | refine xqB ?_ | refine xqS ?_)); (repeat refine xc_seq ?_); refine xcR ?_)
     refine xo_loadN T_ rfl rfl rfl (by repeat first | exact memH | apply memT | apply memA) rfl rfl ?_
     refine xo_store T_ rfl rfl rfl rfl (by repeat first | exact memH | apply memT | apply memA) rfl rfl rfl rfl (by repeat (first | exact Upd.head | apply Upd.tail | apply Upd.app)) rfl ?_
     with_reducible (refine xo_nil ?_; (repeat (first | refine xqT ?_ | refine xqB ?_ | refine xqS ?_)); (repeat refine xc_seq ?_); refine xc_ret ?_; (repeat (first | refine xq_thenR ?_ | refine xq_blockR ?_ | refine xq_scopeR ?_)))
     exact xq_retC T_ rfl rfl rfl (by repeat first | exact memH | apply memT | apply memA) rfl fun w' hw => ⟨by rw [if_neg (by omega), if_neg (by omega), if_neg (by omega), if_neg (by omega), if_neg (by omega), if_pos hk, if_neg (fun q => hx q.1)]; rfl, hw.kx.below⟩
 · have hx : x < 1000000 := of_decide_eq_true hc
   with_reducible ((repeat refine xc_seq ?_); refine xcR ?_)
   refine xo_mv rfl rfl rfl ?_
   refine xo_lss rfl rfl rfl rfl ?_
   refine xo_asg rfl rfl rfl ?_
   refine xo_as (i := 10) rfl (congrArg Value.bool hc) ?_
   with_reducible (refine xo_nil ?_; (repeat (first | refine xqT ?_ | refine xqB ?_ | refine xqS ?_)); (repeat refine xc_seq ?_); refine xcR ?_)
   refine xo_fa T_ rfl rfl rfl rfl rfl ?_
   refine xo_load0 T_ rfl rfl rfl (by repeat first | exact memH | apply memT | apply memA) rfl rfl ?_
   with_reducible (refine xo_nil ?_; (repeat (first | refine xqT ?_ | refine xqB ?_ | refine xqS ?_)); (repeat refine xc_seq ?_); refine xc_block ?_)
   rcases hcase with hk | hk | hk | hk | hk | hk
   · refine xc_slots [(2, .slice (some ad) n cd), (3, .pointer (some ⟨b3, 0, none⟩)), (4, .pointer (some ⟨b4, 0, none⟩)), (6, .pointer (some ⟨b6, 0, none⟩)), (7, .pointer (some ⟨b7, 0, none⟩)), (8, .pointer (some ⟨b8, 0, none⟩)), (9, .int .i64 x), (10, .bool true), (23, .int .u8 1)] ⟨rfl, rfl, rfl, rfl, rfl, rfl, rfl, rfl, congrArg (fun q => some (Value.int .u8 q)) hk, trivial⟩ ?_
     with_reducible ((repeat refine xc_seq ?_); refine xcR ?_)
     refine xo_eql rfl rfl rfl rfl ?_
     refine xo_asg rfl rfl rfl ?_
     with_reducible (refine xo_nil ?_; (repeat (first | refine xqT ?_ | refine xqB ?_ | refine xqS ?_)); (repeat refine xc_seq ?_))
     refine xc_condT rfl ?_
     with_reducible ((repeat refine xc_seq ?_); refine xcR ?_)
     refine xo_mv rfl rfl rfl ?_
     with_reducible (refine xo_nil ?_; (repeat (first | refine xqT ?_ | refine xqB ?_ | refine xqS ?_)); (repeat refine xc_seq ?_))
     refine xc_condT rfl ?_
     with_reducible ((repeat refine xc_seq ?_); refine xcR ?_)
     refine xo_fa T_ rfl rfl rfl rfl rfl ?_
     refine xo_fa T_ rfl rfl rfl rfl rfl ?_
     refine xo_load0 T_ rfl rfl rfl (by repeat first | exact memH | apply memT | apply memA) rfl rfl ?_
     refine xo_mv rfl rfl rfl ?_
     refine xo_sub rfl rfl rfl (by omega) rfl ?_
     refine xo_fa T_ rfl rfl rfl rfl rfl ?_
     refine xo_fa T_ rfl rfl rfl rfl rfl ?_
     refine xo_load0 T_ rfl rfl rfl (by repeat first | exact memH | apply memT | apply memA) rfl rfl ?_
     refine xo_mv rfl rfl rfl ?_
     refine xo_sub rfl rfl rfl (by omega) rfl ?_
     refine xo_build TB_ rfl rfl rfl rfl rfl ?_
     refine xo_store T_ rfl rfl rfl rfl (by repeat first | exact memH | apply memT | apply memA) rfl rfl rfl rfl (by repeat (first | exact Upd.head | apply Upd.tail | apply Upd.app)) rfl ?_
     with_reducible (refine xo_nil ?_; (repeat (first | refine xqT ?_ | refine xqB ?_ | refine xqS ?_)); (repeat refine xc_seq ?_); refine xc_ret ?_; (repeat (first | refine xq_thenR ?_ | refine xq_blockR ?_ | refine xq_scopeR ?_)))
     exact xq_retC T_ rfl rfl rfl (by repeat first | exact memH | apply memT | apply memA) rfl fun w' hw => ⟨by rw [if_pos hk, if_pos hx]; rfl, hw.kx.below⟩
   · refine xc_slots [(2, .slice (some ad) n cd), (3, .pointer (some ⟨b3, 0, none⟩)), (4, .pointer (some ⟨b4, 0, none⟩)), (6, .pointer (some ⟨b6, 0, none⟩)), (7, .pointer (some ⟨b7, 0, none⟩)), (8, .pointer (some ⟨b8, 0, none⟩)), (9, .int .i64 x), (10, .bool true), (23, .int .u8 2)] ⟨rfl, rfl, rfl, rfl, rfl, rfl, rfl, rfl, congrArg (fun q => some (Value.int .u8 q)) hk, trivial⟩ ?_
     with_reducible ((repeat refine xc_seq ?_); refine xcR ?_)
     refine xo_eql rfl rfl rfl rfl ?_
     refine xo_asg rfl rfl rfl ?_
     with_reducible (refine xo_nil ?_; (repeat (first | refine xqT ?_ | refine xqB ?_ | refine xqS ?_)); (repeat refine xc_seq ?_))
     refine xc_condF rfl ?_
     with_reducible ((repeat refine xc_seq ?_); refine xcR ?_)
     refine xo_eql rfl rfl rfl rfl ?_
     refine xo_asg rfl rfl rfl ?_
     with_reducible (refine xo_nil ?_; (repeat (first | refine xqT ?_ | refine xqB ?_ | refine xqS ?_)); (repeat refine xc_seq ?_))
     refine xc_condT rfl ?_
     with_reducible ((repeat refine xc_seq ?_); refine xcR ?_)
     refine xo_mv rfl rfl rfl ?_
     refine xo_notOp rfl rfl rfl ?_
     with_reducible (refine xo_nil ?_; (repeat (first | refine xqT ?_ | refine xqB ?_ | refine xqS ?_)); (repeat refine xc_seq ?_))
     refine xc_condF rfl ?_
     with_reducible (refine xc_skip ?_; (repeat (first | refine xqT ?_ | refine xqB ?_ | refine xqS ?_)); (repeat refine xc_seq ?_); refine xcR ?_)
     refine xo_fa T_ rfl rfl rfl rfl rfl ?_
     refine xo_fa T_ rfl rfl rfl rfl rfl ?_
     refine xo_load0 T_ rfl rfl rfl (by repeat first | exact memH | apply memT | apply memA) rfl rfl ?_
     refine xo_add rfl rfl rfl (by omega) rfl ?_
     refine xo_mv rfl rfl rfl ?_
     refine xo_sub rfl rfl rfl (by omega) rfl ?_
     refine xo_fa T_ rfl rfl rfl rfl rfl ?_
     refine xo_load0 T_ rfl rfl rfl (by repeat first | exact memH | apply memT | apply memA) rfl rfl ?_
     refine xo_build TB_ rfl rfl rfl rfl rfl ?_
     refine xo_store T_ rfl rfl rfl rfl (by repeat first | exact memH | apply memT | apply memA) rfl rfl rfl rfl (by repeat (first | exact Upd.head | apply Upd.tail | apply Upd.app)) rfl ?_
     with_reducible (refine xo_nil ?_; (repeat (first | refine xqT ?_ | refine xqB ?_ | refine xqS ?_)); (repeat refine xc_seq ?_); refine xc_ret ?_; (repeat (first | refine xq_thenR ?_ | refine xq_blockR ?_ | refine xq_scopeR ?_)))
     exact xq_retC T_ rfl rfl rfl (by repeat first | exact memH | apply memT | apply memA) rfl fun w' hw => ⟨by rw [if_neg (by omega), if_pos hk, if_pos hx]; rfl, hw.kx.below⟩
   · refine xc_slots [(2, .slice (some ad) n cd), (3, .pointer (some ⟨b3, 0, none⟩)), (4, .pointer (some ⟨b4, 0, none⟩)), (6, .pointer (some ⟨b6, 0, none⟩)), (7, .pointer (some ⟨b7, 0, none⟩)), (8, .pointer (some ⟨b8, 0, none⟩)), (9, .int .i64 x), (10, .bool true), (23, .int .u8 3)] ⟨rfl, rfl, rfl, rfl, rfl, rfl, rfl, rfl, congrArg (fun q => some (Value.int .u8 q)) hk, trivial⟩ ?_
     with_reducible ((repeat refine xc_seq ?_); refine xcR ?_)
     refine xo_eql rfl rfl rfl rfl ?_
     refine xo_asg rfl rfl rfl ?_
     with_reducible (refine xo_nil ?_; (repeat (first | refine xqT ?_ | refine xqB ?_ | refine xqS ?_)); (repeat refine xc_seq ?_))
     refine xc_condF rfl ?_
     with_reducible ((repeat refine xc_seq ?_); refine xcR ?_)
     refine xo_eql rfl rfl rfl rfl ?_
     refine xo_asg rfl rfl rfl ?_
     with_reducible (refine xo_nil ?_; (repeat (first | refine xqT ?_ | refine xqB ?_ | refine xqS ?_)); (repeat refine xc_seq ?_))
     refine xc_condF rfl ?_
     with_reducible ((repeat refine xc_seq ?_); refine xcR ?_)
     refine xo_eql rfl rfl rfl rfl ?_
     refine xo_asg rfl rfl rfl ?_
     with_reducible (refine xo_nil ?_; (repeat (first | refine xqT ?_ | refine xqB ?_ | refine xqS ?_)); (repeat refine xc_seq ?_))
     refine xc_condT rfl ?_
     with_reducible ((repeat refine xc_seq ?_); refine xcR ?_)
     refine xo_mv rfl rfl rfl ?_
     with_reducible (refine xo_nil ?_; (repeat (first | refine xqT ?_ | refine xqB ?_ | refine xqS ?_)); (repeat refine xc_seq ?_))
     refine xc_condT rfl ?_
     with_reducible ((repeat refine xc_seq ?_); refine xcR ?_)
     refine xo_fa T_ rfl rfl rfl rfl rfl ?_
     refine xo_fa T_ rfl rfl rfl rfl rfl ?_
     refine xo_load0 T_ rfl rfl rfl (by repeat first | exact memH | apply memT | apply memA) rfl rfl ?_
     refine xo_mv rfl rfl rfl ?_
     refine xo_sub rfl rfl rfl (by omega) rfl ?_
     refine xo_build TB_ rfl rfl rfl rfl rfl ?_
     refine xo_store T_ rfl rfl rfl rfl (by repeat first | exact memH | apply memT | apply memA) rfl rfl rfl rfl (by repeat (first | exact Upd.head | apply Upd.tail | apply Upd.app)) rfl ?_
     with_reducible (refine xo_nil ?_; (repeat (first | refine xqT ?_ | refine xqB ?_ | refine xqS ?_)); (repeat refine xc_seq ?_); refine xc_ret ?_; (repeat (first | refine xq_thenR ?_ | refine xq_blockR ?_ | refine xq_scopeR ?_)))
     exact xq_retC T_ rfl rfl rfl (by repeat first | exact memH | apply memT | apply memA) rfl fun w' hw => ⟨by rw [if_neg (by omega), if_neg (by omega), if_pos hk, if_pos hx]; rfl, hw.kx.below⟩
   · refine xc_slots [(2, .slice (some ad) n cd), (3, .pointer (some ⟨b3, 0, none⟩)), (4, .pointer (some ⟨b4, 0, none⟩)), (6, .pointer (some ⟨b6, 0, none⟩)), (7, .pointer (some ⟨b7, 0, none⟩)), (8, .pointer (some ⟨b8, 0, none⟩)), (9, .int .i64 x), (10, .bool true), (23, .int .u8 4)] ⟨rfl, rfl, rfl, rfl, rfl, rfl, rfl, rfl, congrArg (fun q => some (Value.int .u8 q)) hk, trivial⟩ ?_
     with_reducible ((repeat refine xc_seq ?_); refine xcR ?_)
     refine xo_eql rfl rfl rfl rfl ?_
     refine xo_asg rfl rfl rfl ?_
     with_reducible (refine xo_nil ?_; (repeat (first | refine xqT ?_ | refine xqB ?_ | refine xqS ?_)); (repeat refine xc_seq ?_))
     refine xc_condF rfl ?_
     with_reducible ((repeat refine xc_seq ?_); refine xcR ?_)
     refine xo_eql rfl rfl rfl rfl ?_
     refine xo_asg rfl rfl rfl ?_
     with_reducible (refine xo_nil ?_; (repeat (first | refine xqT ?_ | refine xqB ?_ | refine xqS ?_)); (repeat refine xc_seq ?_))
     refine xc_condF rfl ?_
     with_reducible ((repeat refine xc_seq ?_); refine xcR ?_)
     refine xo_eql rfl rfl rfl rfl ?_
     refine xo_asg rfl rfl rfl ?_
     with_reducible (refine xo_nil ?_; (repeat (first | refine xqT ?_ | refine xqB ?_ | refine xqS ?_)); (repeat refine xc_seq ?_))
     refine xc_condF rfl ?_
     with_reducible ((repeat refine xc_seq ?_); refine xcR ?_)
     refine xo_eql rfl rfl rfl rfl ?_
     refine xo_asg rfl rfl rfl ?_
     with_reducible (refine xo_nil ?_; (repeat (first | refine xqT ?_ | refine xqB ?_ | refine xqS ?_)); (repeat refine xc_seq ?_))
     refine xc_condT rfl ?_
     with_reducible ((repeat refine xc_seq ?_); refine xcR ?_)
     refine xo_mv rfl rfl rfl ?_
     with_reducible (refine xo_nil ?_; (repeat (first | refine xqT ?_ | refine xqB ?_ | refine xqS ?_)); (repeat refine xc_seq ?_))
     refine xc_condT rfl ?_
     with_reducible ((repeat refine xc_seq ?_); refine xcR ?_)
     refine xo_fa T_ rfl rfl rfl rfl rfl ?_
     refine xo_load0 T_ rfl rfl rfl (by repeat first | exact memH | apply memT | apply memA) rfl rfl ?_
     refine xo_fa T_ rfl rfl rfl rfl rfl ?_
     refine xo_load0 T_ rfl rfl rfl (by repeat first | exact memH | apply memT | apply memA) rfl rfl ?_
     refine xo_sub rfl rfl rfl (by omega) rfl ?_
     refine xo_mv rfl rfl rfl ?_
     refine xo_sub rfl rfl rfl (by omega) rfl ?_
     refine xo_build TB_ rfl rfl rfl rfl rfl ?_
     refine xo_store T_ rfl rfl rfl rfl (by repeat first | exact memH | apply memT | apply memA) rfl rfl rfl rfl (by repeat (first | exact Upd.head | apply Upd.tail | apply Upd.app)) rfl ?_
     with_reducible (refine xo_nil ?_; (repeat (first | refine xqT ?_ | refine xqB ?_ | refine xqS ?_)); (repeat refine xc_seq ?_); refine xc_ret ?_; (repeat (first | refine xq_thenR ?_ | refine xq_blockR ?_ | refine xq_scopeR ?_)))
     exact xq_retC T_ rfl rfl rfl (by repeat first | exact memH | apply memT | apply memA) rfl fun w' hw => ⟨by rw [if_neg (by omega), if_neg (by omega), if_neg (by omega), if_pos hk, if_pos hx]; rfl, hw.kx.below⟩
   · refine xc_slots [(2, .slice (some ad) n cd), (3, .pointer (some ⟨b3, 0, none⟩)), (4, .pointer (some ⟨b4, 0, none⟩)), (6, .pointer (some ⟨b6, 0, none⟩)), (7, .pointer (some ⟨b7, 0, none⟩)), (8, .pointer (some ⟨b8, 0, none⟩)), (9, .int .i64 x), (10, .bool true), (23, .int .u8 5)] ⟨rfl, rfl, rfl, rfl, rfl, rfl, rfl, rfl, congrArg (fun q => some (Value.int .u8 q)) hk, trivial⟩ ?_
     with_reducible ((repeat refine xc_seq ?_); refine xcR ?_)
     refine xo_eql rfl rfl rfl rfl ?_
     refine xo_asg rfl rfl rfl ?_
     with_reducible (refine xo_nil ?_; (repeat (first | refine xqT ?_ | refine xqB ?_ | refine xqS ?_)); (repeat refine xc_seq ?_))
     refine xc_condF rfl ?_
     with_reducible ((repeat refine xc_seq ?_); refine xcR ?_)
     refine xo_eql rfl rfl rfl rfl ?_
     refine xo_asg rfl rfl rfl ?_
     with_reducible (refine xo_nil ?_; (repeat (first | refine xqT ?_ | refine xqB ?_ | refine xqS ?_)); (repeat refine xc_seq ?_))
     refine xc_condF rfl ?_
     with_reducible ((repeat refine xc_seq ?_); refine xcR ?_)
     refine xo_eql rfl rfl rfl rfl ?_
     refine xo_asg rfl rfl rfl ?_
     with_reducible (refine xo_nil ?_; (repeat (first | refine xqT ?_ | refine xqB ?_ | refine xqS ?_)); (repeat refine xc_seq ?_))
     refine xc_condF rfl ?_
     with_reducible ((repeat refine xc_seq ?_); refine xcR ?_)
     refine xo_eql rfl rfl rfl rfl ?_
     refine xo_asg rfl rfl rfl ?_
     with_reducible (refine xo_nil ?_; (repeat (first | refine xqT ?_ | refine xqB ?_ | refine xqS ?_)); (repeat refine xc_seq ?_))
     refine xc_condF rfl ?_
     with_reducible ((repeat refine xc_seq ?_); refine xcR ?_)
     refine xo_eql rfl rfl rfl rfl ?_
     refine xo_asg rfl rfl rfl ?_
     with_reducible (refine xo_nil ?_; (repeat (first | refine xqT ?_ | refine xqB ?_ | refine xqS ?_)); (repeat refine xc_seq ?_))
     refine xc_condT rfl ?_
     with_reducible ((repeat refine xc_seq ?_); refine xcR ?_)
     refine xo_mv rfl rfl rfl ?_
     refine xo_notOp rfl rfl rfl ?_
     with_reducible (refine xo_nil ?_; (repeat (first | refine xqT ?_ | refine xqB ?_ | refine xqS ?_)); (repeat refine xc_seq ?_))
     refine xc_condF rfl ?_
     with_reducible (refine xc_skip ?_; (repeat (first | refine xqT ?_ | refine xqB ?_ | refine xqS ?_)); (repeat refine xc_seq ?_); refine xcR ?_)
     refine xo_fa T_ rfl rfl rfl rfl rfl ?_
     refine xo_load0 T_ rfl rfl rfl (by repeat first | exact memH | apply memT | apply memA) rfl rfl ?_
     refine xo_fa T_ rfl rfl rfl rfl rfl ?_
     refine xo_load0 T_ rfl rfl rfl (by repeat first | exact memH | apply memT | apply memA) rfl rfl ?_
     refine xo_sub rfl rfl rfl (by omega) rfl ?_
     refine xo_add rfl rfl rfl (by omega) rfl ?_
     refine xo_mv rfl rfl rfl ?_
     refine xo_sub rfl rfl rfl (by omega) rfl ?_
     refine xo_fa T_ rfl rfl rfl rfl rfl ?_
     refine xo_load0 T_ rfl rfl rfl (by repeat first | exact memH | apply memT | apply memA) rfl rfl ?_
     refine xo_build TB_ rfl rfl rfl rfl rfl ?_
     refine xo_store T_ rfl rfl rfl rfl (by repeat first | exact memH | apply memT | apply memA) rfl rfl rfl rfl (by repeat (first | exact Upd.head | apply Upd.tail | apply Upd.app)) rfl ?_
     with_reducible (refine xo_nil ?_; (repeat (first | refine xqT ?_ | refine xqB ?_ | refine xqS ?_)); (repeat refine xc_seq ?_); refine xc_ret ?_; (repeat (first | refine xq_thenR ?_ | refine xq_blockR ?_ | refine xq_scopeR ?_)))
     exact xq_retC T_ rfl rfl rfl (by repeat first | exact memH | apply memT | apply memA) rfl fun w' hw => ⟨by rw [if_neg (by omega), if_neg (by omega), if_neg (by omega), if_neg (by omega), if_pos hk, if_pos hx]; rfl, hw.kx.below⟩
   · refine xc_slots [(2, .slice (some ad) n cd), (3, .pointer (some ⟨b3, 0, none⟩)), (4, .pointer (some ⟨b4, 0, none⟩)), (6, .pointer (some ⟨b6, 0, none⟩)), (7, .pointer (some ⟨b7, 0, none⟩)), (8, .pointer (some ⟨b8, 0, none⟩)), (9, .int .i64 x), (10, .bool true), (23, .int .u8 6)] ⟨rfl, rfl, rfl, rfl, rfl, rfl, rfl, rfl, congrArg (fun q => some (Value.int .u8 q)) hk, trivial⟩ ?_
     with_reducible ((repeat refine xc_seq ?_); refine xcR ?_)
     refine xo_eql rfl rfl rfl rfl ?_
     refine xo_asg rfl rfl rfl ?_
     with_reducible (refine xo_nil ?_; (repeat (first | refine xqT ?_ | refine xqB ?_ | refine xqS ?_)); (repeat refine xc_seq ?_))
     refine xc_condF rfl ?_
     with_reducible ((repeat refine xc_seq ?_); refine xcR ?_)
     refine xo_eql rfl rfl rfl rfl ?_
     refine xo_asg rfl rfl rfl ?_
     with_reducible (refine xo_nil ?_; (repeat (first | refine xqT ?_ | refine xqB ?_ | refine xqS ?_)); (repeat refine xc_seq ?_))
     refine xc_condF rfl ?_
     with_reducible ((repeat refine xc_seq ?_); refine xcR ?_)
     refine xo_eql rfl rfl rfl rfl ?_
     refine xo_asg rfl rfl rfl ?_
     with_reducible (refine xo_nil ?_; (repeat (first | refine xqT ?_ | refine xqB ?_ | refine xqS ?_)); (repeat refine xc_seq ?_))
     refine xc_condF rfl ?_
     with_reducible ((repeat refine xc_seq ?_); refine xcR ?_)
     refine xo_eql rfl rfl rfl rfl ?_
     refine xo_asg rfl rfl rfl ?_
     with_reducible (refine xo_nil ?_; (repeat (first | refine xqT ?_ | refine xqB ?_ | refine xqS ?_)); (repeat refine xc_seq ?_))
     refine xc_condF rfl ?_
     with_reducible ((repeat refine xc_seq ?_); refine xcR ?_)
     refine xo_eql rfl rfl rfl rfl ?_
     refine xo_asg rfl rfl rfl ?_
     with_reducible (refine xo_nil ?_; (repeat (first | refine xqT ?_ | refine xqB ?_ | refine xqS ?_)); (repeat refine xc_seq ?_))
     refine xc_condF rfl ?_
     with_reducible ((repeat refine xc_seq ?_); refine xcR ?_)
     refine xo_eql rfl rfl rfl rfl ?_
     refine xo_asg rfl rfl rfl ?_
     with_reducible (refine xo_nil ?_; (repeat (first | refine xqT ?_ | refine xqB ?_ | refine xqS ?_)); (repeat refine xc_seq ?_))
     refine xc_condT rfl ?_
     cases hy : decide (x < y)
     · with_reducible repeat refine xc_seq ?_
       with_reducible refine xcR ?_
       refine xo_mv rfl rfl rfl ?_
       refine xo_mv rfl rfl rfl ?_
       (first | refine xo_not rfl rfl ?_ | (refine xo_mv rfl rfl rfl ?_))
       (first | refine xo_not rfl rfl ?_ | (refine xo_mv rfl rfl rfl ?_))
       (first | refine xo_not rfl rfl ?_ | (refine xo_fa T_ rfl rfl rfl rfl rfl ?_))
       (first | refine xo_not rfl rfl ?_ | (refine xo_load0 T_ rfl rfl rfl (by repeat first | exact memH | apply memT | apply memA) rfl rfl ?_))
       (first | refine xo_not rfl rfl ?_ | (refine xo_ia T_ (i := m.f3) rfl rfl rfl rfl rfl ⟨by omega, by omega⟩ rfl ?_))
       (first | refine xo_not rfl rfl ?_ | (refine xo_loadR0 T_ rfl rfl rfl q2 rfl ?_))
       (first | refine xo_not rfl rfl ?_ | (refine xo_lss rfl rfl rfl rfl ?_))
       first | refine xo_pickT rfl rfl rfl rfl ?_ | refine xo_pickF rfl rfl rfl rfl ?_
       refine xo_as (i := 99) rfl (congrArg Value.bool hy) ?_
       with_reducible (refine xo_nil ?_; (repeat (first | refine xqT ?_ | refine xqB ?_ | refine xqS ?_)); (repeat refine xc_seq ?_))
       refine xc_condF rfl ?_
       with_reducible (refine xc_skip ?_; (repeat (first | refine xqT ?_ | refine xqB ?_ | refine xqS ?_)); (repeat refine xc_seq ?_); refine xcR ?_)
       refine xo_loadN T_ rfl rfl rfl (by repeat first | exact memH | apply memT | apply memA) rfl rfl ?_
       refine xo_store T_ rfl rfl rfl rfl (by repeat first | exact memH | apply memT | apply memA) rfl rfl rfl rfl (by repeat (first | exact Upd.head | apply Upd.tail | apply Upd.app)) rfl ?_
       with_reducible (refine xo_nil ?_; (repeat (first | refine xqT ?_ | refine xqB ?_ | refine xqS ?_)); (repeat refine xc_seq ?_); refine xc_ret ?_; (repeat (first | refine xq_thenR ?_ | refine xq_blockR ?_ | refine xq_scopeR ?_)))
       exact xq_retC T_ rfl rfl rfl (by repeat first | exact memH | apply memT | apply memA) rfl fun w' hw => ⟨by rw [if_neg (by omega), if_neg (by omega), if_neg (by omega), if_neg (by omega), if_neg (by omega), if_pos hk, if_neg (fun q => of_decide_eq_false hy q.2)]; rfl, hw.kx.below⟩
     · with_reducible repeat refine xc_seq ?_
       with_reducible refine xcR ?_
       refine xo_mv rfl rfl rfl ?_
       refine xo_mv rfl rfl rfl ?_
       (first | refine xo_not rfl rfl ?_ | (refine xo_mv rfl rfl rfl ?_))
       (first | refine xo_not rfl rfl ?_ | (refine xo_mv rfl rfl rfl ?_))
       (first | refine xo_not rfl rfl ?_ | (refine xo_fa T_ rfl rfl rfl rfl rfl ?_))
       (first | refine xo_not rfl rfl ?_ | (refine xo_load0 T_ rfl rfl rfl (by repeat first | exact memH | apply memT | apply memA) rfl rfl ?_))
       (first | refine xo_not rfl rfl ?_ | (refine xo_ia T_ (i := m.f3) rfl rfl rfl rfl rfl ⟨by omega, by omega⟩ rfl ?_))
       (first | refine xo_not rfl rfl ?_ | (refine xo_loadR0 T_ rfl rfl rfl q2 rfl ?_))
       (first | refine xo_not rfl rfl ?_ | (refine xo_lss rfl rfl rfl rfl ?_))
       first | refine xo_pickT rfl rfl rfl rfl ?_ | refine xo_pickF rfl rfl rfl rfl ?_
       refine xo_as (i := 99) rfl (congrArg Value.bool hy) ?_
       with_reducible (refine xo_nil ?_; (repeat (first | refine xqT ?_ | refine xqB ?_ | refine xqS ?_)); (repeat refine xc_seq ?_))
       refine xc_condT rfl ?_
       with_reducible ((repeat refine xc_seq ?_); refine xcR ?_)
       refine xo_loadN T_ rfl rfl rfl (by repeat first | exact memH | apply memT | apply memA) rfl rfl ?_
       refine xo_store T_ rfl rfl rfl rfl (by repeat first | exact memH | apply memT | apply memA) rfl rfl rfl rfl (by repeat (first | exact Upd.head | apply Upd.tail | apply Upd.app)) rfl ?_
       with_reducible (refine xo_nil ?_; (repeat (first | refine xqT ?_ | refine xqB ?_ | refine xqS ?_)); (repeat refine xc_seq ?_); refine xc_ret ?_; (repeat (first | refine xq_thenR ?_ | refine xq_blockR ?_ | refine xq_scopeR ?_)))
       exact xq_retC T_ rfl rfl rfl (by repeat first | exact memH | apply memT | apply memA) rfl fun w' hw => ⟨by rw [if_neg (by omega), if_neg (by omega), if_neg (by omega), if_neg (by omega), if_neg (by omega), if_pos hk, if_pos ⟨hx, of_decide_eq_true hy⟩]; rfl, hw.kx.below⟩
theorem window_enters : ∀ args w, (callFunc 83 args).run Tryz.prog w = .ok (.enter 83 args) w := enters_of Tryz.func83 (by kernel_rfl) rfl
/-! ### both -/
def winR (E : Int) (d : Nat → Int) (l : List MarT) : SpaT := l.foldl (fun s m => comF s (windowF E d m)) ⟨0, E⟩
set_option maxHeartbeats 8000000 in
theorem both_calls (n : Nat) (E : Int) (A B D : Option Addr) (ng c c2 cd : Nat) (d : Nat → Int) (ms : List MarT) (s : Nat) (w : World) (hn : 1 ≤ n ∧ n ≤ 6) (hE : 0 ≤ E ∧ E ≤ 600) (hm8 : ms.length ≤ 8) (hmk : ∀ m ∈ ms, MarkR n m) (hM : RowOf marV 7 zMar w B ms) (hs8 : s ≤ 256) (hd : InN d) (hD : IntsD w D n d) :
   Calls Tryz.prog 68 #[.agg (scnV n A ng c E B ms.length c2).toArray, .int .i64 (s : Int), .slice D n cd] w fun e w' => e = .returned (.agg (spaV (winR E d (setOf ms s))).toArray) ∧ Below w.heap.size w w' := by
 refine x_calls (X := XNone) Tryz.func68 rfl rfl rfl ?_
 with_reducible ((repeat refine xc_seq ?_); refine xcR ?_)
 refine xo_box rfl rfl rfl rfl (fun b3 => ?_)
 refine xo_alloc T_ rfl rfl rfl rfl (fun b6 => ?_)
 with_reducible (refine xo_nil ?_; (repeat (first | refine xqT ?_ | refine xqB ?_ | refine xqS ?_)); (repeat refine xc_seq ?_); refine xcR ?_)
 refine xo_fa T_ rfl rfl rfl rfl rfl ?_
 refine xo_load0 T_ rfl rfl rfl (by repeat first | exact memH | apply memT | apply memA) rfl rfl ?_
 refine xo_build TB_ rfl rfl rfl rfl rfl ?_
 refine xo_alloc T_ rfl rfl rfl rfl (fun b7 => ?_)
 refine xo_store T_ rfl rfl rfl rfl (by repeat first | exact memH | apply memT | apply memA) rfl rfl rfl rfl (by repeat (first | exact Upd.head | apply Upd.tail | apply Upd.app)) rfl ?_
 with_reducible (refine xo_nil ?_; (repeat (first | refine xqT ?_ | refine xqB ?_ | refine xqS ?_)); (repeat refine xc_seq ?_); refine xcR ?_)
 refine xo_asg rfl rfl rfl ?_
 with_reducible (refine xo_nil ?_; (repeat (first | refine xqT ?_ | refine xqB ?_ | refine xqS ?_)); (repeat refine xc_seq ?_); refine xc_block ?_)
 refine xc_loop (γ := Nat) (fun k => k ≤ ms.length) (fun k => [(1, .int .i64 (s : Int)), (2, .slice D n cd), (3, .pointer (some ⟨b3, 0, none⟩)), (6, .pointer (some ⟨b6, 0, none⟩)), (7, .pointer (some ⟨b7, 0, none⟩)), (8, .int .i64 (k : Int))])
   (fun k => [(b7, true, cel (spaV (winR E d (chosenL s ms k))) 45), (b6, true, cel [.int .i64 0, .int .i64 0] 45), (b3, true, cel (scnV n A ng c E B ms.length c2) 25)]) (fun k => ms.length - k) 0 (Nat.zero_le _) ⟨rfl, rfl, rfl, rfl, rfl, rfl, trivial⟩ (List.Sublist.refl _) ?_
 intro k hk
 with_reducible ((repeat refine xc_seq ?_); refine xcR ?_)
 refine xo_mv rfl rfl rfl ?_
 refine xo_fa T_ rfl rfl rfl rfl rfl ?_
 refine xo_load0 T_ rfl rfl rfl (by repeat first | exact memH | apply memT | apply memA) rfl rfl ?_
 refine xo_len T_ rfl rfl rfl rfl ?_
 refine xo_lss rfl rfl rfl rfl ?_
 with_reducible (refine xo_nil ?_; (repeat (first | refine xqT ?_ | refine xqB ?_ | refine xqS ?_)); (repeat refine xc_seq ?_))
 refine xc_cond rfl (fun h => ?_) (fun h => ?_)
 · have hlt : k < ms.length := by have := of_decide_eq_true h; omega
   obtain ⟨ad, rfl, q1⟩ := hM k hlt
   have hmk1 := hmk _ (getD_mem ms zMar k hlt)
   have hst : winR E d (chosenL s ms (k + 1)) = if bitN s k = true then comF (winR E d (chosenL s ms k)) (windowF E d (ms.getD k zMar)) else winR E d (chosenL s ms k) := by
     rw [chosenL]
     split
     · unfold winR
       rw [List.foldl_append]
       rfl
     · rfl
   generalize winR E d (chosenL s ms k) = cur at hst ⊢
   generalize ms.getD k zMar = m at q1 hmk1 hst
   with_reducible (refine xc_skip ?_; (repeat (first | refine xqT ?_ | refine xqB ?_ | refine xqS ?_)); (repeat refine xc_seq ?_); refine xc_block ?_)
   cases hb : bitN s k
   · rw [hb, if_neg Bool.false_ne_true] at hst
     with_reducible ((repeat refine xc_seq ?_); refine xcR ?_)
     refine xo_mv rfl rfl rfl ?_
     refine xo_mv rfl rfl rfl ?_
     refine xo_shr rfl rfl rfl (by omega) rfl ?_
     refine xo_and1 rfl rfl rfl (Nat.lt_of_le_of_lt (Nat.div_le_self _ _) (by omega)) rfl ?_
     refine xo_eql rfl rfl rfl rfl ?_
     refine xo_as (i := 24) rfl (congrArg Value.bool hb) ?_
     with_reducible (refine xo_nil ?_; (repeat (first | refine xqT ?_ | refine xqB ?_ | refine xqS ?_)); (repeat refine xc_seq ?_))
     refine xc_condF rfl ?_
     with_reducible (refine xc_skip ?_; (repeat (first | refine xqT ?_ | refine xqB ?_ | refine xqS ?_)); (repeat refine xc_seq ?_); refine xcR ?_)
     refine xo_mv rfl rfl rfl ?_
     refine xo_add rfl rfl rfl (by omega) rfl ?_
     refine xo_asg rfl rfl rfl ?_
     with_reducible (refine xo_nil ?_; (repeat (first | refine xqT ?_ | refine xqB ?_ | refine xqS ?_)))
     exact xq_again _ _ _ _ _ (k + 1) (by omega) (by omega) ⟨rfl, rfl, rfl, rfl, rfl, rfl, trivial⟩ (by rw [hst]; exact List.Sublist.refl _)
   rw [hb, if_pos rfl] at hst
   with_reducible ((repeat refine xc_seq ?_); refine xcR ?_)
   refine xo_mv rfl rfl rfl ?_
   refine xo_mv rfl rfl rfl ?_
   refine xo_shr rfl rfl rfl (by omega) rfl ?_
   refine xo_and1 rfl rfl rfl (Nat.lt_of_le_of_lt (Nat.div_le_self _ _) (by omega)) rfl ?_
   refine xo_eql rfl rfl rfl rfl ?_
   refine xo_as (i := 24) rfl (congrArg Value.bool hb) ?_
   with_reducible (refine xo_nil ?_; (repeat (first | refine xqT ?_ | refine xqB ?_ | refine xqS ?_)); (repeat refine xc_seq ?_))
   refine xc_condT rfl ?_
   refine xc_slots [(1, .int .i64 (s : Int)), (2, .slice D n cd), (3, .pointer (some ⟨b3, 0, none⟩)), (6, .pointer (some ⟨b6, 0, none⟩)), (7, .pointer (some ⟨b7, 0, none⟩)), (8, .int .i64 (k : Int))] ⟨rfl, rfl, rfl, rfl, rfl, rfl, trivial⟩ ?_
   with_reducible (repeat refine xc_seq ?_)
   apply xc_drawE (fun g => [(8, .pointer (some ⟨(g.getD 0 gv0).b, 0, none⟩))]) (fun (η0 : Hp) g => match g with | [] => (η0) | a0 :: [] => ((a0.b, true, cel [.int .i64 0, .int .i64 0] 45) :: η0) | a0 :: a1 :: _ => ((a0.b, true, cel (spaV (windowF E d m)) 45) :: [(b7, true, cel (spaV cur) 45), (b6, true, cel [.int .i64 0, .int .i64 0] 45), (b3, true, cel (scnV n A ng c E (some ad) ms.length c2) 25)])) (fun _ => True) [0, 0, 0, 0, 0, 0, 0, 0, 1, 2] [8, 9] [[], [8, 7, 7, 0, 1, 2, 3, 4, 5, 6, 7, 8]] (by trivial)
   apply SameLen.cons
   apply SameLen.cons
   apply SameLen.cons
   apply SameLen.cons
   apply SameLen.cons
   apply SameLen.cons
   apply SameLen.cons
   apply SameLen.cons
   apply SameLen.cons (c := undef)
   apply SameLen.cons
   exact SameLen.nil
   rotate_left 9
   case hH0 => rfl
   case hmix => exact T_.mixed
   case hbind => rfl
   case hdeps => rfl
   case hdist => rfl
   case hfresh => rfl
   case hE => rfl
   case hEn => decide
   · refine DrawE.pure 0 1 rfl (.inr (by decide)) (fun L g hg hd => Nat.zero_le _) (fun g hlo hhi hF τ => ?_) ?_
     · rcases g with _ | ⟨a0, _ | ⟨a1, _ | ⟨a2, g⟩⟩⟩ <;> first | (simp only [lenC, lenN] at hlo hhi; omega) | (refine ⟨_, rfl, ?_⟩; refine xo_loadN T_ rfl rfl rfl (by repeat first | exact memH | apply memT | apply memA) rfl rfl ?_; exact xo_fin rfl)
     refine DrawE.pure 0 1 rfl (.inr (by decide)) (fun L g hg hd => Nat.zero_le _) (fun g hlo hhi hF τ => ?_) ?_
     · rcases g with _ | ⟨a0, _ | ⟨a1, _ | ⟨a2, g⟩⟩⟩ <;> first | (simp only [lenC, lenN] at hlo hhi; omega) | (refine ⟨_, rfl, ?_⟩; refine xo_fa T_ rfl rfl rfl rfl rfl ?_; exact xo_fin rfl)
     refine DrawE.pure 0 1 rfl (.inr (by decide)) (fun L g hg hd => Nat.zero_le _) (fun g hlo hhi hF τ => ?_) ?_
     · rcases g with _ | ⟨a0, _ | ⟨a1, _ | ⟨a2, g⟩⟩⟩ <;> first | (simp only [lenC, lenN] at hlo hhi; omega) | (refine ⟨_, rfl, ?_⟩; refine xo_load0 T_ rfl rfl rfl (by repeat first | exact memH | apply memT | apply memA) rfl rfl ?_; exact xo_fin rfl)
     refine DrawE.pure 0 1 rfl (.inr (by decide)) (fun L g hg hd => Nat.zero_le _) (fun g hlo hhi hF τ => ?_) ?_
     · rcases g with _ | ⟨a0, _ | ⟨a1, _ | ⟨a2, g⟩⟩⟩ <;> first | (simp only [lenC, lenN] at hlo hhi; omega) | (refine ⟨_, rfl, ?_⟩; refine xo_mv rfl rfl rfl ?_; exact xo_fin rfl)
     refine DrawE.pure 0 1 rfl (.inr (by decide)) (fun L g hg hd => Nat.zero_le _) (fun g hlo hhi hF τ => ?_) ?_
     · rcases g with _ | ⟨a0, _ | ⟨a1, _ | ⟨a2, g⟩⟩⟩ <;> first | (simp only [lenC, lenN] at hlo hhi; omega) | (refine ⟨_, rfl, ?_⟩; refine xo_ia T_ rfl rfl rfl rfl rfl ⟨by omega, by omega⟩ rfl ?_; exact xo_fin rfl)
     refine DrawE.pure 0 1 rfl (.inr (by decide)) (fun L g hg hd => Nat.zero_le _) (fun g hlo hhi hF τ => ?_) ?_
     · rcases g with _ | ⟨a0, _ | ⟨a1, _ | ⟨a2, g⟩⟩⟩ <;> first | (simp only [lenC, lenN] at hlo hhi; omega) | (refine ⟨_, rfl, ?_⟩; refine xo_loadRN T_ rfl rfl rfl q1 rfl rfl ?_; exact xo_fin rfl)
     refine DrawE.pure 0 1 rfl (.inr (by decide)) (fun L g hg hd => Nat.zero_le _) (fun g hlo hhi hF τ => ?_) ?_
     · rcases g with _ | ⟨a0, _ | ⟨a1, _ | ⟨a2, g⟩⟩⟩ <;> first | (simp only [lenC, lenN] at hlo hhi; omega) | (refine ⟨_, rfl, ?_⟩; refine xo_mv rfl rfl rfl ?_; exact xo_fin rfl)
     refine DrawE.pure 0 1 rfl (.inr (by decide)) (fun L g hg hd => Nat.zero_le _) (fun g hlo hhi hF τ => ?_) ?_
     · rcases g with _ | ⟨a0, _ | ⟨a1, _ | ⟨a2, g⟩⟩⟩ <;> first | (simp only [lenC, lenN] at hlo hhi; omega) | (refine ⟨_, rfl, ?_⟩; refine xo_callB (fs := []) (cs := []) rfl rfl rfl window_enters rfl (fun w1 hw1 => window_calls n E A (some ad) D ng c ms.length c2 cd d m w1 hn hE hmk1 hd (hD.below hw1.kx.below)) ?_; exact xo_fin rfl)
     refine DrawE.eff 0 rfl (by decide) rfl (fun j hj => hj) (fun j g a hj => ?_) (fun L g hg hd => Nat.zero_le _) (fun g hgl hF τ => ?_) ?_
     · rcases j with _ | _ | _ | _ | _ | _ | _ | _ | _ | _ | j
       all_goals first | rfl | (rcases g with _ | ⟨a0, _ | ⟨a1, _ | ⟨a2, g⟩⟩⟩ <;> first | rfl | exact absurd hj (by decide) | exact absurd hj (by simp [List.getD]))
     · obtain rfl : g = [] := by
         rcases g with _ | ⟨a0, g⟩ <;> first | rfl | (exfalso; simp only [List.length_cons, List.length_nil] at hgl; omega)
       refine xo_alloc T_ rfl rfl rfl rfl (fun b9 => ?_)
       exact xo_finE ⟨b9, 0, none⟩ rfl trivial
     refine DrawE.eff 1 rfl (by decide) rfl (fun j hj => hj) (fun j g a hj => ?_) (fun L g hg hd => hg.2.1 8 (hd 8 (by decide))) (fun g hgl hF τ => ?_) ?_
     · rcases j with _ | _ | _ | _ | _ | _ | _ | _ | _ | _ | j
       all_goals first | rfl | (rcases g with _ | ⟨a0, _ | ⟨a1, _ | ⟨a2, g⟩⟩⟩ <;> first | rfl | exact absurd hj (by decide) | exact absurd hj (by simp [List.getD]))
     · obtain ⟨a0, rfl⟩ : ∃ a0, g = [a0] := by
         rcases g with _ | ⟨a0, _ | ⟨a1, _ | ⟨a2, g⟩⟩⟩ <;> first | exact ⟨_, rfl⟩ | rfl | (exfalso; simp only [List.length_cons, List.length_nil] at hgl; omega)
       refine xo_store T_ rfl rfl rfl rfl (by repeat first | exact memH | apply memT | apply memA) rfl rfl rfl rfl (by repeat (first | exact Upd.head | apply Upd.tail | apply Upd.app)) rfl ?_
       exact xo_finE ⟨0, 0, none⟩ rfl trivial
     exact DrawE.nil
   intro g hgl hF
   obtain ⟨a0, a1, rfl⟩ : ∃ a0 a1, g = [a0, a1] := by
     rcases g with _ | ⟨a0, _ | ⟨a1, _ | ⟨a2, g⟩⟩⟩ <;> first | exact ⟨_, _, rfl⟩ | (exfalso; simp only [List.length_cons, List.length_nil] at hgl; omega)
   with_reducible (repeat (first | refine xqT ?_ | refine xqB ?_ | refine xqS ?_))
   refine xc_slots [(1, .int .i64 (s : Int)), (2, .slice D n cd), (3, .pointer (some ⟨b3, 0, none⟩)), (6, .pointer (some ⟨b6, 0, none⟩)), (7, .pointer (some ⟨b7, 0, none⟩)), (8, .int .i64 (k : Int)), (9, .pointer (some ⟨a0.b, 0, none⟩))] ⟨rfl, rfl, rfl, rfl, rfl, rfl, rfl, trivial⟩ ?_
   with_reducible ((repeat refine xc_seq ?_); refine xcR ?_)
   refine xo_fa T_ rfl rfl rfl rfl rfl ?_
   refine xo_load0 T_ rfl rfl rfl (by repeat first | exact memH | apply memT | apply memA) rfl rfl ?_
   refine xo_fa T_ rfl rfl rfl rfl rfl ?_
   refine xo_load0 T_ rfl rfl rfl (by repeat first | exact memH | apply memT | apply memA) rfl rfl ?_
   refine xo_max rfl rfl rfl rfl ?_
   refine xo_fa T_ rfl rfl rfl rfl rfl ?_
   refine xo_load0 T_ rfl rfl rfl (by repeat first | exact memH | apply memT | apply memA) rfl rfl ?_
   refine xo_fa T_ rfl rfl rfl rfl rfl ?_
   refine xo_load0 T_ rfl rfl rfl (by repeat first | exact memH | apply memT | apply memA) rfl rfl ?_
   refine xo_min rfl rfl rfl rfl ?_
   refine xo_build TB_ rfl rfl rfl rfl rfl ?_
   refine xo_store T_ rfl rfl rfl rfl (by repeat first | exact memH | apply memT | apply memA) rfl rfl rfl rfl (by repeat (first | exact Upd.head | apply Upd.tail | apply Upd.app)) rfl ?_
   with_reducible (refine xo_nil ?_; (repeat (first | refine xqT ?_ | refine xqB ?_ | refine xqS ?_)); (repeat refine xc_seq ?_); refine xcR ?_)
   refine xo_mv rfl rfl rfl ?_
   refine xo_add rfl rfl rfl (by omega) rfl ?_
   refine xo_asg rfl rfl rfl ?_
   with_reducible (refine xo_nil ?_; (repeat (first | refine xqT ?_ | refine xqB ?_ | refine xqS ?_)))
   exact xq_again _ _ _ _ _ (k + 1) (by omega) (by omega) ⟨rfl, rfl, rfl, rfl, rfl, rfl, trivial⟩ (by rw [hst]; exact (by repeat (first | exact List.Sublist.refl _ | apply List.Sublist.cons_cons | apply List.Sublist.cons | exact List.nil_sublist _)))
 have hge : k = ms.length := by have := of_decide_eq_false h; omega
 subst hge
 with_reducible (refine xc_exit ?_; (repeat (first | refine xq_blockX ?_ | refine xq_thenE ?_ | refine xq_blockE rfl ?_ | refine xq_scopeE ?_)); (repeat (first | refine xqT ?_ | refine xqB ?_ | refine xqS ?_)); (repeat refine xc_seq ?_); refine xcR ?_)
 refine xo_loadN T_ rfl rfl rfl (by repeat first | exact memH | apply memT | apply memA) rfl rfl ?_
 refine xo_store T_ rfl rfl rfl rfl (by repeat first | exact memH | apply memT | apply memA) rfl rfl rfl rfl (by repeat (first | exact Upd.head | apply Upd.tail | apply Upd.app)) rfl ?_
 with_reducible (refine xo_nil ?_; (repeat (first | refine xqT ?_ | refine xqB ?_ | refine xqS ?_)); (repeat refine xc_seq ?_); refine xc_ret ?_; (repeat (first | refine xq_thenR ?_ | refine xq_blockR ?_ | refine xq_scopeR ?_)))
 exact xq_retC T_ rfl rfl rfl (by repeat first | exact memH | apply memT | apply memA) rfl fun w' hw => ⟨rfl, hw.kx.below⟩
theorem both_enters : ∀ args w, (callFunc 68 args).run Tryz.prog w = .ok (.enter 68 args) w := enters_of Tryz.func68 (by kernel_rfl) rfl
/-! ### far's row and the window's cell, in whatever order they are made -/
inductive FG where
 | f0
 | fr (r : Nat)
 | fc (c : Nat)
 | fb (r c : Nat)
 | fs (r c : Nat)
def FG.r : FG → Nat
 | .fr r => r
 | .fb r _ => r
 | .fs r _ => r
 | _ => 0
def FG.c : FG → Nat
 | .fc c => c
 | .fb _ c => c
 | .fs _ c => c
 | _ => 0
def okF (f a s : Nat) : List Nat → FG → Prop
 | L, .f0 => f ∉ L ∧ a ∉ L ∧ s ∉ L
 | L, .fr _ => f ∈ L ∧ a ∉ L ∧ s ∉ L
 | L, .fc _ => f ∉ L ∧ a ∈ L ∧ s ∉ L
 | L, .fb _ _ => f ∈ L ∧ a ∈ L ∧ s ∉ L
 | L, .fs _ _ => f ∈ L ∧ a ∈ L ∧ s ∈ L
def hF (win row : List Value) (η1 : Hp) : FG → Hp
 | .f0 => η1
 | .fr r => (r, true, cel row 3) :: η1
 | .fc c => (c, true, cel [.int .i64 0, .int .i64 0] 45) :: η1
 | .fb r c => (c, true, cel [.int .i64 0, .int .i64 0] 45) :: (r, true, cel row 3) :: η1
 | .fs r c => (c, true, cel win 45) :: (r, true, cel row 3) :: η1
/-- these blocks lie in the world -/
def BlIn (ζ : Hp) (w : World) : Prop := ∀ e ∈ ζ, ∃ o, w.heap[e.1]? = some o ∧ e.2.2 o
theorem WOK.bl_of {w0 : World} {X : Nat → Prop} {ζ η : Hp} {w : World} (h : WOK w0 X η w) (hs : ∀ e ∈ ζ, e ∈ η) : BlIn ζ w := fun e he => h.bl e (hs e he)
theorem intsD_cel {w : World} {r n : Nat} {d : Nat → Int} (h : BlIn [(r, true, cel (rowD n d) 3)] w) : IntsD w (some ⟨r, 0, none⟩) n d := by
 obtain ⟨o, h1, h2⟩ := h _ List.mem_cons_self
 rw [show o = _ from h2] at h1
 intro k hk
 rw [List.length_map, List.length_range] at hk
 refine ⟨_, rfl, ro1 ?_⟩
 rw [Addr.add_lit, cell_of_row w r _ _ _ _ h1]
 have := rowD_at d hk
 rw [show ((List.range n).map d).getD k 0 = d k by simp [List.getD_eq_getElem?_getD, hk]]
 simpa using this
theorem intsAt_orow {w : World} {b n cap : Nat} {xs : List Int} {o : Obj} (h : w.heap[b]? = some o) (hr : orow 3 1 n cap (xs.map (.int .i64)) o) (hn : xs.length = n) : IntsAt w (some ⟨b, 0, none⟩) xs := by
 obtain ⟨cur, rfl, h5, h6, h7, h8⟩ := hr
 intro k hk
 refine ⟨_, rfl, ro1 ?_⟩
 rw [Addr.add_lit, show 0 + (k : Int).toNat * szN 0 = k by rw [show szN 0 = 1 from rfl, Int.toNat_natCast]; omega, cell_of_row w b k _ _ _ h, ← Array.getElem?_toList]
 have hx : (xs.map (Value.int .i64))[k]? = some (.int .i64 (xs.getD k 0)) := by
   rw [List.getElem?_map, List.getElem?_eq_getElem hk]
   simp [List.getD_eq_getElem?_getD, List.getElem?_eq_getElem hk]
 rw [← h8, List.getElem?_take] at hx
 split at hx
 · exact hx
 · cases hx
theorem intsAt_hp {w : World} {r : RowR} {n : Nat} {xs : List Int} {η1 : Hp} (h : BlIn (hpR 3 1 r n (xs.map (.int .i64)) ++ η1) w) (hn : xs.length = n) (h0 : r = none → n = 0) : IntsAt w (valA r) xs := by
 cases r with
 | none => intro k hk; have := h0 rfl; omega
 | some p =>
   obtain ⟨o, h1, h2⟩ := h (p.1, true, orow 3 1 n p.2 (xs.map (.int .i64))) (List.Mem.head _)
   exact intsAt_orow h1 h2 hn
/-! ### some -/
theorem far_callsG (n : Nat) (E : Int) (A B Dl : Option Addr) (c m c2 cd : Nat) (gs : List GatT) (l : List Int) (room : Nat) (w : World) (hn : 1 ≤ n ∧ n ≤ 6) (hG : GatesR n gs) (hl : okD gs l) (hA : RowOf gatV 4 zGat w A gs) (hD : IntsAt w Dl l) (hr : room < n) :
   Calls Tryz.prog 69 #[.agg (scnV n A gs.length c E B m c2).toArray, .slice Dl gs.length cd, .int .i64 (room : Int)] w fun e w' => ∃ b, e = .returned (.slice (some ⟨b, 0, none⟩) n n) ∧ WOK w XNone [(b, true, cel (rowD n (roundsB (edgesL gs l) (startB 1000000 room) n)) 3)] w' := by
 have := far_calls n E A B Dl c m c2 cd gs l room w hn hG hl hA hD hr
 rw [okD_len hl] at this
 exact this
abbrev dR (n : Nat) (gs : List GatT) (room : Nat) (l : List Int) : Nat → Int := roundsB (edgesL gs l) (startB 1000000 room) n
def holdsR (n : Nat) (E : Int) (gs : List GatT) (room : Nat) (ls : List MarT) (l : List Int) : Bool := decide ((winR E (dR n gs room l) ls).f0 ≤ (winR E (dR n gs room l) ls).f1)
def someR (n : Nat) (E : Int) (gs : List GatT) (room : Nat) (ls : List MarT) : Bool := (allD gs).any (holdsR n E gs room ls)
theorem next_nil {gs : List GatT} (h : gs = []) (R E : Int) (A B : Option Addr) (c m c2 : Nat) (w : World) :
   Calls Tryz.prog 67 #[.agg (scnV R A gs.length c E B m c2).toArray, .slice none 0 0] w fun e w' => e = .returned (.bool false) ∧ Below w.heap.size w w' := by
 subst h
 refine x_calls (X := XNone) Tryz.func67 rfl rfl rfl ?_
 with_reducible ((repeat refine xc_seq ?_); refine xcR ?_)
 refine xo_box rfl rfl rfl rfl (fun b2 => ?_)
 refine xo_asg rfl rfl rfl ?_
 with_reducible (refine xo_nil ?_; (repeat (first | refine xqT ?_ | refine xqB ?_ | refine xqS ?_)); (repeat refine xc_seq ?_); refine xcR ?_)
 refine xo_mv rfl rfl rfl ?_
 refine xo_len T_ rfl rfl rfl rfl ?_
 refine xo_sub rfl rfl rfl (by omega) rfl ?_
 refine xo_asg rfl rfl rfl ?_
 with_reducible (refine xo_nil ?_; (repeat (first | refine xqT ?_ | refine xqB ?_ | refine xqS ?_)); (repeat refine xc_seq ?_); refine xc_block ?_)
 refine xc_loop (γ := Unit) (fun _ => True) (fun _ => [(5, .int .i64 (-1))]) (fun _ => []) (fun _ => 0) () trivial ⟨rfl, trivial⟩ (List.nil_sublist _) ?_
 rintro _ -
 with_reducible ((repeat refine xc_seq ?_); refine xcR ?_)
 refine xo_mv rfl rfl rfl ?_
 refine xo_geq rfl rfl rfl rfl ?_
 with_reducible (refine xo_nil ?_; (repeat (first | refine xqT ?_ | refine xqB ?_ | refine xqS ?_)); (repeat refine xc_seq ?_))
 refine xc_condF rfl ?_
 with_reducible (refine xc_exit ?_; (repeat (first | refine xq_blockX ?_ | refine xq_thenE ?_ | refine xq_blockE rfl ?_ | refine xq_scopeE ?_)); (repeat (first | refine xqT ?_ | refine xqB ?_ | refine xqS ?_)); (repeat refine xc_seq ?_); refine xcR ?_)
 refine xo_asg rfl rfl rfl ?_
 with_reducible (refine xo_nil ?_; (repeat (first | refine xqT ?_ | refine xqB ?_ | refine xqS ?_)); (repeat refine xc_seq ?_); refine xc_ret ?_; (repeat (first | refine xq_thenR ?_ | refine xq_blockR ?_ | refine xq_scopeR ?_)))
 exact xq_ret1 rfl rfl fun w' hw => ⟨rfl, hw.kx.below⟩
/-- where the list of delays stands -/
def restD (gs : List GatT) : Option (List Int) → List (List Int)
 | some now => tailD gs now
 | none => []
def rowN (gs : List GatT) (q : Option (List Int)) : List Int := q.getD (leastD gs)
theorem okD_60 {n : Nat} {gs : List GatT} (hG : GatesR n gs) {now : List Int} (h : okD gs now) : ∀ x ∈ now, 0 ≤ x ∧ x ≤ 1000 := by
 intro x hx
 obtain ⟨i, hi, rfl⟩ := List.getElem_of_mem hx
 have hl := okD_len h
 have h1 := okD_at h i (by omega)
 have h2 := hG.ok _ (getD_mem gs zGat i (by omega))
 rw [show now.getD i 0 = now[i] by simp [List.getD_eq_getElem?_getD, List.getElem?_eq_getElem hi]] at h1
 omega
/-- the next list of delays, in the row that the loop keeps -/
theorem next_row (n : Nat) (E : Int) (A B : Option Addr) (c m c2 : Nat) (gs : List GatT) (rd : RowR) (now : List Int) {w0 : World} {η1 : Hp} {w : World} (hG : GatesR n gs) (hA : RowOf gatV 4 zGat w A gs) (hAlt : 0 < gs.length → ∀ ad, A = some ad → ad.block < w0.heap.size) (hok : okD gs now) (hrd : rd = none → gs.length = 0)
   (hw : WOK w0 XNone (hpR 3 1 rd gs.length (now.map (.int .i64)) ++ η1) w) :
   Calls Tryz.prog 67 #[.agg (scnV n A gs.length c E B m c2).toArray, .slice (valA rd) gs.length (valC rd)] w fun e w' => e = .returned (.bool (nextD gs now).isSome) ∧ WOK w0 XNone (hpR 3 1 rd gs.length ((rowN gs (nextD gs now)).map (.int .i64)) ++ η1) w' := by
 cases rd with
 | none =>
   have h0 : gs = [] := List.eq_nil_of_length_eq_zero (hrd rfl)
   subst h0
   refine (next_nil rfl n E A B c m c2 w).mono ?_
   rintro e w' ⟨rfl, hb⟩
   cases now with
   | nil => exact ⟨rfl, hw.below hb⟩
   | cons x xs => exact hok.elim
 | some p =>
   obtain ⟨o, h1, h2⟩ := hw.bl (p.1, true, orow 3 1 gs.length p.2 (now.map (.int .i64))) (List.Mem.head _)
   have hown : w0.heap.size ≤ p.1 := hw.own (List.Mem.head _)
   refine (next_calls n E A B c m c2 gs p.1 p.2 now w o hA hG.len (fun h0 ad e q => by have := hAlt h0 ad e; omega) h1 h2 (okD_len hok) (okD_60 hG hok)).mono ?_
   rintro e w' ⟨rfl, hk, o', h3, h4⟩
   exact ⟨rfl, hw.updK (φ' := orow 3 1 gs.length p.2 ((rowN gs (nextD gs now)).map (.int .i64))) Upd.head hk h3 h4⟩
theorem tail_next {gs : List GatT} (hg : ∀ g ∈ gs, g.f2.f0 ≤ g.f2.f1) {now : List Int} (h : okD gs now) : tailD gs now = now :: restD gs (nextD gs now) := by
 rw [tailD_step hg h]
 cases nextD gs now <;> rfl
theorem next_okD {gs : List GatT} (hg : ∀ g ∈ gs, g.f2.f0 ≤ g.f2.f1) {now : List Int} (h : okD gs now) : ∀ l, nextD gs now = some l → okD gs l := fun l e => next_ok hg h e
/-- a scene that came in, for the reference -/
structure SceneR (w : World) (n : Nat) (E : Int) (A B : Option Addr) (gs : List GatT) (ms : List MarT) : Prop where
 n6 : 1 ≤ n ∧ n ≤ 6
 E6 : 0 ≤ E ∧ E ≤ 600
 G : GatesR n gs
 m8 : ms.length ≤ 8
 mks : ∀ m ∈ ms, MarkR n m
 gates : RowOf gatV 4 zGat w A gs
 marks : RowOf marV 7 zMar w B ms
theorem SceneR.below {w w' : World} {n : Nat} {E : Int} {A B : Option Addr} {gs : List GatT} {ms : List MarT} (h : SceneR w n E A B gs ms) (hb : Below w.heap.size w w') : SceneR w' n E A B gs ms := ⟨h.n6, h.E6, h.G, h.m8, h.mks, h.gates.below hb, h.marks.below hb⟩
theorem gatV_0 (x : GatT) : ∃ v, (gatV x)[0]? = some v := ⟨_, rfl⟩
set_option maxHeartbeats 40000000 in
theorem some_calls (n : Nat) (E : Int) (A B : Option Addr) (c c2 : Nat) (gs : List GatT) (ms : List MarT) (s room : Nat) (w : World) (hs : SceneR w n E A B gs ms) (hs8 : s ≤ 256) (hr : room < n) :
   Calls Tryz.prog 41 #[.agg (scnV n A gs.length c E B ms.length c2).toArray, .int .i64 (s : Int), .int .i64 (room : Int)] w fun e w' => e = .returned (.bool (someR n E gs room (setOf ms s))) ∧ Below w.heap.size w w' := by
 obtain ⟨hn, hE, hG, hm8, hmk, hA, hM⟩ := hs
 have hle : ∀ g ∈ gs, g.f2.f0 ≤ g.f2.f1 := fun g hg => (hG.ok g hg).2.2.2.2.1
 have hAlt := hA.lt gatV_0
 refine x_calls (X := XNone) Tryz.func41 rfl rfl rfl ?_
 with_reducible ((repeat refine xc_seq ?_); refine xcR ?_)
 refine xo_box rfl rfl rfl rfl (fun b3 => ?_)
 refine xo_asg rfl rfl rfl ?_
 with_reducible (refine xo_nil ?_; (repeat (first | refine xqT ?_ | refine xqB ?_ | refine xqS ?_)); (repeat refine xc_seq ?_); refine xcR ?_)
 refine xo_loadN T_ rfl rfl rfl (by repeat first | exact memH | apply memT | apply memA) rfl rfl ?_
 refine xo_call (fs := []) (cs := []) rfl rfl rfl least_enters rfl (fun w1 hw1 => (least_calls n E A B c ms.length c2 gs w1 (hA.below hw1.kx.below) hG.len).mono ?_)
 rintro e w2 ⟨rd, rfl, hrw, hb⟩
 have h11 := hrw.1
 refine ⟨_, _, rfl, hw1.row hb hrw, ?_⟩
 clear hrw hb hw1
 refine xo_asg rfl rfl rfl ?_
 with_reducible (refine xo_nil ?_; (repeat (first | refine xqT ?_ | refine xqB ?_ | refine xqS ?_)))
 have hll : (leastD gs).length = gs.length := by simp [leastD]
 have hrd : rd = none → gs.length = 0 := fun q => by rw [← hll, h11 q]; rfl
 rw [hll]
 with_reducible ((repeat refine xc_seq ?_); refine xcR ?_)
 refine xo_asg rfl rfl rfl ?_
 with_reducible (refine xo_nil ?_; (repeat (first | refine xqT ?_ | refine xqB ?_ | refine xqS ?_)))
 refine xc_slots [(1, .int .i64 (s : Int)), (2, .int .i64 (room : Int)), (3, .pointer (some ⟨b3, 0, none⟩)), (7, .slice (valA rd) gs.length (valC rd)), (8, .bool true)] ⟨rfl, rfl, rfl, congrArg some (valR_eq hrd), rfl, trivial⟩ ?_
 with_reducible ((repeat refine xc_seq ?_); refine xc_block ?_)
 refine xc_loop (γ := Option (List Int)) (fun q => (∀ l, q = some l → okD gs l) ∧ someR n E gs room (setOf ms s) = (restD gs q).any (holdsR n E gs room (setOf ms s))) (fun q => [(1, .int .i64 (s : Int)), (2, .int .i64 (room : Int)), (3, .pointer (some ⟨b3, 0, none⟩)), (7, .slice (valA rd) gs.length (valC rd)), (8, .bool q.isSome)])
   (fun q => hpR 3 1 rd gs.length ((rowN gs q).map (.int .i64)) ++ [(b3, true, cel (scnV n A gs.length c E B ms.length c2) 25)]) (fun q => (restD gs q).length) (some (leastD gs)) ⟨fun l e => by cases e; exact least_ok hle, by rw [restD, tailD_least hle]; rfl⟩ ⟨rfl, rfl, rfl, rfl, rfl, trivial⟩ (List.Sublist.refl _) ?_
 rintro (_ | now) ⟨hq, hall⟩
 · with_reducible repeat refine xc_seq ?_
   with_reducible refine xcR ?_
   refine xo_mv rfl rfl rfl ?_
   with_reducible (refine xo_nil ?_; (repeat (first | refine xqT ?_ | refine xqB ?_ | refine xqS ?_)); (repeat refine xc_seq ?_))
   refine xc_condF rfl ?_
   with_reducible (refine xc_exit ?_; (repeat (first | refine xq_blockX ?_ | refine xq_thenE ?_ | refine xq_blockE rfl ?_ | refine xq_scopeE ?_)); (repeat (first | refine xqT ?_ | refine xqB ?_ | refine xqS ?_)); (repeat refine xc_seq ?_); refine xcR ?_)
   refine xo_asg rfl rfl rfl ?_
   with_reducible (refine xo_nil ?_; (repeat (first | refine xqT ?_ | refine xqB ?_ | refine xqS ?_)); (repeat refine xc_seq ?_); refine xc_ret ?_; (repeat (first | refine xq_thenR ?_ | refine xq_blockR ?_ | refine xq_scopeR ?_)))
   exact xq_ret1 rfl rfl fun w' hw => ⟨by rw [hall]; rfl, hw.kx.below⟩
 have hok := hq now rfl
 have hnl := okD_len hok
 have hdd : InN (dR n gs room now) := (InN.start room).rounds (okD_pos hok fun g hg => (hG.ok g hg).2.2.2.1) n
 have hstep : someR n E gs room (setOf ms s) = (holdsR n E gs room (setOf ms s) now || (restD gs (nextD gs now)).any (holdsR n E gs room (setOf ms s))) := by
   rw [hall, restD, tail_next hle hok, List.any_cons]
 have hlen : (restD gs (nextD gs now)).length < (restD gs (some now)).length := by
   rw [show restD gs (some now) = tailD gs now from rfl, tail_next hle hok, List.length_cons]
   omega
 have hnok := next_okD hle hok
 clear hq hall
 unfold holdsR at hstep
 with_reducible ((repeat refine xc_seq ?_); refine xcR ?_)
 refine xo_mv rfl rfl rfl ?_
 with_reducible (refine xo_nil ?_; (repeat (first | refine xqT ?_ | refine xqB ?_ | refine xqS ?_)); (repeat refine xc_seq ?_))
 refine xc_condT rfl ?_
 with_reducible (refine xc_skip ?_; (repeat (first | refine xqT ?_ | refine xqB ?_ | refine xqS ?_)); (repeat refine xc_seq ?_); refine xc_block ?_)
 show XC _ _ _ _ _ _ _ _ _ (hpR 3 1 rd gs.length (now.map (.int .i64)) ++ [(b3, true, cel (scnV n A gs.length c E B ms.length c2) 25)]) _
 have hints : ∀ w1, BlIn (hpR 3 1 rd gs.length (now.map (.int .i64)) ++ [(b3, true, cel (scnV n A gs.length c E B ms.length c2) 25)]) w1 → IntsAt w1 (valA rd) now := fun w1 h => intsAt_hp h hnl hrd
 have hb3 : (b3, true, cel (scnV n A gs.length c E B ms.length c2) 25) ∈ hpR 3 1 rd gs.length (now.map (.int .i64)) ++ [(b3, true, cel (scnV n A gs.length c E B ms.length c2) 25)] := List.mem_append_right _ (List.Mem.head _)
 have hfin : ∀ w1, WOK w XNone (hpR 3 1 rd gs.length (now.map (.int .i64)) ++ [(b3, true, cel (scnV n A gs.length c E B ms.length c2) 25)]) w1 → WOK w XNone (hpR 3 1 rd gs.length (now.map (.int .i64)) ++ [(b3, true, cel (scnV n A gs.length c E B ms.length c2) 25)]) w1 := fun w1 h => h
 generalize hη : hpR 3 1 rd gs.length (now.map (.int .i64)) ++ [(b3, true, cel (scnV n A gs.length c E B ms.length c2) 25)] = η1 at hints hb3 ⊢
 refine xc_slots [(1, .int .i64 (s : Int)), (2, .int .i64 (room : Int)), (3, .pointer (some ⟨b3, 0, none⟩)), (7, .slice (valA rd) gs.length (valC rd))] ⟨rfl, rfl, rfl, rfl, trivial⟩ ?_
 with_reducible (repeat refine xc_seq ?_)
 refine xc_drawG (fun g : FG => [.agg (scnV n A gs.length c E B ms.length c2).toArray, .int .i64 (s : Int), .agg (scnV n A gs.length c E B ms.length c2).toArray, .slice (valA rd) gs.length (valC rd), .int .i64 (room : Int), .slice (some ⟨g.r, 0, none⟩) n n, .agg (spaV (winR E (dR n gs room now) (setOf ms s))).toArray, .pointer (some ⟨g.c, 0, none⟩), undef]) (hF (spaV (winR E (dR n gs room now) (setOf ms s))) (rowD n (dR n gs room now)) η1) (okF 5 7 8) .f0 ?_ rfl (fun g => rfl) T_.mixed rfl rfl rfl rfl ?_ ?_
 · simp [okF]
 · apply DrawG.pure (fun L g h => by cases g <;> simpa [okF] using h)
   · intro L g hg hi hd τ
     cases g
     all_goals first
       | exact absurd (hg 0 (by decide)) hi
       | (refine ⟨_, rfl, ?_⟩; refine xo_loadN T_ (cs := scnV n A gs.length c E B ms.length c2) rfl rfl rfl (by first | exact hb3 | exact List.mem_cons_of_mem _ hb3 | exact List.mem_cons_of_mem _ (List.mem_cons_of_mem _ hb3)) rfl rfl ?_; exact xo_fin rfl)
   apply DrawG.pure (fun L g h => by cases g <;> simpa [okF] using h)
   · intro L g hg hi hd τ
     cases g
     all_goals first
       | exact absurd (hg 1 (by decide)) hi
       | (refine ⟨_, rfl, ?_⟩; refine xo_mv rfl rfl rfl ?_; exact xo_fin rfl)
   apply DrawG.pure (fun L g h => by cases g <;> simpa [okF] using h)
   · intro L g hg hi hd τ
     cases g
     all_goals first
       | exact absurd (hg 2 (by decide)) hi
       | (refine ⟨_, rfl, ?_⟩; refine xo_loadN T_ (cs := scnV n A gs.length c E B ms.length c2) rfl rfl rfl (by first | exact hb3 | exact List.mem_cons_of_mem _ hb3 | exact List.mem_cons_of_mem _ (List.mem_cons_of_mem _ hb3)) rfl rfl ?_; exact xo_fin rfl)
   apply DrawG.pure (fun L g h => by cases g <;> simpa [okF] using h)
   · intro L g hg hi hd τ
     cases g
     all_goals first
       | exact absurd (hg 3 (by decide)) hi
       | (refine ⟨_, rfl, ?_⟩; refine xo_mv rfl rfl rfl ?_; exact xo_fin rfl)
   apply DrawG.pure (fun L g h => by cases g <;> simpa [okF] using h)
   · intro L g hg hi hd τ
     cases g
     all_goals first
       | exact absurd (hg 4 (by decide)) hi
       | (refine ⟨_, rfl, ?_⟩; refine xo_mv rfl rfl rfl ?_; exact xo_fin rfl)
   apply DrawG.cons
   · intro L g hg hi hd τ
     have hdn : True := trivial
     rcases g with _ | r9 | c9 | ⟨r9, c9⟩ | ⟨r9, c9⟩
     · refine xo_call (fs := []) (cs := []) rfl rfl rfl far_enters rfl (fun w1 hw1 => (far_callsG n E A B (valA rd) c ms.length c2 (valC rd) gs now room w1 hn hG hok (hA.below hw1.kx.below) (hints w1 (hw1.bl_of fun e he => he)) hr).mono ?_)
       rintro e w2 ⟨b9, rfl, hz⟩
       refine ⟨_, _, rfl, hw1.join hz (fun e he => by rw [List.mem_singleton.1 he]), ?_⟩
       clear hz hw1
       exact xo_nil fun a w1 ha hw1 => ⟨.fr b9, ⟨List.mem_cons_self, by simpa using hg.2.1, by simpa using hg.2.2⟩, (fun k hk => by rcases k with _ | _ | _ | _ | _ | _ | _ | _ | _ | k <;> first | rfl | exact absurd hk hg.1), ⟨_, rfl, ha⟩, hw1⟩
     · exact absurd hg.1 hi
     · refine xo_call (fs := []) (cs := []) rfl rfl rfl far_enters rfl (fun w1 hw1 => (far_callsG n E A B (valA rd) c ms.length c2 (valC rd) gs now room w1 hn hG hok (hA.below hw1.kx.below) (hints w1 (hw1.bl_of fun e he => List.mem_cons_of_mem _ he)) hr).mono ?_)
       rintro e w2 ⟨b9, rfl, hz⟩
       refine ⟨_, _, rfl, hw1.join hz (fun e he => by rw [List.mem_singleton.1 he]), ?_⟩
       clear hz hw1
       exact xo_nil fun a w1 ha hw1 => ⟨.fb b9 c9, ⟨List.mem_cons_self, List.mem_cons_of_mem _ hg.2.1, by simpa using hg.2.2⟩, (fun k hk => by rcases k with _ | _ | _ | _ | _ | _ | _ | _ | _ | k <;> first | rfl | exact absurd hk hg.1), ⟨_, rfl, ha⟩, hw1.perm (List.Perm.swap _ _ _)⟩
     · exact absurd hg.1 hi
     · exact absurd hg.1 hi
   apply DrawG.cons
   · intro L g hg hi hd τ
     rcases g with _ | r9 | c9 | ⟨r9, c9⟩ | ⟨r9, c9⟩
     · exact absurd (hd 5 (by decide)) hg.1
     · refine xo_callB (fs := []) (cs := []) rfl rfl rfl both_enters rfl (fun w1 hw1 => both_calls n E A B (some ⟨r9, 0, none⟩) gs.length c c2 n (dR n gs room now) ms s w1 hn hE hm8 hmk (hM.below hw1.kx.below) hs8 hdd (intsD_cel (hw1.bl_of (fun e he => by rw [List.mem_singleton.1 he]; exact List.Mem.head _)))) ?_
       exact xo_nil fun a w1 ha hw1 => ⟨.fr r9, by simpa [okF] using hg, fun _ _ => rfl, ⟨_, rfl, ha⟩, hw1⟩
     · exact absurd (hd 5 (by decide)) hg.1
     · refine xo_callB (fs := []) (cs := []) rfl rfl rfl both_enters rfl (fun w1 hw1 => both_calls n E A B (some ⟨r9, 0, none⟩) gs.length c c2 n (dR n gs room now) ms s w1 hn hE hm8 hmk (hM.below hw1.kx.below) hs8 hdd (intsD_cel (hw1.bl_of (fun e he => by rw [List.mem_singleton.1 he]; exact List.Mem.tail _ (List.Mem.head _))))) ?_
       exact xo_nil fun a w1 ha hw1 => ⟨.fb r9 c9, by simpa [okF] using hg, fun _ _ => rfl, ⟨_, rfl, ha⟩, hw1⟩
     · refine xo_callB (fs := []) (cs := []) rfl rfl rfl both_enters rfl (fun w1 hw1 => both_calls n E A B (some ⟨r9, 0, none⟩) gs.length c c2 n (dR n gs room now) ms s w1 hn hE hm8 hmk (hM.below hw1.kx.below) hs8 hdd (intsD_cel (hw1.bl_of (fun e he => by rw [List.mem_singleton.1 he]; exact List.Mem.tail _ (List.Mem.head _))))) ?_
       exact xo_nil fun a w1 ha hw1 => ⟨.fs r9 c9, by simpa [okF] using hg, fun _ _ => rfl, ⟨_, rfl, ha⟩, hw1⟩
   apply DrawG.cons
   · intro L g hg hi hd τ
     rcases g with _ | r9 | c9 | ⟨r9, c9⟩ | ⟨r9, c9⟩
     · refine xo_alloc T_ rfl rfl rfl rfl (fun b9 => ?_)
       exact xo_nil fun a w1 ha hw1 => ⟨.fc b9, ⟨by simpa using hg.1, List.mem_cons_self, by simpa using hg.2.2⟩, (fun k hk => by rcases k with _ | _ | _ | _ | _ | _ | _ | _ | _ | k <;> first | rfl | exact absurd hk hg.2.1), ⟨_, rfl, ha⟩, hw1⟩
     · refine xo_alloc T_ rfl rfl rfl rfl (fun b9 => ?_)
       exact xo_nil fun a w1 ha hw1 => ⟨.fb r9 b9, ⟨List.mem_cons_of_mem _ hg.1, List.mem_cons_self, by simpa using hg.2.2⟩, (fun k hk => by rcases k with _ | _ | _ | _ | _ | _ | _ | _ | _ | k <;> first | rfl | exact absurd hk hg.2.1), ⟨_, rfl, ha⟩, hw1⟩
     · exact absurd hg.2.1 hi
     · exact absurd hg.2.1 hi
     · exact absurd hg.2.1 hi
   apply DrawG.cons
   · intro L g hg hi hd τ
     rcases g with _ | r9 | c9 | ⟨r9, c9⟩ | ⟨r9, c9⟩
     · exact absurd (hd 5 (by decide)) hg.1
     · exact absurd (hd 7 (by decide)) hg.2.1
     · exact absurd (hd 5 (by decide)) hg.1
     · refine xo_store T_ (cs := [.int .i64 0, .int .i64 0]) (cs' := spaV (winR E (dR n gs room now) (setOf ms s))) (vs := spaV (winR E (dR n gs room now) (setOf ms s))) rfl rfl rfl rfl (List.Mem.head _) rfl rfl rfl rfl Upd.head rfl ?_
       exact xo_nil fun a w1 ha hw1 => ⟨.fs r9 c9, ⟨List.mem_cons_of_mem _ hg.1, List.mem_cons_of_mem _ hg.2.1, List.mem_cons_self⟩, fun _ _ => rfl, ⟨_, rfl, ha⟩, hw1⟩
     · exact absurd hg.2.2 hi
   exact DrawG.nil
 intro L g hg hall
 obtain ⟨r9, c9, rfl⟩ : ∃ r c, g = .fs r c := by
   have h9 := hall 8 (by decide)
   rcases g with _ | r9 | c9 | ⟨r9, c9⟩ | ⟨r9, c9⟩
   · exact absurd h9 hg.2.2
   · exact absurd h9 hg.2.2
   · exact absurd h9 hg.2.2
   · exact absurd h9 hg.2.2
   · exact ⟨r9, c9, rfl⟩
 with_reducible (repeat (first | refine xqT ?_ | refine xqB ?_ | refine xqS ?_))
 refine xc_slots [(1, .int .i64 (s : Int)), (2, .int .i64 (room : Int)), (3, .pointer (some ⟨b3, 0, none⟩)), (7, .slice (valA rd) gs.length (valC rd)), (9, .pointer (some ⟨c9, 0, none⟩))] ⟨rfl, rfl, rfl, rfl, rfl, trivial⟩ ?_
 cases hh : decide ((winR E (dR n gs room now) (setOf ms s)).f0 ≤ (winR E (dR n gs room now) (setOf ms s)).f1)
 · rw [hh, Bool.false_or] at hstep
   with_reducible ((repeat refine xc_seq ?_); refine xcR ?_)
   refine xo_fa T_ rfl rfl rfl rfl rfl ?_
   refine xo_load0 T_ (cs := spaV (winR E (dR n gs room now) (setOf ms s))) rfl rfl rfl (List.Mem.head _) rfl rfl ?_
   refine xo_fa T_ rfl rfl rfl rfl rfl ?_
   refine xo_load0 T_ (cs := spaV (winR E (dR n gs room now) (setOf ms s))) rfl rfl rfl (List.Mem.head _) rfl rfl ?_
   refine xo_leq rfl rfl rfl rfl ?_
   refine xo_as (i := 27) rfl (congrArg Value.bool hh) ?_
   with_reducible (refine xo_nil ?_; (repeat (first | refine xqT ?_ | refine xqB ?_ | refine xqS ?_)); (repeat refine xc_seq ?_))
   refine xc_condF rfl ?_
   with_reducible (refine xc_skip ?_; (repeat (first | refine xqT ?_ | refine xqB ?_ | refine xqS ?_)))
   subst hη
   with_reducible ((repeat refine xc_seq ?_); refine xcR ?_)
   refine xo_loadN T_ (cs := scnV n A gs.length c E B ms.length c2) rfl rfl rfl (List.mem_cons_of_mem _ (List.mem_cons_of_mem _ hb3)) rfl rfl ?_
   refine xo_mv rfl rfl rfl ?_
   refine xo_call (fs := []) (cs := []) rfl rfl rfl next_enters rfl (fun w1 hw1 => (next_row n E A B c ms.length c2 gs rd now (w0 := w) hG (hA.below hw1.kx.below) hAlt hok hrd (hw1.sub (List.Sublist.cons _ (List.sublist_cons_self _ _)))).mono ?_)
   rintro e w2 ⟨rfl, hz⟩
   refine ⟨_, _, rfl, hz, ?_⟩
   clear hz hw1
   refine xo_asg rfl rfl rfl ?_
   with_reducible (refine xo_nil ?_; (repeat (first | refine xqT ?_ | refine xqB ?_ | refine xqS ?_)))
   exact xq_again _ _ _ _ _ (nextD gs now) ⟨hnok, hstep⟩ hlen ⟨rfl, rfl, rfl, rfl, rfl, trivial⟩ (List.Sublist.refl _)
 · rw [hh, Bool.true_or] at hstep
   rw [hstep]
   with_reducible ((repeat refine xc_seq ?_); refine xcR ?_)
   refine xo_fa T_ rfl rfl rfl rfl rfl ?_
   refine xo_load0 T_ (cs := spaV (winR E (dR n gs room now) (setOf ms s))) rfl rfl rfl (List.Mem.head _) rfl rfl ?_
   refine xo_fa T_ rfl rfl rfl rfl rfl ?_
   refine xo_load0 T_ (cs := spaV (winR E (dR n gs room now) (setOf ms s))) rfl rfl rfl (List.Mem.head _) rfl rfl ?_
   refine xo_leq rfl rfl rfl rfl ?_
   refine xo_as (i := 27) rfl (congrArg Value.bool hh) ?_
   with_reducible (refine xo_nil ?_; (repeat (first | refine xqT ?_ | refine xqB ?_ | refine xqS ?_)); (repeat refine xc_seq ?_))
   refine xc_condT rfl ?_
   with_reducible ((repeat refine xc_seq ?_); refine xcR ?_)
   refine xo_asg rfl rfl rfl ?_
   with_reducible (refine xo_nil ?_; (repeat (first | refine xqT ?_ | refine xqB ?_ | refine xqS ?_)); (repeat refine xc_seq ?_); refine xc_ret ?_; (repeat (first | refine xq_thenR ?_ | refine xq_blockR ?_ | refine xq_scopeR ?_)))
   exact xq_ret1 rfl rfl fun w' hw => ⟨rfl, hw.kx.below⟩
theorem some_enters : ∀ args w, (callFunc 41 args).run Tryz.prog w = .ok (.enter 41 args) w := enters_of Tryz.func41 (by kernel_rfl) rfl
/-! ### rooms -/
def roomsRef (n : Nat) (E : Int) (gs : List GatT) (ls : List MarT) (k : Nat) : List Nat := (List.range k).filter fun r => someR n E gs r ls
theorem rrooms_calls (n : Nat) (E : Int) (A B : Option Addr) (c c2 : Nat) (gs : List GatT) (ms : List MarT) (s : Nat) (w : World) (hs : SceneR w n E A B gs ms) (hs8 : s ≤ 256) :
   Calls Tryz.prog 48 #[.agg (scnV n A gs.length c E B ms.length c2).toArray, .int .i64 (s : Int)] w fun e w' => ∃ rr : RowR, e = .returned (valR rr (roomsRef n E gs (setOf ms s) n).length) ∧ RowAt 3 w.heap.size w' rr (intsN (roomsRef n E gs (setOf ms s) n)) ∧ Below w.heap.size w w' := by
 have hn := hs.n6
 refine x_calls (X := XNone) Tryz.func48 rfl rfl rfl ?_
 with_reducible ((repeat refine xc_seq ?_); refine xcR ?_)
 refine xo_box rfl rfl rfl rfl (fun b2 => ?_)
 refine xo_asg rfl rfl rfl ?_
 with_reducible (refine xo_nil ?_; (repeat (first | refine xqT ?_ | refine xqB ?_ | refine xqS ?_)); (repeat refine xc_seq ?_); refine xcR ?_)
 refine xo_asg rfl rfl rfl ?_
 with_reducible (refine xo_nil ?_; (repeat (first | refine xqT ?_ | refine xqB ?_ | refine xqS ?_)); (repeat refine xc_seq ?_); refine xcR ?_)
 refine xo_asg rfl rfl rfl ?_
 with_reducible (refine xo_nil ?_; (repeat (first | refine xqT ?_ | refine xqB ?_ | refine xqS ?_)); (repeat refine xc_seq ?_); refine xc_block ?_)
 refine xc_loop (γ := Nat × RowR) (fun q => q.1 ≤ n ∧ (q.2 = none → (intsN (roomsRef n E gs (setOf ms s) q.1)).length = 0)) (fun q => [(1, .int .i64 (s : Int)), (2, .pointer (some ⟨b2, 0, none⟩)), (5, valR q.2 (intsN (roomsRef n E gs (setOf ms s) q.1)).length), (6, .int .i64 (q.1 : Int))])
   (fun q => hpR 3 1 q.2 (intsN (roomsRef n E gs (setOf ms s) q.1)).length ((intsN (roomsRef n E gs (setOf ms s) q.1)).map (.int .i64)) ++ [(b2, true, cel (scnV n A gs.length c E B ms.length c2) 25)]) (fun q => n - q.1) (0, none) ⟨Nat.zero_le _, fun _ => rfl⟩ ⟨rfl, rfl, rfl, rfl, trivial⟩ (by repeat (first | exact List.Sublist.refl _ | apply List.Sublist.cons_cons | apply List.Sublist.cons | exact List.nil_sublist _)) ?_
 rintro ⟨k, rr⟩ ⟨hk, hrr⟩
 simp only at hk hrr
 with_reducible ((repeat refine xc_seq ?_); refine xcR ?_)
 refine xo_mv rfl rfl rfl ?_
 refine xo_fa T_ rfl rfl rfl rfl rfl ?_
 refine xo_load0 T_ (b := b2) (wr := true) (cs := scnV n A gs.length c E B ms.length c2) (te := 25) rfl rfl rfl (by repeat first | exact memH | apply memT | apply memA) rfl rfl ?_
 refine xo_lss rfl rfl rfl rfl ?_
 with_reducible (refine xo_nil ?_; (repeat (first | refine xqT ?_ | refine xqB ?_ | refine xqS ?_)); (repeat refine xc_seq ?_))
 refine xc_cond rfl (fun h => ?_) (fun h => ?_)
 · have hlt : k < n := by have := of_decide_eq_true h; omega
   have hst : intsN (roomsRef n E gs (setOf ms s) (k + 1)) = if someR n E gs k (setOf ms s) = true then intsN (roomsRef n E gs (setOf ms s) k) ++ [(k : Int)] else intsN (roomsRef n E gs (setOf ms s) k) := by
     unfold roomsRef intsN
     rw [List.range_succ, List.filter_append, List.filter_cons, List.filter_nil]
     cases h : someR n E gs k (setOf ms s) <;> simp
   have hlen : (intsN (roomsRef n E gs (setOf ms s) k)).length ≤ k := by
     have := List.length_filter_le (fun r => someR n E gs r (setOf ms s)) (List.range k)
     rw [List.length_range] at this
     simpa [intsN, roomsRef] using this
   generalize intsN (roomsRef n E gs (setOf ms s) k) = L at hrr hst hlen
   with_reducible (refine xc_skip ?_; (repeat (first | refine xqT ?_ | refine xqB ?_ | refine xqS ?_)); (repeat refine xc_seq ?_); refine xc_block ?_)
   cases hb : someR n E gs k (setOf ms s)
   · rw [hb, if_neg Bool.false_ne_true] at hst
     with_reducible ((repeat refine xc_seq ?_); refine xcR ?_)
     refine xo_loadN T_ (b := b2) (wr := true) (cs := scnV n A gs.length c E B ms.length c2) (te := 25) rfl rfl rfl (by repeat first | exact memH | apply memT | apply memA) rfl rfl ?_
     refine xo_mv rfl rfl rfl ?_
     refine xo_mv rfl rfl rfl ?_
     refine xo_callB (fs := []) (cs := []) rfl rfl rfl some_enters rfl (fun w1 hw1 => some_calls n E A B c c2 gs ms s k w1 (hs.below hw1.kx.below) hs8 hlt) ?_
     refine xo_as (i := 16) rfl (congrArg Value.bool hb) ?_
     with_reducible (refine xo_nil ?_; (repeat (first | refine xqT ?_ | refine xqB ?_ | refine xqS ?_)); (repeat refine xc_seq ?_))
     refine xc_condF rfl ?_
     with_reducible (refine xc_skip ?_; (repeat (first | refine xqT ?_ | refine xqB ?_ | refine xqS ?_)); (repeat refine xc_seq ?_); refine xcR ?_)
     refine xo_mv rfl rfl rfl ?_
     refine xo_add rfl rfl rfl (by omega) rfl ?_
     refine xo_asg rfl rfl rfl ?_
     with_reducible (refine xo_nil ?_; (repeat (first | refine xqT ?_ | refine xqB ?_ | refine xqS ?_)))
     exact xq_again _ _ _ _ _ (k + 1, rr) ⟨hlt, fun q => by rw [hst]; exact hrr q⟩ (by simp only; omega) ⟨rfl, rfl, by rw [hst]; rfl, rfl, trivial⟩ (by rw [hst]; exact List.Sublist.refl _)
   · rw [hb, if_pos rfl] at hst
     with_reducible ((repeat refine xc_seq ?_); refine xcR ?_)
     refine xo_loadN T_ (b := b2) (wr := true) (cs := scnV n A gs.length c E B ms.length c2) (te := 25) rfl rfl rfl (by repeat first | exact memH | apply memT | apply memA) rfl rfl ?_
     refine xo_mv rfl rfl rfl ?_
     refine xo_mv rfl rfl rfl ?_
     refine xo_callB (fs := []) (cs := []) rfl rfl rfl some_enters rfl (fun w1 hw1 => some_calls n E A B c c2 gs ms s k w1 (hs.below hw1.kx.below) hs8 hlt) ?_
     refine xo_as (i := 16) rfl (congrArg Value.bool hb) ?_
     with_reducible (refine xo_nil ?_; (repeat (first | refine xqT ?_ | refine xqB ?_ | refine xqS ?_)); (repeat refine xc_seq ?_))
     refine xc_condT rfl ?_
     with_reducible ((repeat refine xc_seq ?_); refine xcR ?_)
     refine xo_mv rfl rfl rfl ?_
     refine xo_mv rfl rfl rfl ?_
     refine xo_bs1 T_ rfl rfl rfl rfl rfl rfl rfl rfl (fun b19 => ?_)
     refine xo_app TR_ rfl rfl rfl rfl rfl rfl rfl rfl (by rw [List.length_map, Nat.mul_one]) rfl rfl hrr (by omega) rfl rfl (fun r' hr' => ?_)
     refine xo_asg rfl rfl rfl ?_
     with_reducible (refine xo_nil ?_; (repeat (first | refine xqT ?_ | refine xqB ?_ | refine xqS ?_)); (repeat refine xc_seq ?_); refine xcR ?_)
     refine xo_mv rfl rfl rfl ?_
     refine xo_add rfl rfl rfl (by omega) rfl ?_
     refine xo_asg rfl rfl rfl ?_
     with_reducible (refine xo_nil ?_; (repeat (first | refine xqT ?_ | refine xqB ?_ | refine xqS ?_)))
     exact xq_again _ _ _ _ _ (k + 1, r') ⟨hlt, fun q => absurd q hr'⟩ (by simp only; omega) ⟨rfl, rfl, by rw [hst, List.length_append]; rfl, rfl, trivial⟩ (by rw [hst, List.length_append, List.map_append]; exact List.Sublist.refl _)
 have hge : k = n := by have := of_decide_eq_false h; omega
 subst hge
 have hil : (intsN (roomsRef k E gs (setOf ms s) k)).length = (roomsRef k E gs (setOf ms s) k).length := by simp [intsN]
 with_reducible (refine xc_exit ?_; (repeat (first | refine xq_blockX ?_ | refine xq_thenE ?_ | refine xq_blockE rfl ?_ | refine xq_scopeE ?_)); (repeat (first | refine xqT ?_ | refine xqB ?_ | refine xqS ?_)); (repeat refine xc_seq ?_); refine xcR ?_)
 refine xo_mv rfl rfl rfl ?_
 refine xo_asg rfl rfl rfl ?_
 with_reducible (refine xo_nil ?_; (repeat (first | refine xqT ?_ | refine xqB ?_ | refine xqS ?_)); (repeat refine xc_seq ?_); refine xc_ret ?_; (repeat (first | refine xq_thenR ?_ | refine xq_blockR ?_ | refine xq_scopeR ?_)))
 exact xq_ret1 rfl rfl fun w' hw => ⟨rr, by rw [hil], RowAt.of hw (fun q => List.eq_nil_of_length_eq_zero (hrr q)), hw.kx.below⟩
theorem rrooms_enters : ∀ args w, (callFunc 48 args).run Tryz.prog w = .ok (.enter 48 args) w := enters_of Tryz.func48 (by kernel_rfl) rfl
end Go.Proofs.YtommeljlfkmpjaaGreatDoor
