/- law09.comes: when fire comes into rooms. / law09, plain: what is told is true, and what is -/
import Derived.Test.YtommeljlfkmpjaaGreatDoorPkLawOriginLater10
import Derived.Test.YtommeljlfkmpjaaGreatDoorPkLawOriginLater3
set_option linter.unusedVariables false
set_option linter.unusedSimpArgs false
namespace Go.Proofs.YtommeljlfkmpjaaGreatDoor
open Go.RowKit Go.Proofs.YtommeljlfkmpjaaGreatDoorW.PrintWords
section
variable {P : Program} {ro : Option Nat} {n N : Nat} {ds : List Deferred} {w0 : World} {X : Nat → Prop} {Q : Exit → Act → World → Prop} {σ : Slots} {η : Hp}
theorem xc_meetQ {γ : Type} {x : Code} (C : γ → Prop) (S : γ → Slots) (H : γ → Hp) (h1 : XC P ro n N ds w0 X (Exit.then (fun a w => ∃ g, C g ∧ SOK N ds (S g) a ∧ WOK w0 X (H g) w) Q) σ η x)
  (h2 : ∀ g, C g → XQ N ds w0 X Q .normal (S g) (H g)) : XC P ro n N ds w0 X Q σ η x := fun a w ha hw => wpIn_mono (h1 a w ha hw) (by
 intro e a' w' hq
 cases e with
 | normal => obtain ⟨g, hg, h3, h4⟩ := hq; exact h2 g hg a' w' h3 h4
 | exit id => exact hq
 | goto l => exact hq
 | ret => exact hq
 | panic c => exact hq
 | outgrown => exact hq)
end
def InC (d : Nat → Int) : Prop := ∀ v, 0 ≤ d v ∧ d v ≤ 1073741824
theorem InC.come {d : Nat → Int} (h : InC d) {e : Edge3} (he : 0 ≤ e.2.2) (hne : e.1 ≠ e.2.1) : InC (comeS d e) := fun v => by
 have h1 := h e.1
 have h2 := h e.2.1
 have h3 := h v
 rw [comeS_eq d hne]
 unfold sideB
 repeat' split
 all_goals omega
theorem InC.start {room : Nat} {minute : Int} (hm : 0 ≤ minute ∧ minute ≤ 600) : InC (shiftF minute (startB 1000000 room)) := fun v => by
 unfold shiftF startB
 (repeat' split) <;> omega
theorem updT_set {b : Nat} {cs cs' : List Value} {t : TypeId} {φ : HP} {e : Nat × Bool × HP} {r : Hp} (h : cs = cs') : Upd b (cel cs t) (e :: (b, true, φ) :: r) (e :: (b, true, cel cs' t) :: r) := h ▸ Upd.tail Upd.head
theorem rowN_zero (n : Nat) : List.replicate n (Value.int .i64 0) = rowD n fun v => if v < 0 then 1073741824 else 0 := by
 apply List.ext_getElem
 ·simp [rowD]
 ·intro i h1 h2
  simp [rowD]
set_option maxHeartbeats 40000000 in
theorem comes_calls (n : Nat) (E : Int) (A B Dl : Option Addr) (c m c2 cd : Nat) (gs : List GatT) (l : List Int) (room : Nat) (minute : Int) (w : World) (hn : 1 ≤ n ∧ n ≤ 6) (hG : GatesR n gs) (hl : okD gs l) (hA : RowOf gatV 4 zGat w A gs) (hD : IntsAt w Dl l) (hr : room < n) (hm : 0 ≤ minute ∧ minute ≤ 600) :
  Calls Tryz.prog 28 #[.agg (scnV n A gs.length c E B m c2).toArray, .int .i64 (room : Int), .int .i64 minute, .slice Dl l.length cd] w fun e w' => ∃ b, e = .returned (.slice (some ⟨b, 0, none⟩) n n) ∧ WOK w XNone [(b, true, cel (rowD n (comesF (edgesL gs l) (shiftF minute (startB 1000000 room)) n)) 3)] w' := by
 have hll := okD_len hl
 have hg6 := hG.len
 refine x_calls (X := XNone) Tryz.func28 rfl rfl rfl ?_
 with_reducible ((repeat apply xc_seq); apply xcR)
 refine xo_box rfl rfl rfl rfl (fun b4 => ?_)
 refine xoA ?_
 with_reducible (apply xo_nil; (repeat first | apply xqT | apply xqB | apply xqS); (repeat apply xc_seq); apply xcR)
 refine xo_fa T_ rfl rfl rfl rfl rfl ?_
 refine xo_load0 T_ rfl rfl rfl (by repeat first | exact mH | apply mT | apply mA) rfl rfl ?_
 refine xo_mks TR_ (m := n) rfl rfl rfl rfl rfl rfl (by omega) (by omega) rfl (fun b9 => ?_)
 refine xoA ?_
 with_reducible (apply xo_nil; (repeat first | apply xqT | apply xqB | apply xqS); (repeat apply xc_seq); apply xcR)
 refine xoM ?_
 refine xo_len T_ rfl rfl rfl rfl ?_
 refine xoM ?_
 with_reducible (apply xo_nil; (repeat first | apply xqT | apply xqB | apply xqS))
 rw [rowN_zero]
 with_reducible ((repeat apply xc_seq); apply xc_block)
 ·refine xc_loop (γ := Nat) (fun k => k ≤ n) (fun k => [(1, .int .i64 (room : Int)), (2, .int .i64 minute), (3, .slice Dl l.length cd), (4, .pointer (some ⟨b4, 0, none⟩)), (9, .slice (some ⟨b9, 0, none⟩) n n), (17, .int .i64 (n : Int)), (18, .int .i64 (k : Int))])
   (fun k => [(b9, true, cel (rowD n fun v => if v < k then 1073741824 else 0) 3), (b4, true, cel (scnV n A gs.length c E B m c2) 25)]) (fun k => n - k) 0 (Nat.zero_le _) ⟨rfl, rfl, rfl, rfl, rfl, rfl, rfl, trivial⟩ (List.Sublist.refl _) ?_
  intro k hk
  with_reducible ((repeat apply xc_seq); apply xcR)
  refine xo_lss rfl rfl rfl rfl ?_
  with_reducible (apply xo_nil; (repeat first | apply xqT | apply xqB | apply xqS); (repeat apply xc_seq))
  refine xc_cond rfl (fun h => ?_) (fun h => ?_)
  ·have hlt : k < n := by have := of_decide_eq_true h; omega
   with_reducible (apply xc_skip; (repeat first | apply xqT | apply xqB | apply xqS); (repeat apply xc_seq); apply xc_block; (repeat apply xc_seq); apply xcR)
   refine xoM ?_
   refine xoA ?_
   with_reducible (apply xo_nil; (repeat first | apply xqT | apply xqB | apply xqS); (repeat apply xc_seq); apply xcR)
   refine xoM ?_
   refine xoM ?_
   refine xo_ia T_ rfl rfl rfl rfl rfl ⟨by omega, by omega⟩ rfl ?_
   refine xo_storeI T_ (o := 0) (k := (k : Int).toNat * szN 0) (η' := [(b9, true, cel (rowD n fun v => if v < k + 1 then 1073741824 else 0) 3), (b4, true, cel (scnV n A gs.length c E B m c2) 25)]) rfl rfl rfl rfl (List.Mem.head _) rfl rfl (by rw [rowD_len, show szN 0 = 1 from rfl, Int.toNat_natCast]; omega) (upd_set (by rw [rowD_set]; exact rowD_congr fun v hv => by split <;> (try split) <;> (try split) <;> omega)) rfl ?_
   with_reducible (apply xo_nil; (repeat first | apply xqT | apply xqB | apply xqS); (repeat apply xc_seq); apply xcR)
   refine xo_add rfl rfl rfl (by omega) rfl ?_
   refine xoM ?_
   with_reducible (apply xo_nil; (repeat first | apply xqT | apply xqB | apply xqS))
   exact xq_again _ _ _ _ _ (k + 1) (by omega) (by omega) ⟨rfl, rfl, rfl, rfl, rfl, rfl, rfl, trivial⟩ (List.Sublist.refl _)
  ·have hge : k = n := by have := of_decide_eq_false h; omega
   subst hge
   with_reducible (apply xc_exit; (repeat (first | apply xq_blockX | apply xq_thenE | refine xq_blockE rfl ?_ | apply xq_scopeE)); (repeat first | apply xqT | apply xqB | apply xqS); (repeat apply xc_seq); apply xcR)
   refine xoM ?_
   refine xoM ?_
   refine xoM ?_
   refine xo_ia T_ rfl rfl rfl rfl rfl ⟨by omega, by omega⟩ rfl ?_
   refine xo_storeI T_ (o := 0) (k := (room : Int).toNat * szN 0) (η' := [(b9, true, cel (rowD k (shiftF minute (startB 1000000 room))) 3), (b4, true, cel (scnV k A gs.length c E B m c2) 25)]) rfl rfl rfl rfl (List.Mem.head _) rfl rfl (by rw [rowD_len, show szN 0 = 1 from rfl, Int.toNat_natCast]; omega) (upd_set (by rw [rowD_set]; exact rowD_congr fun v hv => by unfold shiftF startB; by_cases q : v = room <;> simp [q, hv])) rfl ?_
   with_reducible (apply xo_nil; (repeat first | apply xqT | apply xqB | apply xqS); (repeat apply xc_seq); apply xcR)
   refine xo_fa T_ rfl rfl rfl rfl rfl ?_
   refine xo_load0 T_ rfl rfl rfl (by repeat first | exact mH | apply mT | apply mA) rfl rfl ?_
   refine xoM ?_
   with_reducible (apply xo_nil; (repeat first | apply xqT | apply xqB | apply xqS); (repeat apply xc_seq); apply xc_block)
   ·refine xc_loop (γ := Nat) (fun q => q ≤ k ∧ InC (comesF (edgesL gs l) (shiftF minute (startB 1000000 room)) q)) (fun q => [(3, .slice Dl l.length cd), (4, .pointer (some ⟨b4, 0, none⟩)), (9, .slice (some ⟨b9, 0, none⟩) k k), (30, .int .i64 (k : Int)), (31, .int .i64 (q : Int))])
     (fun q => [(b9, true, cel (rowD k (comesF (edgesL gs l) (shiftF minute (startB 1000000 room)) q)) 3), (b4, true, cel (scnV k A gs.length c E B m c2) 25)]) (fun q => k - q) 0 ⟨Nat.zero_le _, InC.start hm⟩ ⟨rfl, rfl, rfl, rfl, rfl, trivial⟩ (List.Sublist.refl _) ?_
    rintro q ⟨hq, hdq⟩
    with_reducible ((repeat apply xc_seq); apply xcR)
    refine xo_lss rfl rfl rfl rfl ?_
    with_reducible (apply xo_nil; (repeat first | apply xqT | apply xqB | apply xqS); (repeat apply xc_seq))
    refine xc_cond rfl (fun h => ?_) (fun h => ?_)
    ·have hlt : q < k := by have := of_decide_eq_true h; omega
     have hnext : comesF (edgesL gs l) (shiftF minute (startB 1000000 room)) (q + 1) = (edgesL gs l).foldl comeS (comesF (edgesL gs l) (shiftF minute (startB 1000000 room)) q) := rfl
     generalize comesF (edgesL gs l) (shiftF minute (startB 1000000 room)) q = d0 at hnext hdq
     with_reducible (apply xc_skip; (repeat first | apply xqT | apply xqB | apply xqS); (repeat apply xc_seq); apply xc_block; (repeat apply xc_seq); apply xcR)
     refine xo_fa T_ rfl rfl rfl rfl rfl ?_
     refine xo_load0 T_ rfl rfl rfl (by repeat first | exact mH | apply mT | apply mA) rfl rfl ?_
     refine xo_len T_ rfl rfl rfl rfl ?_
     refine xoM ?_
     with_reducible (apply xo_nil; (repeat first | apply xqT | apply xqB | apply xqS); (repeat apply xc_seq); apply xc_block)
     ·refine xc_loop (γ := Nat) (fun i => i ≤ gs.length ∧ InC (((edgesL gs l).take i).foldl comeS d0)) (fun i => [(3, .slice Dl l.length cd), (4, .pointer (some ⟨b4, 0, none⟩)), (9, .slice (some ⟨b9, 0, none⟩) k k), (30, .int .i64 (k : Int)), (31, .int .i64 (q : Int)), (34, .slice A gs.length c), (35, .int .i64 (gs.length : Int)), (36, .int .i64 (i : Int))])
       (fun i => [(b9, true, cel (rowD k (((edgesL gs l).take i).foldl comeS d0)) 3), (b4, true, cel (scnV k A gs.length c E B m c2) 25)]) (fun i => gs.length - i) 0 ⟨Nat.zero_le _, hdq⟩ ⟨rfl, rfl, rfl, rfl, rfl, rfl, rfl, rfl, trivial⟩ (List.Sublist.refl _) ?_
      rintro i ⟨hi, hdi⟩
      with_reducible ((repeat apply xc_seq); apply xcR)
      refine xo_lss rfl rfl rfl rfl ?_
      with_reducible (apply xo_nil; (repeat first | apply xqT | apply xqB | apply xqS); (repeat apply xc_seq))
      refine xc_cond rfl (fun h => ?_) (fun h => ?_)
      ·have hlti : i < gs.length := by have := of_decide_eq_true h; omega
       obtain ⟨ad, rfl, q1⟩ := hA i hlti
       obtain ⟨adl, rfl, q2⟩ := hD i (by omega)
       have hgo := hG.ok _ (getD_mem gs zGat i hlti)
       have hli := okD_at hl i hlti
       have hst : ((edgesL gs l).take (i + 1)).foldl comeS d0 = comeS (((edgesL gs l).take i).foldl comeS d0) (edgeL (gs.getD i zGat) (l.getD i 0)) := by
        rw [List.take_add_one, edges_at hll i hlti, List.foldl_append]
        rfl
       generalize ((edgesL gs l).take i).foldl comeS d0 = d at hst hdi
       generalize gs.getD i zGat = g at q1 hgo hst hli
       generalize l.getD i 0 = x at q2 hli hst
       obtain ⟨g0, g1, g2⟩ := g
       simp only at hgo
       obtain ⟨a, rfl⟩ : ∃ a : Nat, g0 = a := ⟨g0.toNat, by omega⟩
       obtain ⟨b, rfl⟩ : ∃ b : Nat, g1 = b := ⟨g1.toNat, by omega⟩
       have ha : a < k := by omega
       have hb : b < k := by omega
       have hne : a ≠ b := by omega
       have hli : g2.f0 ≤ x ∧ x ≤ g2.f1 := hli
       have hda0 := hdi a
       have hdb0 := hdi b
       with_reducible (apply xc_skip; (repeat first | apply xqT | apply xqB | apply xqS); (repeat apply xc_seq); apply xc_block; (repeat apply xc_seq); apply xcR)
       refine xoM ?_
       refine xo_ia T_ rfl rfl rfl rfl rfl ⟨by omega, by omega⟩ rfl ?_
       refine xo_loadRN T_ rfl rfl rfl q1 rfl rfl ?_
       refine xo_alloc T_ rfl rfl rfl rfl (fun b12 => ?_)
       refine xoA ?_
       refine xo_store T_ rfl rfl rfl rfl (by repeat first | exact mH | apply mT | apply mA) rfl rfl rfl rfl (by repeat first | exact Upd.head | apply Upd.tail | apply Upd.app) rfl ?_
       with_reducible (apply xo_nil; (repeat first | apply xqT | apply xqB | apply xqS); (repeat apply xc_seq); apply xcR)
       refine xoM ?_
       refine xo_fa T_ rfl rfl rfl rfl rfl ?_
       refine xo_load0 T_ rfl rfl rfl (by repeat first | exact mH | apply mT | apply mA) rfl rfl ?_
       refine xo_ia T_ (i := (a : Int)) rfl rfl rfl rfl rfl ⟨by omega, by omega⟩ rfl ?_
       refine xo_loadI T_ (o := 0) (k := (a : Int).toNat * szN 0) (v := .int .i64 (d a)) rfl rfl rfl (by repeat first | exact mH | apply mT | apply mA) (rowD_at d ha) rfl ?_
       refine xo_neq rfl rfl rfl rfl ?_
       with_reducible (apply xo_nil; (repeat first | apply xqT | apply xqB | apply xqS); (repeat apply xc_seq))
       refine xc_meet2 (γ := Unit) (fun _ => True) (fun _ => [(3, .slice (some adl) l.length cd), (4, .pointer (some ⟨b4, 0, none⟩)), (9, .slice (some ⟨b9, 0, none⟩) k k), (11, .int .i64 (i : Int)), (12, .pointer (some ⟨b12, 0, none⟩)), (30, .int .i64 (k : Int)), (31, .int .i64 (q : Int)), (34, .slice (some ad) gs.length c), (35, .int .i64 (gs.length : Int)), (36, .int .i64 (i : Int))]) (fun _ => [(b12, true, cel (gatV (⟨(a : Int), (b : Int), g2⟩ : GatT)) 52), (b9, true, cel (rowD k (fun v => if v = b then sideB (d a) (d b) x else d v)) 3), (b4, true, cel (scnV k (some ad) gs.length c E B m c2) 25)]) ?_ (fun _ _ => ?_)
       ·with_reducible repeat apply xc_seq
        refine xc_cond rfl (fun h => ?_) (fun h => ?_)
        ·have hna : d a ≠ 1073741824 := by simpa using h
         refine xc_slots [(3, .slice (some adl) l.length cd), (4, .pointer (some ⟨b4, 0, none⟩)), (9, .slice (some ⟨b9, 0, none⟩) k k), (11, .int .i64 (i : Int)), (12, .pointer (some ⟨b12, 0, none⟩)), (30, .int .i64 (k : Int)), (31, .int .i64 (q : Int)), (34, .slice (some ad) gs.length c), (35, .int .i64 (gs.length : Int)), (36, .int .i64 (i : Int))] ⟨rfl, rfl, rfl, rfl, rfl, rfl, rfl, rfl, rfl, rfl, trivial⟩ ?_
         with_reducible (repeat apply xc_seq)
         apply xc_drawE (fun g => []) (fun (η0 : Hp) g => match g with | [] => (η0) | a0 :: _ => ([(b12, true, cel (gatV (⟨(a : Int), (b : Int), g2⟩ : GatT)) 52), (b9, true, cel (rowD k (fun v => if v = b then sideB (d a) (d b) x else d v)) 3), (b4, true, cel (scnV k (some ad) gs.length c E B m c2) 25)])) (fun _ => True) [0, 0, 0, 0, 0, 0, 0, 0, 0, 0, 0, 0, 0, 0, 0, 0, 0, 0, 0, 0, 1] [20] [[19, 18, 0, 1, 2, 3, 4, 5, 6, 7, 8, 9, 10, 11, 12, 13, 14, 15, 16, 17, 18]] (by trivial)
         apply SameLen.cons
         apply SameLen.cons
         apply SameLen.cons
         apply SameLen.cons
         apply SameLen.cons
         apply SameLen.cons
         apply SameLen.cons
         apply SameLen.cons
         apply SameLen.cons
         apply SameLen.cons
         apply SameLen.cons
         apply SameLen.cons
         apply SameLen.cons
         apply SameLen.cons
         apply SameLen.cons
         apply SameLen.cons
         apply SameLen.cons
         apply SameLen.cons
         apply SameLen.cons
         apply SameLen.cons
         apply SameLen.cons
         exact SameLen.nil
         rotate_left 21
         case hH0 => rfl
         case hmix => exact T_.mixed
         case hbind => rfl
         case hdeps => rfl
         case hdist => rfl
         case hfresh => rfl
         case hE => rfl
         case hEn => decide
         ·refine DrawE.pure 0 0 rfl (.inr (by decide)) (fun L g hg hd => Nat.zero_le _) (fun g hlo hhi hF τ => ?_) ?_
          ·rcases g with _ | ⟨a0, _ | ⟨a1, g⟩⟩ <;> first | (simp only [lenC, lenN] at hlo hhi; omega) | (refine ⟨_, rfl, ?_⟩; refine xoM ?_; exact xoF)
          refine DrawE.pure 0 0 rfl (.inr (by decide)) (fun L g hg hd => Nat.zero_le _) (fun g hlo hhi hF τ => ?_) ?_
          ·rcases g with _ | ⟨a0, _ | ⟨a1, g⟩⟩ <;> first | (simp only [lenC, lenN] at hlo hhi; omega) | (refine ⟨_, rfl, ?_⟩; refine xo_fa T_ rfl rfl rfl rfl rfl ?_; exact xoF)
          refine DrawE.pure 0 0 rfl (.inr (by decide)) (fun L g hg hd => Nat.zero_le _) (fun g hlo hhi hF τ => ?_) ?_
          ·rcases g with _ | ⟨a0, _ | ⟨a1, g⟩⟩ <;> first | (simp only [lenC, lenN] at hlo hhi; omega) | (refine ⟨_, rfl, ?_⟩; refine xo_load0 T_ rfl rfl rfl (by repeat first | exact mH | apply mT | apply mA) rfl rfl ?_; exact xoF)
          refine DrawE.pure 0 0 rfl (.inr (by decide)) (fun L g hg hd => Nat.zero_le _) (fun g hlo hhi hF τ => ?_) ?_
          ·rcases g with _ | ⟨a0, _ | ⟨a1, g⟩⟩ <;> first | (simp only [lenC, lenN] at hlo hhi; omega) | (refine ⟨_, rfl, ?_⟩; refine xoM ?_; exact xoF)
          refine DrawE.pure 0 0 rfl (.inr (by decide)) (fun L g hg hd => Nat.zero_le _) (fun g hlo hhi hF τ => ?_) ?_
          ·rcases g with _ | ⟨a0, _ | ⟨a1, g⟩⟩ <;> first | (simp only [lenC, lenN] at hlo hhi; omega) | (refine ⟨_, rfl, ?_⟩; refine xo_fa T_ rfl rfl rfl rfl rfl ?_; exact xoF)
          refine DrawE.pure 0 0 rfl (.inr (by decide)) (fun L g hg hd => Nat.zero_le _) (fun g hlo hhi hF τ => ?_) ?_
          ·rcases g with _ | ⟨a0, _ | ⟨a1, g⟩⟩ <;> first | (simp only [lenC, lenN] at hlo hhi; omega) | (refine ⟨_, rfl, ?_⟩; refine xo_load0 T_ rfl rfl rfl (by repeat first | exact mH | apply mT | apply mA) rfl rfl ?_; exact xoF)
          refine DrawE.pure 0 0 rfl (.inr (by decide)) (fun L g hg hd => Nat.zero_le _) (fun g hlo hhi hF τ => ?_) ?_
          ·rcases g with _ | ⟨a0, _ | ⟨a1, g⟩⟩ <;> first | (simp only [lenC, lenN] at hlo hhi; omega) | (refine ⟨_, rfl, ?_⟩; refine xo_ia T_ (i := (b : Int)) rfl rfl rfl rfl rfl ⟨by omega, by omega⟩ rfl ?_; exact xoF)
          refine DrawE.pure 0 0 rfl (.inr (by decide)) (fun L g hg hd => Nat.zero_le _) (fun g hlo hhi hF τ => ?_) ?_
          ·rcases g with _ | ⟨a0, _ | ⟨a1, g⟩⟩ <;> first | (simp only [lenC, lenN] at hlo hhi; omega) | (refine ⟨_, rfl, ?_⟩; refine xo_loadI T_ (o := 0) (k := (b : Int).toNat * szN 0) (v := .int .i64 (d b)) rfl rfl rfl (by repeat first | exact mH | apply mT | apply mA) (rowD_at d hb) rfl ?_; exact xoF)
          refine DrawE.pure 0 0 rfl (.inr (by decide)) (fun L g hg hd => Nat.zero_le _) (fun g hlo hhi hF τ => ?_) ?_
          ·rcases g with _ | ⟨a0, _ | ⟨a1, g⟩⟩ <;> first | (simp only [lenC, lenN] at hlo hhi; omega) | (refine ⟨_, rfl, ?_⟩; refine xoM ?_; exact xoF)
          refine DrawE.pure 0 0 rfl (.inr (by decide)) (fun L g hg hd => Nat.zero_le _) (fun g hlo hhi hF τ => ?_) ?_
          ·rcases g with _ | ⟨a0, _ | ⟨a1, g⟩⟩ <;> first | (simp only [lenC, lenN] at hlo hhi; omega) | (refine ⟨_, rfl, ?_⟩; refine xo_fa T_ rfl rfl rfl rfl rfl ?_; exact xoF)
          refine DrawE.pure 0 0 rfl (.inr (by decide)) (fun L g hg hd => Nat.zero_le _) (fun g hlo hhi hF τ => ?_) ?_
          ·rcases g with _ | ⟨a0, _ | ⟨a1, g⟩⟩ <;> first | (simp only [lenC, lenN] at hlo hhi; omega) | (refine ⟨_, rfl, ?_⟩; refine xo_load0 T_ rfl rfl rfl (by repeat first | exact mH | apply mT | apply mA) rfl rfl ?_; exact xoF)
          refine DrawE.pure 0 0 rfl (.inr (by decide)) (fun L g hg hd => Nat.zero_le _) (fun g hlo hhi hF τ => ?_) ?_
          ·rcases g with _ | ⟨a0, _ | ⟨a1, g⟩⟩ <;> first | (simp only [lenC, lenN] at hlo hhi; omega) | (refine ⟨_, rfl, ?_⟩; refine xo_ia T_ (i := (a : Int)) rfl rfl rfl rfl rfl ⟨by omega, by omega⟩ rfl ?_; exact xoF)
          refine DrawE.pure 0 0 rfl (.inr (by decide)) (fun L g hg hd => Nat.zero_le _) (fun g hlo hhi hF τ => ?_) ?_
          ·rcases g with _ | ⟨a0, _ | ⟨a1, g⟩⟩ <;> first | (simp only [lenC, lenN] at hlo hhi; omega) | (refine ⟨_, rfl, ?_⟩; refine xo_loadI T_ (o := 0) (k := (a : Int).toNat * szN 0) (v := .int .i64 (d a)) rfl rfl rfl (by repeat first | exact mH | apply mT | apply mA) (rowD_at d ha) rfl ?_; exact xoF)
          refine DrawE.pure 0 0 rfl (.inr (by decide)) (fun L g hg hd => Nat.zero_le _) (fun g hlo hhi hF τ => ?_) ?_
          ·rcases g with _ | ⟨a0, _ | ⟨a1, g⟩⟩ <;> first | (simp only [lenC, lenN] at hlo hhi; omega) | (refine ⟨_, rfl, ?_⟩; refine xoM ?_; exact xoF)
          refine DrawE.pure 0 0 rfl (.inr (by decide)) (fun L g hg hd => Nat.zero_le _) (fun g hlo hhi hF τ => ?_) ?_
          ·rcases g with _ | ⟨a0, _ | ⟨a1, g⟩⟩ <;> first | (simp only [lenC, lenN] at hlo hhi; omega) | (refine ⟨_, rfl, ?_⟩; refine xoM ?_; exact xoF)
          refine DrawE.pure 0 0 rfl (.inr (by decide)) (fun L g hg hd => Nat.zero_le _) (fun g hlo hhi hF τ => ?_) ?_
          ·rcases g with _ | ⟨a0, _ | ⟨a1, g⟩⟩ <;> first | (simp only [lenC, lenN] at hlo hhi; omega) | (refine ⟨_, rfl, ?_⟩; refine xo_ia T_ rfl rfl rfl rfl rfl ⟨by omega, by omega⟩ rfl ?_; exact xoF)
          refine DrawE.pure 0 0 rfl (.inr (by decide)) (fun L g hg hd => Nat.zero_le _) (fun g hlo hhi hF τ => ?_) ?_
          ·rcases g with _ | ⟨a0, _ | ⟨a1, g⟩⟩ <;> first | (simp only [lenC, lenN] at hlo hhi; omega) | (refine ⟨_, rfl, ?_⟩; refine xo_loadR0 T_ rfl rfl rfl q2 rfl ?_; exact xoF)
          refine DrawE.pure 0 0 rfl (.inr (by decide)) (fun L g hg hd => Nat.zero_le _) (fun g hlo hhi hF τ => ?_) ?_
          ·rcases g with _ | ⟨a0, _ | ⟨a1, g⟩⟩ <;> first | (simp only [lenC, lenN] at hlo hhi; omega) | (refine ⟨_, rfl, ?_⟩; refine xo_add rfl rfl rfl (by omega) rfl ?_; exact xoF)
          refine DrawE.pure 0 0 rfl (.inr (by decide)) (fun L g hg hd => Nat.zero_le _) (fun g hlo hhi hF τ => ?_) ?_
          ·rcases g with _ | ⟨a0, _ | ⟨a1, g⟩⟩ <;> first | (simp only [lenC, lenN] at hlo hhi; omega) | (refine ⟨_, rfl, ?_⟩; refine xo_min rfl rfl rfl rfl ?_; exact xoF)
          refine DrawE.pure 0 0 rfl (.inr (by decide)) (fun L g hg hd => Nat.zero_le _) (fun g hlo hhi hF τ => ?_) ?_
          ·rcases g with _ | ⟨a0, _ | ⟨a1, g⟩⟩ <;> first | (simp only [lenC, lenN] at hlo hhi; omega) | (refine ⟨_, rfl, ?_⟩; refine xo_ia T_ (i := (b : Int)) rfl rfl rfl rfl rfl ⟨by omega, by omega⟩ rfl ?_; exact xoF)
          refine DrawE.eff 0 rfl (by decide) rfl (fun j hj => hj) (fun j g a hj => ?_) (fun L g hg hd => Nat.zero_le _) (fun g hgl hF τ => ?_) ?_
          ·rcases j with _ | _ | _ | _ | _ | _ | _ | _ | _ | _ | _ | _ | _ | _ | _ | _ | _ | _ | _ | _ | _ | j
           all_goals first | rfl | (rcases g with _ | ⟨a0, _ | ⟨a1, g⟩⟩ <;> first | rfl | exact absurd hj (by decide) | exact absurd hj (by simp [List.getD]))
          ·obtain rfl : g = [] := by
            rcases g with _ | ⟨a0, g⟩ <;> first | rfl | (exfalso; simp only [List.length_cons, List.length_nil] at hgl; omega)
           refine xo_storeI T_ (o := 0) (k := (b : Int).toNat * szN 0) (η' := [(b12, true, cel (gatV (⟨(a : Int), (b : Int), g2⟩ : GatT)) 52), (b9, true, cel (rowD k (fun v => if v = b then sideB (d a) (d b) x else d v)) 3), (b4, true, cel (scnV k (some ad) gs.length c E B m c2) 25)]) rfl rfl rfl rfl (by repeat first | exact mH | apply mT | apply mA) rfl rfl (by rw [rowD_len, show szN 0 = 1 from rfl, Int.toNat_natCast]; omega) (updT_set ((rowD_set d b (if d a + x < d b then d a + x else d b)).trans (rowD_congr fun v hv => by unfold sideB; rw [if_neg hna]))) rfl ?_
           exact xo_finE ⟨0, 0, none⟩ rfl trivial
          exact DrawE.nil
         intro g hgl hF
         obtain ⟨a0, rfl⟩ : ∃ a0, g = [a0] := by
          rcases g with _ | ⟨a0, _ | ⟨a1, g⟩⟩ <;> first | exact ⟨_, rfl⟩ | (exfalso; simp only [List.length_cons, List.length_nil] at hgl; omega)
         with_reducible (repeat first | apply xqT | apply xqB | apply xqS)
         exact xq_meet _ _ _ () trivial ⟨rfl, rfl, rfl, rfl, rfl, rfl, rfl, rfl, rfl, rfl, trivial⟩ (List.Sublist.refl _)
        ·have hna : d a = 1073741824 := by simpa using h
         with_reducible (apply xc_skip; (repeat first | apply xqT | apply xqB | apply xqS))
         have hrow : rowD k d = rowD k (fun v => if v = b then sideB (d a) (d b) x else d v) := rowD_congr fun v hv => by unfold sideB; rw [if_pos hna]; split <;> simp_all
         rw [hrow]
         exact xq_meet _ _ _ () trivial ⟨rfl, rfl, rfl, rfl, rfl, rfl, rfl, rfl, rfl, rfl, trivial⟩ (List.Sublist.refl _)
       have hd1 : InC (fun v => if v = b then sideB (d a) (d b) x else d v) := fun v => by
        have h1 := hdi a
        have h2 := hdi b
        have h3 := hdi v
        by_cases hvb : v = b
        ·simp only [hvb, if_true]
         unfold sideB
         (repeat' split) <;> omega
        ·simp only [hvb, if_false]
         exact h3
       have hst2 : comeS d (edgeL (⟨(a : Int), (b : Int), g2⟩ : GatT) x) = fun v => if v = a then sideB ((fun v => if v = b then sideB (d a) (d b) x else d v) b) ((fun v => if v = b then sideB (d a) (d b) x else d v) a) x else (fun v => if v = b then sideB (d a) (d b) x else d v) v := by
        funext v
        rw [comeS_eq d (e := edgeL (⟨(a : Int), (b : Int), g2⟩ : GatT) x) (by simpa [edgeL] using hne)]
        simp only [edgeL, Int.toNat_natCast]
        simp only [if_true, if_neg hne]
        rfl
       have hd2 := hdi.come (e := edgeL (⟨(a : Int), (b : Int), g2⟩ : GatT) x) (by simp only [edgeL]; omega) (by simpa [edgeL] using hne)
       rw [← hst] at hd2
       rw [hst2] at hst
       generalize (fun v => if v = b then sideB (d a) (d b) x else d v) = d1 at hst hd1 ⊢
       have hdb := hd1 b
       have hda := hd1 a
       with_reducible ((repeat apply xc_seq); apply xcR)
       refine xoM ?_
       refine xo_fa T_ rfl rfl rfl rfl rfl ?_
       refine xo_load0 T_ rfl rfl rfl (by repeat first | exact mH | apply mT | apply mA) rfl rfl ?_
       refine xo_ia T_ (i := (b : Int)) rfl rfl rfl rfl rfl ⟨by omega, by omega⟩ rfl ?_
       refine xo_loadI T_ (o := 0) (k := (b : Int).toNat * szN 0) (v := .int .i64 (d1 b)) rfl rfl rfl (by repeat first | exact mH | apply mT | apply mA) (rowD_at d1 hb) rfl ?_
       refine xo_neq rfl rfl rfl rfl ?_
       with_reducible (apply xo_nil; (repeat first | apply xqT | apply xqB | apply xqS); (repeat apply xc_seq))
       refine xc_meetQ (γ := Unit) (fun _ => True) (fun _ => [(3, .slice (some adl) l.length cd), (4, .pointer (some ⟨b4, 0, none⟩)), (9, .slice (some ⟨b9, 0, none⟩) k k), (11, .int .i64 (i : Int)), (12, .pointer (some ⟨b12, 0, none⟩)), (30, .int .i64 (k : Int)), (31, .int .i64 (q : Int)), (34, .slice (some ad) gs.length c), (35, .int .i64 (gs.length : Int)), (36, .int .i64 (i : Int))]) (fun _ => [(b12, true, cel (gatV (⟨(a : Int), (b : Int), g2⟩ : GatT)) 52), (b9, true, cel (rowD k (((edgesL gs l).take (i + 1)).foldl comeS d0)) 3), (b4, true, cel (scnV k (some ad) gs.length c E B m c2) 25)]) ?_ (fun _ _ => ?_)
       ·rw [hst]
        with_reducible (repeat apply xc_seq)
        refine xc_cond rfl (fun h => ?_) (fun h => ?_)
        ·have hnb : d1 b ≠ 1073741824 := by simpa using h
         refine xc_slots [(3, .slice (some adl) l.length cd), (4, .pointer (some ⟨b4, 0, none⟩)), (9, .slice (some ⟨b9, 0, none⟩) k k), (11, .int .i64 (i : Int)), (12, .pointer (some ⟨b12, 0, none⟩)), (30, .int .i64 (k : Int)), (31, .int .i64 (q : Int)), (34, .slice (some ad) gs.length c), (35, .int .i64 (gs.length : Int)), (36, .int .i64 (i : Int))] ⟨rfl, rfl, rfl, rfl, rfl, rfl, rfl, rfl, rfl, rfl, trivial⟩ ?_
         with_reducible (repeat apply xc_seq)
         apply xc_drawE (fun g => []) (fun (η0 : Hp) g => match g with | [] => (η0) | a0 :: _ => ([(b12, true, cel (gatV (⟨(a : Int), (b : Int), g2⟩ : GatT)) 52), (b9, true, cel (rowD k (fun v => if v = a then sideB (d1 b) (d1 a) x else d1 v)) 3), (b4, true, cel (scnV k (some ad) gs.length c E B m c2) 25)])) (fun _ => True) [0, 0, 0, 0, 0, 0, 0, 0, 0, 0, 0, 0, 0, 0, 0, 0, 0, 0, 0, 0, 1] [20] [[19, 18, 0, 1, 2, 3, 4, 5, 6, 7, 8, 9, 10, 11, 12, 13, 14, 15, 16, 17, 18]] (by trivial)
         apply SameLen.cons
         apply SameLen.cons
         apply SameLen.cons
         apply SameLen.cons
         apply SameLen.cons
         apply SameLen.cons
         apply SameLen.cons
         apply SameLen.cons
         apply SameLen.cons
         apply SameLen.cons
         apply SameLen.cons
         apply SameLen.cons
         apply SameLen.cons
         apply SameLen.cons
         apply SameLen.cons
         apply SameLen.cons
         apply SameLen.cons
         apply SameLen.cons
         apply SameLen.cons
         apply SameLen.cons
         apply SameLen.cons
         exact SameLen.nil
         rotate_left 21
         case hH0 => rfl
         case hmix => exact T_.mixed
         case hbind => rfl
         case hdeps => rfl
         case hdist => rfl
         case hfresh => rfl
         case hE => rfl
         case hEn => decide
         ·refine DrawE.pure 0 0 rfl (.inr (by decide)) (fun L g hg hd => Nat.zero_le _) (fun g hlo hhi hF τ => ?_) ?_
          ·rcases g with _ | ⟨a0, _ | ⟨a1, g⟩⟩ <;> first | (simp only [lenC, lenN] at hlo hhi; omega) | (refine ⟨_, rfl, ?_⟩; refine xoM ?_; exact xoF)
          refine DrawE.pure 0 0 rfl (.inr (by decide)) (fun L g hg hd => Nat.zero_le _) (fun g hlo hhi hF τ => ?_) ?_
          ·rcases g with _ | ⟨a0, _ | ⟨a1, g⟩⟩ <;> first | (simp only [lenC, lenN] at hlo hhi; omega) | (refine ⟨_, rfl, ?_⟩; refine xo_fa T_ rfl rfl rfl rfl rfl ?_; exact xoF)
          refine DrawE.pure 0 0 rfl (.inr (by decide)) (fun L g hg hd => Nat.zero_le _) (fun g hlo hhi hF τ => ?_) ?_
          ·rcases g with _ | ⟨a0, _ | ⟨a1, g⟩⟩ <;> first | (simp only [lenC, lenN] at hlo hhi; omega) | (refine ⟨_, rfl, ?_⟩; refine xo_load0 T_ rfl rfl rfl (by repeat first | exact mH | apply mT | apply mA) rfl rfl ?_; exact xoF)
          refine DrawE.pure 0 0 rfl (.inr (by decide)) (fun L g hg hd => Nat.zero_le _) (fun g hlo hhi hF τ => ?_) ?_
          ·rcases g with _ | ⟨a0, _ | ⟨a1, g⟩⟩ <;> first | (simp only [lenC, lenN] at hlo hhi; omega) | (refine ⟨_, rfl, ?_⟩; refine xoM ?_; exact xoF)
          refine DrawE.pure 0 0 rfl (.inr (by decide)) (fun L g hg hd => Nat.zero_le _) (fun g hlo hhi hF τ => ?_) ?_
          ·rcases g with _ | ⟨a0, _ | ⟨a1, g⟩⟩ <;> first | (simp only [lenC, lenN] at hlo hhi; omega) | (refine ⟨_, rfl, ?_⟩; refine xo_fa T_ rfl rfl rfl rfl rfl ?_; exact xoF)
          refine DrawE.pure 0 0 rfl (.inr (by decide)) (fun L g hg hd => Nat.zero_le _) (fun g hlo hhi hF τ => ?_) ?_
          ·rcases g with _ | ⟨a0, _ | ⟨a1, g⟩⟩ <;> first | (simp only [lenC, lenN] at hlo hhi; omega) | (refine ⟨_, rfl, ?_⟩; refine xo_load0 T_ rfl rfl rfl (by repeat first | exact mH | apply mT | apply mA) rfl rfl ?_; exact xoF)
          refine DrawE.pure 0 0 rfl (.inr (by decide)) (fun L g hg hd => Nat.zero_le _) (fun g hlo hhi hF τ => ?_) ?_
          ·rcases g with _ | ⟨a0, _ | ⟨a1, g⟩⟩ <;> first | (simp only [lenC, lenN] at hlo hhi; omega) | (refine ⟨_, rfl, ?_⟩; refine xo_ia T_ (i := (a : Int)) rfl rfl rfl rfl rfl ⟨by omega, by omega⟩ rfl ?_; exact xoF)
          refine DrawE.pure 0 0 rfl (.inr (by decide)) (fun L g hg hd => Nat.zero_le _) (fun g hlo hhi hF τ => ?_) ?_
          ·rcases g with _ | ⟨a0, _ | ⟨a1, g⟩⟩ <;> first | (simp only [lenC, lenN] at hlo hhi; omega) | (refine ⟨_, rfl, ?_⟩; refine xo_loadI T_ (o := 0) (k := (a : Int).toNat * szN 0) (v := .int .i64 (d1 a)) rfl rfl rfl (by repeat first | exact mH | apply mT | apply mA) (rowD_at d1 ha) rfl ?_; exact xoF)
          refine DrawE.pure 0 0 rfl (.inr (by decide)) (fun L g hg hd => Nat.zero_le _) (fun g hlo hhi hF τ => ?_) ?_
          ·rcases g with _ | ⟨a0, _ | ⟨a1, g⟩⟩ <;> first | (simp only [lenC, lenN] at hlo hhi; omega) | (refine ⟨_, rfl, ?_⟩; refine xoM ?_; exact xoF)
          refine DrawE.pure 0 0 rfl (.inr (by decide)) (fun L g hg hd => Nat.zero_le _) (fun g hlo hhi hF τ => ?_) ?_
          ·rcases g with _ | ⟨a0, _ | ⟨a1, g⟩⟩ <;> first | (simp only [lenC, lenN] at hlo hhi; omega) | (refine ⟨_, rfl, ?_⟩; refine xo_fa T_ rfl rfl rfl rfl rfl ?_; exact xoF)
          refine DrawE.pure 0 0 rfl (.inr (by decide)) (fun L g hg hd => Nat.zero_le _) (fun g hlo hhi hF τ => ?_) ?_
          ·rcases g with _ | ⟨a0, _ | ⟨a1, g⟩⟩ <;> first | (simp only [lenC, lenN] at hlo hhi; omega) | (refine ⟨_, rfl, ?_⟩; refine xo_load0 T_ rfl rfl rfl (by repeat first | exact mH | apply mT | apply mA) rfl rfl ?_; exact xoF)
          refine DrawE.pure 0 0 rfl (.inr (by decide)) (fun L g hg hd => Nat.zero_le _) (fun g hlo hhi hF τ => ?_) ?_
          ·rcases g with _ | ⟨a0, _ | ⟨a1, g⟩⟩ <;> first | (simp only [lenC, lenN] at hlo hhi; omega) | (refine ⟨_, rfl, ?_⟩; refine xo_ia T_ (i := (b : Int)) rfl rfl rfl rfl rfl ⟨by omega, by omega⟩ rfl ?_; exact xoF)
          refine DrawE.pure 0 0 rfl (.inr (by decide)) (fun L g hg hd => Nat.zero_le _) (fun g hlo hhi hF τ => ?_) ?_
          ·rcases g with _ | ⟨a0, _ | ⟨a1, g⟩⟩ <;> first | (simp only [lenC, lenN] at hlo hhi; omega) | (refine ⟨_, rfl, ?_⟩; refine xo_loadI T_ (o := 0) (k := (b : Int).toNat * szN 0) (v := .int .i64 (d1 b)) rfl rfl rfl (by repeat first | exact mH | apply mT | apply mA) (rowD_at d1 hb) rfl ?_; exact xoF)
          refine DrawE.pure 0 0 rfl (.inr (by decide)) (fun L g hg hd => Nat.zero_le _) (fun g hlo hhi hF τ => ?_) ?_
          ·rcases g with _ | ⟨a0, _ | ⟨a1, g⟩⟩ <;> first | (simp only [lenC, lenN] at hlo hhi; omega) | (refine ⟨_, rfl, ?_⟩; refine xoM ?_; exact xoF)
          refine DrawE.pure 0 0 rfl (.inr (by decide)) (fun L g hg hd => Nat.zero_le _) (fun g hlo hhi hF τ => ?_) ?_
          ·rcases g with _ | ⟨a0, _ | ⟨a1, g⟩⟩ <;> first | (simp only [lenC, lenN] at hlo hhi; omega) | (refine ⟨_, rfl, ?_⟩; refine xoM ?_; exact xoF)
          refine DrawE.pure 0 0 rfl (.inr (by decide)) (fun L g hg hd => Nat.zero_le _) (fun g hlo hhi hF τ => ?_) ?_
          ·rcases g with _ | ⟨a0, _ | ⟨a1, g⟩⟩ <;> first | (simp only [lenC, lenN] at hlo hhi; omega) | (refine ⟨_, rfl, ?_⟩; refine xo_ia T_ rfl rfl rfl rfl rfl ⟨by omega, by omega⟩ rfl ?_; exact xoF)
          refine DrawE.pure 0 0 rfl (.inr (by decide)) (fun L g hg hd => Nat.zero_le _) (fun g hlo hhi hF τ => ?_) ?_
          ·rcases g with _ | ⟨a0, _ | ⟨a1, g⟩⟩ <;> first | (simp only [lenC, lenN] at hlo hhi; omega) | (refine ⟨_, rfl, ?_⟩; refine xo_loadR0 T_ rfl rfl rfl q2 rfl ?_; exact xoF)
          refine DrawE.pure 0 0 rfl (.inr (by decide)) (fun L g hg hd => Nat.zero_le _) (fun g hlo hhi hF τ => ?_) ?_
          ·rcases g with _ | ⟨a0, _ | ⟨a1, g⟩⟩ <;> first | (simp only [lenC, lenN] at hlo hhi; omega) | (refine ⟨_, rfl, ?_⟩; refine xo_add rfl rfl rfl (by omega) rfl ?_; exact xoF)
          refine DrawE.pure 0 0 rfl (.inr (by decide)) (fun L g hg hd => Nat.zero_le _) (fun g hlo hhi hF τ => ?_) ?_
          ·rcases g with _ | ⟨a0, _ | ⟨a1, g⟩⟩ <;> first | (simp only [lenC, lenN] at hlo hhi; omega) | (refine ⟨_, rfl, ?_⟩; refine xo_min rfl rfl rfl rfl ?_; exact xoF)
          refine DrawE.pure 0 0 rfl (.inr (by decide)) (fun L g hg hd => Nat.zero_le _) (fun g hlo hhi hF τ => ?_) ?_
          ·rcases g with _ | ⟨a0, _ | ⟨a1, g⟩⟩ <;> first | (simp only [lenC, lenN] at hlo hhi; omega) | (refine ⟨_, rfl, ?_⟩; refine xo_ia T_ (i := (a : Int)) rfl rfl rfl rfl rfl ⟨by omega, by omega⟩ rfl ?_; exact xoF)
          refine DrawE.eff 0 rfl (by decide) rfl (fun j hj => hj) (fun j g a hj => ?_) (fun L g hg hd => Nat.zero_le _) (fun g hgl hF τ => ?_) ?_
          ·rcases j with _ | _ | _ | _ | _ | _ | _ | _ | _ | _ | _ | _ | _ | _ | _ | _ | _ | _ | _ | _ | _ | j
           all_goals first | rfl | (rcases g with _ | ⟨a0, _ | ⟨a1, g⟩⟩ <;> first | rfl | exact absurd hj (by decide) | exact absurd hj (by simp [List.getD]))
          ·obtain rfl : g = [] := by
            rcases g with _ | ⟨a0, g⟩ <;> first | rfl | (exfalso; simp only [List.length_cons, List.length_nil] at hgl; omega)
           refine xo_storeI T_ (o := 0) (k := (a : Int).toNat * szN 0) (η' := [(b12, true, cel (gatV (⟨(a : Int), (b : Int), g2⟩ : GatT)) 52), (b9, true, cel (rowD k (fun v => if v = a then sideB (d1 b) (d1 a) x else d1 v)) 3), (b4, true, cel (scnV k (some ad) gs.length c E B m c2) 25)]) rfl rfl rfl rfl (by repeat first | exact mH | apply mT | apply mA) rfl rfl (by rw [rowD_len, show szN 0 = 1 from rfl, Int.toNat_natCast]; omega) (updT_set ((rowD_set d1 a (if d1 b + x < d1 a then d1 b + x else d1 a)).trans (rowD_congr fun v hv => by unfold sideB; rw [if_neg hnb]))) rfl ?_
           exact xo_finE ⟨0, 0, none⟩ rfl trivial
          exact DrawE.nil
         intro g hgl hF
         obtain ⟨a0, rfl⟩ : ∃ a0, g = [a0] := by
          rcases g with _ | ⟨a0, _ | ⟨a1, g⟩⟩ <;> first | exact ⟨_, rfl⟩ | (exfalso; simp only [List.length_cons, List.length_nil] at hgl; omega)
         with_reducible (repeat first | apply xqT | apply xqB | apply xqS)
         exact xq_meet _ _ _ () trivial ⟨rfl, rfl, rfl, rfl, rfl, rfl, rfl, rfl, rfl, rfl, trivial⟩ (List.Sublist.refl _)
        ·have hnb : d1 b = 1073741824 := by simpa using h
         with_reducible (apply xc_skip; (repeat first | apply xqT | apply xqB | apply xqS))
         have hrow : rowD k d1 = rowD k (fun v => if v = a then sideB (d1 b) (d1 a) x else d1 v) := rowD_congr fun v hv => by unfold sideB; rw [if_pos hnb]; split <;> simp_all
         rw [hrow]
         exact xq_meet _ _ _ () trivial ⟨rfl, rfl, rfl, rfl, rfl, rfl, rfl, rfl, rfl, rfl, trivial⟩ (List.Sublist.refl _)
       with_reducible ((repeat first | apply xqT | apply xqB | apply xqS); (repeat apply xc_seq); apply xcR)
       refine xo_add rfl rfl rfl (by omega) rfl ?_
       refine xoM ?_
       with_reducible (apply xo_nil; (repeat first | apply xqT | apply xqB | apply xqS))
       exact xq_again _ _ _ _ _ (i + 1) ⟨by omega, hd2⟩ (by omega) ⟨rfl, rfl, rfl, rfl, rfl, rfl, rfl, rfl, trivial⟩ (List.sublist_cons_self _ _)
      ·have hgi : i = gs.length := by have := of_decide_eq_false h; omega
       subst hgi
       rw [List.take_of_length_le (by rw [edges_len hll]; exact Nat.le_refl _), ← hnext] at hdi ⊢
       with_reducible (apply xc_exit; (repeat (first | apply xq_blockX | apply xq_thenE | refine xq_blockE rfl ?_ | apply xq_scopeE)); (repeat first | apply xqT | apply xqB | apply xqS); (repeat apply xc_seq); apply xcR)
       refine xo_add rfl rfl rfl (by omega) rfl ?_
       refine xoM ?_
       with_reducible (apply xo_nil; (repeat first | apply xqT | apply xqB | apply xqS))
       exact xq_again _ _ _ _ _ (q + 1) ⟨by omega, hdi⟩ (by omega) ⟨rfl, rfl, rfl, rfl, rfl, trivial⟩ (List.Sublist.refl _)
    ·have hgq : q = k := by have := of_decide_eq_false h; omega
     subst hgq
     with_reducible (apply xc_exit; (repeat (first | apply xq_blockX | apply xq_thenE | refine xq_blockE rfl ?_ | apply xq_scopeE)); (repeat first | apply xqT | apply xqB | apply xqS); (repeat apply xc_seq); apply xcR)
     refine xoM ?_
     refine xoA ?_
     with_reducible (apply xo_nil; (repeat first | apply xqT | apply xqB | apply xqS); (repeat apply xc_seq); apply xc_ret; (repeat (first | apply xq_thenR | apply xq_blockR | apply xq_scopeR)))
     exact xq_ret1 rfl rfl fun w' hw => ⟨b9, rfl, hw.sub (by repeat (first | exact List.Sublist.refl _ | apply List.Sublist.cons_cons | apply List.Sublist.cons | exact List.nil_sublist _))⟩
theorem comes_enters : ∀ args w, (callFunc 28 args).run Tryz.prog w = .ok (.enter 28 args) w := enters_of Tryz.func28 (by kernel_rfl) rfl
def cameL (n : Nat) (gs : List GatT) (l : List Int) (room : Nat) (minute : Int) : Nat → Int := comesF (edgesL gs l) (shiftF minute (startB 1000000 room)) n
theorem edges_ok {n : Nat} {gs : List GatT} {l : List Int} (hG : GatesR n gs) (hl : okD gs l) : ∀ e ∈ edgesL gs l, (0 ≤ e.2.2 ∧ e.2.2 ≤ 60) ∧ e.1 ≠ e.2.1 := fun e he => by
 have hne := edges_ne hG l e he
 have hp := okD_pos hl (fun g hg => (hG.ok g hg).2.2.2.1) e he
 obtain ⟨i, hi, rfl⟩ := List.getElem_of_mem he
 have hll := okD_len hl
 rw [edges_len hll] at hi
 have h1 := edges_at hll i hi
 rw [List.getElem?_eq_getElem (by rw [edges_len hll]; exact hi)] at h1
 rw [Option.some.inj h1] at hp hne ⊢
 have h2 := okD_at hl i hi
 have h3 := hG.ok _ (getD_mem gs zGat i hi)
 refine ⟨⟨hp, ?_⟩, hne⟩
 simp only [edgeL]
 omega
theorem came_far {n : Nat} {gs : List GatT} {l : List Int} {room v : Nat} {minute : Int} (hn : 1 ≤ n ∧ n ≤ 6) (hG : GatesR n gs) (hl : okD gs l) (hr : room < n) (hm : 0 ≤ minute ∧ minute ≤ 600) (hv : v < n) :
  cameL n gs l room minute v = cameF minute (farM n gs l room) v ∧ (farM n gs l room v = 1073741824 ∨ (0 ≤ farM n gs l room v ∧ farM n gs l room v ≤ 300)) := by
 have h1 := (come_rounds hm (edges_ok hG hl) (by rw [edges_len (okD_len hl)]; exact hG.len) room n hn.2).1
 have h2 := far_same hn hG hl hr hv
 unfold cameL
 rw [h1]
 unfold shiftF cameF
 rcases h2 with ⟨e, h3⟩ | ⟨e, h3⟩
 ·rw [e]
  unfold dR at h3 ⊢
  rw [if_neg (by omega), if_neg (by omega)]
  exact ⟨rfl, .inr h3⟩
 ·unfold dR at h3
  rw [e, h3, if_pos rfl, if_pos rfl]
  exact ⟨rfl, .inl rfl⟩
theorem came_in {n : Nat} {gs : List GatT} {l : List Int} {room : Nat} {minute : Int} (hn : 1 ≤ n ∧ n ≤ 6) (hG : GatesR n gs) (hl : okD gs l) (hr : room < n) (hm : 0 ≤ minute ∧ minute ≤ 600) (v : Nat) (hv : v < n) : 0 ≤ cameL n gs l room minute v ∧ cameL n gs l room minute v ≤ 1073741824 := by
 obtain ⟨e, h⟩ := came_far hn hG hl hr hm hv
 rw [e]
 unfold cameF
 split <;> omega
theorem soF_congr {E : Int} {m : MarT} {a b : Nat → Int} (h2 : a m.f2.toNat = b m.f2.toNat) (h3 : a m.f3.toNat = b m.f3.toNat) : soF E m a = soF E m b := by
 unfold soF
 rw [h2, h3]
theorem so_came {n : Nat} {E : Int} {gs : List GatT} {l : List Int} {room : Nat} {minute : Int} {m : MarT} (hn : 1 ≤ n ∧ n ≤ 6) (hE : E ≤ 600) (hG : GatesR n gs) (hl : okD gs l) (hr : room < n) (hm : 0 ≤ minute ∧ minute ≤ E) (hmk : MarkR n m) :
  soF E m (cameL n gs l room minute) = true ↔ inS (saysF E (farM n gs l room) m) minute := by
 obtain ⟨⟨hk, hb, ho, hlo, hhi, hlong⟩, hroom, hother⟩ := hmk
 have h2 := came_far hn hG hl hr (minute := minute) ⟨hm.1, by omega⟩ (v := m.f2.toNat) (by omega)
 have h3 := came_far hn hG hl hr (minute := minute) ⟨hm.1, by omega⟩ (v := m.f3.toNat) (by omega)
 rw [soF_congr h2.1 h3.1]
 exact so_says hm hE hk ⟨by omega, by omega, by omega, by omega⟩ ⟨by omega, by omega⟩ h2.2 h3.2
theorem fold_mem (E z : Int) (r : Nat → Int) : ∀ (ms : List MarT) (s : SpaT), inS (ms.foldl (fun s m => comF s (saysF E r m)) s) z ↔ inS s z ∧ ∀ m ∈ ms, inS (saysF E r m) z
 | [], s => by simp
 | m :: ms, s => by
  rw [List.foldl_cons, fold_mem E z r ms, in_com, List.forall_mem_cons, and_assoc]
theorem winF_mem {E z : Int} {r : Nat → Int} {ms : List MarT} : inS (winF E r ms) z ↔ (0 ≤ z ∧ z ≤ E) ∧ ∀ m ∈ ms, inS (saysF E r m) z := fold_mem E z r ms ⟨0, E⟩
theorem win_so {n : Nat} {E : Int} {gs : List GatT} {l : List Int} {room : Nat} {minute : Int} {ms : List MarT} (hn : 1 ≤ n ∧ n ≤ 6) (hE : E ≤ 600) (hG : GatesR n gs) (hl : okD gs l) (hr : room < n) (hmk : ∀ m ∈ ms, MarkR n m) :
  inS (winF E (farM n gs l room) ms) minute ↔ (0 ≤ minute ∧ minute ≤ E) ∧ ∀ m ∈ ms, soF E m (cameL n gs l room minute) = true := by
 rw [winF_mem]
 constructor
 ·rintro ⟨h, h1⟩
  exact ⟨h, fun m hm => (so_came hn hE hG hl hr h (hmk m hm)).2 (h1 m hm)⟩
 ·rintro ⟨h, h1⟩
  exact ⟨h, fun m hm => (so_came hn hE hG hl hr h (hmk m hm)).1 (h1 m hm)⟩
def hasS (s : SpaT) (z : Int) : Bool := inF s.f0 s.f1 z
theorem hasS_iff {s : SpaT} {z : Int} : hasS s z = true ↔ inS s z := inF_iff
theorem began_find (E : Int) (R : Nat) (gs : List GatT) (room : Nat) (ms : List MarT) (z : Int) : ∀ (ls : List (List Int)) (i : Nat), ((beganFrom E R gs room ms i ls).find? fun x => inF x.2.f0 x.2.f1 z).map (·.1) = (ls.findIdx? fun l => hasS (winF E (farM R gs l room) ms) z).map (i + ·)
 | [], i => rfl
 | l :: ls, i => by
  have ih := began_find E R gs room ms z ls (i + 1)
  have hs : ∀ o : Option Nat, o.map (i + 1 + ·) = (o.map (· + 1)).map (i + ·) := fun o => by cases o <;> simp <;> omega
  unfold beganFrom
  rw [List.findIdx?_cons]
  by_cases hz : inS (winF E (farM R gs l room) ms) z
  ·have hle : (winF E (farM R gs l room) ms).f0 ≤ (winF E (farM R gs l room) ms).f1 := Int.le_trans hz.1 hz.2
   rw [if_pos hle, List.find?_cons_of_pos (by exact inF_iff.2 hz), hasS_iff.2 hz]
   rfl
  ·rw [show hasS (winF E (farM R gs l room) ms) z = false by rw [← Bool.not_eq_true, hasS_iff]; exact hz]
   simp only [Bool.false_eq_true, if_false]
   rw [← hs, ← ih]
   split
   ·rw [List.find?_cons_of_neg (by intro q; exact hz (inF_iff.1 q))]
   ·rfl
theorem truthI_eq (E : Int) (R : Nat) (gs : List GatT) (room : Nat) (ms : List MarT) (z : Int) : truthI E R gs room ms z = (allD gs).findIdx? fun l => hasS (winF E (farM R gs l room) ms) z := by
 unfold truthI beganL
 rw [began_find]
 cases (allD gs).findIdx? _ <;> simp
theorem truthL0_eq (E : Int) (R : Nat) (gs : List GatT) (room : Nat) (ms : List MarT) (z : Int) : truthL0 E R gs room ms z = ((allD gs).find? fun l => hasS (winF E (farM R gs l room) ms) z).getD [] := by
 unfold truthL0
 rw [truthI_eq]
 generalize (allD gs) = L
 induction L with
 | nil => rfl
 | cons l L ih =>
  rw [List.findIdx?_cons, List.find?_cons]
  cases hasS (winF E (farM R gs l room) ms) z
  ·simp only [Bool.false_eq_true, if_false]
   rw [← ih]
   cases List.findIdx? _ L <;> rfl
  ·rfl
theorem truthI_some (E : Int) (R : Nat) (gs : List GatT) (room : Nat) (ms : List MarT) (z : Int) : (truthI E R gs room ms z).isSome = toldF (beganL E R gs room ms) z := by
 unfold truthI
 rw [Option.isSome_map, List.isSome_find?]
 rfl
theorem find_mem {α : Type} {p : α → Bool} {L : List α} {d : α} (h : (L.find? p).isSome = true) : (L.find? p).getD d ∈ L ∧ p ((L.find? p).getD d) = true := by
 obtain ⟨x, hx⟩ := Option.isSome_iff_exists.1 h
 rw [hx]
 exact ⟨List.mem_of_find?_eq_some hx, List.find?_some hx⟩
theorem truth_is {R E : Int} {gs : List GatT} {ms : List MarT} {room z : Int} (hsc : sceneF R E gs ms = true) (hr : roomOK R room = true) :
  (truthC R E gs ms room z = 0 ∧ truthL R E gs ms room z ∈ allD gs ∧ inS (winF E (farM R.toNat gs (truthL R E gs ms room z) room.toNat) ms) z) ∨ (truthC R E gs ms room z = 91 ∧ truthL R E gs ms room z = [] ∧ ∀ l ∈ allD gs, ¬ inS (winF E (farM R.toNat gs l room.toNat) ms) z) := by
 have hI : (truthI E R.toNat gs room.toNat ms z).isSome = ((allD gs).find? fun l => hasS (winF E (farM R.toNat gs l room.toNat) ms) z).isSome := by
  rw [truthI_eq, List.findIdx?_isSome, List.isSome_find?]
 have hC : truthC R E gs ms room z = if (truthI E R.toNat gs room.toNat ms z).isSome = true then 0 else 91 := by rw [truthC, if_pos hsc, if_pos hr]
 have hL : truthL R E gs ms room z = truthL0 E R.toNat gs room.toNat ms z := by rw [truthL, if_pos ⟨hsc, hr⟩]
 rw [hC, hL, hI, truthL0_eq]
 by_cases h : ((allD gs).find? fun l => hasS (winF E (farM R.toNat gs l room.toNat) ms) z).isSome = true
 ·obtain ⟨h1, h2⟩ := find_mem (d := []) h
  exact .inl ⟨if_pos h, h1, hasS_iff.1 h2⟩
 ·right
  rw [if_neg h]
  rw [Bool.not_eq_true, Option.isSome_eq_false_iff, Option.isNone_iff_eq_none] at h
  rw [h]
  exact ⟨rfl, rfl, fun l hl q => List.find?_eq_none.1 h l hl (hasS_iff.2 q)⟩
theorem spans_few (l : List Int) : (spansOf l).length ≤ l.length := by
 have key : ∀ (l : List Int) (acc : List SpaT), (l.foldl grpS acc).length ≤ acc.length + l.length := by
  intro l
  induction l with
  | nil => intro acc; simp
  | cons x l ih =>
   intro acc
   have h1 := ih (grpS acc x)
   have h2 : (grpS acc x).length ≤ acc.length + 1 := by
    unfold grpS
    split
    ·rw [List.length_set]; omega
    ·rw [List.length_append]; simp
   simp only [List.foldl_cons, List.length_cons]
   omega
 simpa [spansOf] using key l []
theorem minutes_few {R E : Int} {gs : List GatT} {ms : List MarT} {room : Int} (hE : 0 ≤ E ∧ E ≤ 600) : (minutesL R E gs ms room).length ≤ 601 := by
 rw [minutesL]
 split
 ·have h1 := spans_few (intsN (toldL E (beganL E R.toNat gs room.toNat ms)))
  have h2 := toldL_len E (beganL E R.toNat gs room.toNat ms)
  have h3 : (intsN (toldL E (beganL E R.toNat gs room.toNat ms))).length = (toldL E (beganL E R.toNat gs room.toNat ms)).length := by simp [intsN]
  omega
 ·simp
theorem RO.fldZ {w : World} {X : Nat → Prop} {b k : Nat} {cs : List Value} {v : Value} (h : RO w X ⟨b, 0, none⟩ cs) (hj : cs[k]? = some v) : RO w X ⟨b, 0 + k, none⟩ [v] := by
 have := RO.fld h hj
 rwa [Addr.add_lit] at this
theorem atsAt_row {w : World} {b n : Nat} {d : Nat → Int} (h : BlIn [(b, true, cel (rowD n d) 3)] w) : AtsAt w (some ⟨b, 0, none⟩) n d := by
 obtain ⟨o, h1, h2⟩ := h _ List.mem_cons_self
 rw [show o = _ from h2] at h1
 intro k hk
 rw [List.length_map, List.length_range] at hk
 refine ⟨_, rfl, ro1 ?_⟩
 rw [Addr.add_lit, cell_of_row w b _ _ _ _ h1]
 have := rowD_at d hk
 rw [show ((List.range n).map d).getD k 0 = d k by simp [List.getD_eq_getElem?_getD, hk]]
 simpa using this
set_option maxHeartbeats 16000000 in
theorem truth_yes (n : Nat) (E : Int) (A B Dl : Option Addr) (c c2 cd : Nat) (gs : List GatT) (ms : List MarT) (l : List Int) (room : Nat) (minute : Int) (w : World) (hn : 1 ≤ n ∧ n ≤ 6) (hE : 0 ≤ E ∧ E ≤ 600) (hG : GatesR n gs) (hm8 : ms.length ≤ 8) (hmk : ∀ m ∈ ms, MarkR n m) (hl : okD gs l) (hA : RowOf gatV 4 zGat w A gs) (hM : RowOf marV 7 zMar w B ms) (hD : IntsAt w Dl l) (hr : room < n) (hm : 0 ≤ minute ∧ minute ≤ E)
  (hso : ∀ m ∈ ms, soF E m (cameL n gs l room minute) = true) :
  Calls Tryz.prog 26 #[.agg (scnV n A gs.length c E B ms.length c2).toArray, .int .i64 (room : Int), .int .i64 minute, .slice Dl l.length cd] w fun e w' => e = .returned (.bool true) ∧ Below w.heap.size w w' := by
 have hll := okD_len hl
 have hg6 := hG.len
 have k1 : decide (minute < 0) = false := by simp; omega
 have k2 : decide (E < minute) = false := by simp; omega
 have k3 : (!decide ((l.length : Int) = (gs.length : Int))) = false := by simp [hll]
 refine x_calls (X := XNone) Tryz.func26 rfl rfl rfl ?_
 with_reducible ((repeat apply xc_seq); apply xcR)
 refine xo_box rfl rfl rfl rfl (fun b4 => ?_)
 refine xoA ?_
 with_reducible (apply xo_nil; (repeat first | apply xqT | apply xqB | apply xqS); (repeat apply xc_seq); apply xcR)
 refine xoM ?_
 refine xo_lss rfl rfl rfl rfl ?_
 refine xoM ?_
 refine xo_as (i := 16) rfl (congrArg Value.bool k1) ?_
 (first | refine xoN ?_ | refine xoM ?_)
 (first | refine xoN ?_ | refine xo_fa T_ rfl rfl rfl rfl rfl ?_)
 (first | refine xoN ?_ | refine xo_load0 T_ rfl rfl rfl (by repeat first | exact mH | apply mT | apply mA) rfl rfl ?_)
 (first | refine xoN ?_ | refine xo_gtr rfl rfl rfl rfl ?_)
 first | refine xo_pickT rfl rfl rfl rfl ?_ | refine xo_pickF rfl rfl rfl rfl ?_
 refine xoM ?_
 refine xo_as (i := 22) rfl (congrArg Value.bool k2) ?_
 (first | refine xoN ?_ | refine xoM ?_)
 (first | refine xoN ?_ | refine xo_len T_ rfl rfl rfl rfl ?_)
 (first | refine xoN ?_ | refine xo_fa T_ rfl rfl rfl rfl rfl ?_)
 (first | refine xoN ?_ | refine xo_load0 T_ rfl rfl rfl (by repeat first | exact mH | apply mT | apply mA) rfl rfl ?_)
 (first | refine xoN ?_ | refine xo_len T_ rfl rfl rfl rfl ?_)
 (first | refine xoN ?_ | refine xo_neq rfl rfl rfl rfl ?_)
 first | refine xo_pickT rfl rfl rfl rfl ?_ | refine xo_pickF rfl rfl rfl rfl ?_
 refine xo_as (i := 29) rfl (congrArg Value.bool k3) ?_
 with_reducible (apply xo_nil; (repeat first | apply xqT | apply xqB | apply xqS); (repeat apply xc_seq))
 refine xc_condF rfl ?_
 with_reducible (apply xc_skip; (repeat first | apply xqT | apply xqB | apply xqS); (repeat apply xc_seq); apply xcR)
 refine xo_fa T_ rfl rfl rfl rfl rfl ?_
 refine xo_load0 T_ rfl rfl rfl (by repeat first | exact mH | apply mT | apply mA) rfl rfl ?_
 refine xo_len T_ rfl rfl rfl rfl ?_
 refine xoM ?_
 with_reducible (apply xo_nil; (repeat first | apply xqT | apply xqB | apply xqS); (repeat apply xc_seq); apply xc_block)
 ·refine xc_loop (γ := Nat) (fun i => i ≤ gs.length) (fun i => [(1, .int .i64 (room : Int)), (2, .int .i64 minute), (3, .slice Dl l.length cd), (4, .pointer (some ⟨b4, 0, none⟩)), (31, .slice A gs.length c), (32, .int .i64 (gs.length : Int)), (33, .int .i64 (i : Int))]) (fun _ => [(b4, true, cel (scnV n A gs.length c E B ms.length c2) 25)]) (fun i => gs.length - i) 0 (Nat.zero_le _) ⟨rfl, rfl, rfl, rfl, rfl, rfl, rfl, trivial⟩ (List.Sublist.refl _) ?_
  intro i hi
  with_reducible ((repeat apply xc_seq); apply xcR)
  refine xo_lss rfl rfl rfl rfl ?_
  with_reducible (apply xo_nil; (repeat first | apply xqT | apply xqB | apply xqS); (repeat apply xc_seq))
  refine xc_cond rfl (fun h => ?_) (fun h => ?_)
  ·have hlti : i < gs.length := by have := of_decide_eq_true h; omega
   obtain ⟨ad, rfl, q1⟩ := hA i hlti
   obtain ⟨adl, rfl, q2⟩ := hD i (by omega)
   have hli := okD_at hl i hlti
   generalize gs.getD i zGat = g at q1 hli
   generalize l.getD i 0 = x at q2 hli
   have j1 : decide (x < g.f2.f0) = false := by simp; omega
   have j2 : decide (g.f2.f1 < x) = false := by simp; omega
   with_reducible (apply xc_skip; (repeat first | apply xqT | apply xqB | apply xqS); (repeat apply xc_seq); apply xc_block; (repeat apply xc_seq); apply xcR)
   refine xoM ?_
   refine xo_ia T_ rfl rfl rfl rfl rfl ⟨by omega, by omega⟩ rfl ?_
   refine xo_loadRN T_ rfl rfl rfl q1 rfl rfl ?_
   refine xo_alloc T_ rfl rfl rfl rfl (fun b10 => ?_)
   refine xoA ?_
   refine xo_store T_ rfl rfl rfl rfl (by repeat first | exact mH | apply mT | apply mA) rfl rfl rfl rfl (by repeat first | exact Upd.head | apply Upd.tail | apply Upd.app) rfl ?_
   with_reducible (apply xo_nil; (repeat first | apply xqT | apply xqB | apply xqS))
   refine xc_slots [(1, .int .i64 (room : Int)), (2, .int .i64 minute), (3, .slice (some adl) l.length cd), (4, .pointer (some ⟨b4, 0, none⟩)), (9, .int .i64 (i : Int)), (10, .pointer (some ⟨b10, 0, none⟩)), (31, .slice (some ad) gs.length c), (32, .int .i64 (gs.length : Int)), (33, .int .i64 (i : Int))] ⟨rfl, rfl, rfl, rfl, rfl, rfl, rfl, rfl, rfl, trivial⟩ ?_
   with_reducible (repeat apply xc_seq)
   apply xc_drawN
   ·exact T_.mixed
   ·rfl
   ·rfl
   ·rfl
   ·rfl
   ·apply DrawOps.cons
    ·intro τ
     refine xoM ?_
     exact xoF
    apply DrawOps.cons
    ·intro τ
     refine xoM ?_
     exact xoF
    apply DrawOps.cons
    ·intro τ
     refine xo_ia T_ rfl rfl rfl rfl rfl ⟨by omega, by omega⟩ rfl ?_
     exact xoF
    apply DrawOps.cons
    ·intro τ
     refine xo_loadR0 T_ rfl rfl rfl q2 rfl ?_
     exact xoF
    apply DrawOps.cons
    ·intro τ
     refine xo_fa T_ rfl rfl rfl rfl rfl ?_
     exact xoF
    apply DrawOps.cons
    ·intro τ
     refine xo_fa T_ rfl rfl rfl rfl rfl ?_
     exact xoF
    apply DrawOps.cons
    ·intro τ
     refine xo_load0 T_ rfl rfl rfl (by repeat first | exact mH | apply mT | apply mA) rfl rfl ?_
     exact xoF
    apply DrawOps.cons
    ·intro τ
     refine xo_lss rfl rfl rfl rfl ?_
     first
      | exact xo_fin (congrArg Value.bool j1)
      | exact xoF
    apply DrawOps.cons
    ·intro τ
     refine xoM ?_
     exact xoF
    apply DrawOps.cons
    ·intro τ
     (first | refine xoN ?_ | refine xoM ?_)
     exact xoF
    apply DrawOps.cons
    ·intro τ
     (first | refine xoN ?_ | refine xoM ?_)
     exact xoF
    apply DrawOps.cons
    ·intro τ
     (first | refine xoN ?_ | refine xo_ia T_ rfl rfl rfl rfl rfl ⟨by omega, by omega⟩ rfl ?_)
     exact xoF
    apply DrawOps.cons
    ·intro τ
     (first | refine xoN ?_ | refine xo_loadR0 T_ rfl rfl rfl q2 rfl ?_)
     exact xoF
    apply DrawOps.cons
    ·intro τ
     (first | refine xoN ?_ | refine xo_fa T_ rfl rfl rfl rfl rfl ?_)
     exact xoF
    apply DrawOps.cons
    ·intro τ
     (first | refine xoN ?_ | refine xo_fa T_ rfl rfl rfl rfl rfl ?_)
     exact xoF
    apply DrawOps.cons
    ·intro τ
     (first | refine xoN ?_ | refine xo_load0 T_ rfl rfl rfl (by repeat first | exact mH | apply mT | apply mA) rfl rfl ?_)
     exact xoF
    apply DrawOps.cons
    ·intro τ
     (first | refine xoN ?_ | refine xo_gtr rfl rfl rfl rfl ?_)
     first
      | exact xo_fin (congrArg Value.bool j2)
      | exact xoF
    apply DrawOps.cons
    ·intro τ
     first | refine xo_pickT rfl rfl rfl rfl ?_ | refine xo_pickF rfl rfl rfl rfl ?_
     exact xoF
    exact DrawOps.nil
   ·rfl
   with_reducible ((repeat first | apply xqT | apply xqB | apply xqS); (repeat apply xc_seq))
   refine xc_condF rfl ?_
   with_reducible (apply xc_skip; (repeat first | apply xqT | apply xqB | apply xqS); (repeat apply xc_seq); apply xcR)
   refine xo_add rfl rfl rfl (by omega) rfl ?_
   refine xoM ?_
   with_reducible (apply xo_nil; (repeat first | apply xqT | apply xqB | apply xqS))
   exact xq_again _ _ _ _ _ (i + 1) (by omega) (by omega) ⟨rfl, rfl, rfl, rfl, rfl, rfl, rfl, trivial⟩ (by repeat (first | exact List.Sublist.refl _ | apply List.Sublist.cons_cons | apply List.Sublist.cons | exact List.nil_sublist _))
  ·with_reducible apply xc_exit
   with_reducible ((repeat (first | apply xq_blockX | apply xq_thenE | refine xq_blockE rfl ?_ | apply xq_scopeE)); (repeat first | apply xqT | apply xqB | apply xqS); (repeat apply xc_seq); apply xcR)
   refine xo_loadN T_ (b := b4) (wr := true) (cs := scnV n A gs.length c E B ms.length c2) (te := 25) rfl rfl rfl (by repeat first | exact mH | apply mT | apply mA) rfl rfl ?_
   refine xoM ?_
   refine xoM ?_
   refine xoM ?_
   refine xo_call (fs := []) (cs := []) rfl rfl rfl comes_enters rfl (fun w1 hw1 => (comes_calls n E A B Dl c ms.length c2 cd gs l room minute w1 hn hG hl (hA.below hw1.kx.below) (RowOf.below hD hw1.kx.below) hr ⟨hm.1, by omega⟩).mono ?_)
   rintro e w2 ⟨b61, rfl, hz⟩
   refine ⟨_, _, rfl, hw1.join hz (fun e he => by rw [List.mem_singleton.1 he]), ?_⟩
   clear hz hw1
   refine xoA ?_
   with_reducible (apply xo_nil; (repeat first | apply xqT | apply xqB | apply xqS))
   refine xc_slots [(4, .pointer (some ⟨b4, 0, none⟩)), (11, .slice (some ⟨b61, 0, none⟩) n n)] ⟨rfl, rfl, trivial⟩ ?_
   refine xc_anew fun w3 hw3 => ?_
   have hat : AtsAt w3 (some ⟨b61, 0, none⟩) n (cameL n gs l room minute) := atsAt_row (hw3.bl_of (fun e he => by rw [List.mem_singleton.1 he]; exact List.mem_cons_self))
   have h4 : RO w3 XNone ⟨b4, 0, none⟩ (scnV n A gs.length c E B ms.length c2) := hw3.ro (wr := true) (t := 25) (by repeat first | exact mH | apply mT | apply mA)
   have hM := hM.below hw3.kx.below
   have hci := came_in hn hG hl hr (minute := minute) ⟨hm.1, by omega⟩
   have hw3 := hw3.kx.below
   with_reducible ((repeat apply xc_seq); apply xcR)
   refine xo_fa T_ rfl rfl rfl rfl rfl ?_
   refine xo_loadR0 T_ rfl rfl rfl (RO.fldZ (v := .slice B ms.length c2) h4 rfl) rfl ?_
   refine xo_len T_ rfl rfl rfl rfl ?_
   refine xoM ?_
   with_reducible (apply xo_nil; (repeat first | apply xqT | apply xqB | apply xqS); (repeat apply xc_seq); apply xc_block)
   ·refine xc_loop (γ := Nat) (fun i => i ≤ ms.length) (fun i => [(4, .pointer (some ⟨b4, 0, none⟩)), (11, .slice (some ⟨b61, 0, none⟩) n n), (63, .slice B ms.length c2), (64, .int .i64 (ms.length : Int)), (65, .int .i64 (i : Int))]) (fun _ => []) (fun i => ms.length - i) 0 (Nat.zero_le _) ⟨rfl, rfl, rfl, rfl, rfl, trivial⟩ (List.nil_sublist _) ?_
    intro i hi
    with_reducible ((repeat apply xc_seq); apply xcR)
    refine xo_lss rfl rfl rfl rfl ?_
    with_reducible (apply xo_nil; (repeat first | apply xqT | apply xqB | apply xqS); (repeat apply xc_seq))
    refine xc_cond rfl (fun h => ?_) (fun h => ?_)
    ·have hlti : i < ms.length := by have := of_decide_eq_true h; omega
     obtain ⟨ad, rfl, q1⟩ := hM i hlti
     have hmi := hmk _ (getD_mem ms zMar i hlti)
     have hsi := hso _ (getD_mem ms zMar i hlti)
     generalize ms.getD i zMar = m at q1 hmi hsi
     have hns : (!soF E m (cameL n gs l room minute)) = false := by rw [hsi]; rfl
     with_reducible (apply xc_skip; (repeat first | apply xqT | apply xqB | apply xqS); (repeat apply xc_seq); apply xc_block; (repeat apply xc_seq); apply xcR)
     refine xo_ia T_ rfl rfl rfl rfl rfl ⟨by omega, by omega⟩ rfl ?_
     refine xo_loadRN T_ rfl rfl rfl q1 rfl rfl ?_
     refine xo_alloc T_ rfl rfl rfl rfl (fun b13 => ?_)
     refine xo_store T_ rfl rfl rfl rfl (by repeat first | exact mH | apply mT | apply mA) rfl rfl rfl rfl (by repeat first | exact Upd.head | apply Upd.tail | apply Upd.app) rfl ?_
     with_reducible (apply xo_nil; (repeat first | apply xqT | apply xqB | apply xqS); (repeat apply xc_seq); apply xcR)
     refine xo_loadRN T_ rfl rfl rfl h4 rfl rfl ?_
     refine xo_loadN T_ rfl rfl rfl (by repeat first | exact mH | apply mT | apply mA) rfl rfl ?_
     refine xoM ?_
     refine xo_callB (fs := []) (cs := []) rfl rfl rfl so_enters rfl (fun w1 hw1 => so_calls n E A (some ad) (some ⟨b61, 0, none⟩) c c2 n n gs.length ms.length m (cameL n gs l room minute) w1 (RowOf.below hat hw1.kx.below) hmi.room hmi.other hE (hci _ (by have := hmi.room; omega))) ?_
     refine xo_notOp rfl rfl rfl ?_
     refine xo_as (i := 73) rfl (congrArg Value.bool hns) ?_
     with_reducible (apply xo_nil; (repeat first | apply xqT | apply xqB | apply xqS); (repeat apply xc_seq))
     refine xc_condF rfl ?_
     with_reducible (apply xc_skip; (repeat first | apply xqT | apply xqB | apply xqS); (repeat apply xc_seq); apply xcR)
     refine xo_add rfl rfl rfl (by omega) rfl ?_
     refine xoM ?_
     with_reducible (apply xo_nil; (repeat first | apply xqT | apply xqB | apply xqS))
     exact xq_again _ _ _ _ _ (i + 1) (by omega) (by omega) ⟨rfl, rfl, rfl, rfl, rfl, trivial⟩ (List.nil_sublist _)
    ·with_reducible apply xc_exit
     with_reducible ((repeat (first | apply xq_blockX | apply xq_thenE | refine xq_blockE rfl ?_ | apply xq_scopeE)); (repeat first | apply xqT | apply xqB | apply xqS); (repeat apply xc_seq); apply xcR)
     refine xoA ?_
     with_reducible (apply xo_nil; (repeat first | apply xqT | apply xqB | apply xqS); (repeat apply xc_seq); apply xc_ret; (repeat (first | apply xq_thenR | apply xq_blockR | apply xq_scopeR)))
     exact xq_ret1 rfl rfl fun w' hw => ⟨rfl, below_step hw3 hw.kx.below⟩
theorem truth_enters : ∀ args w, (callFunc 26 args).run Tryz.prog w = .ok (.enter 26 args) w := enters_of Tryz.func26 (by kernel_rfl) rfl
end Go.Proofs.YtommeljlfkmpjaaGreatDoor
namespace Go.Proofs.YtommeljlfkmpjaaGreatDoor
open Go.RowKit Go.Proofs.YtommeljlfkmpjaaGreatDoorW.PrintWords
inductive CH where
 | c0
 | c1 (b1 : Nat)
 | c2 (b1 b5 k5 : Nat)
 | c3 (b1 b5 k5 b10 k10 : Nat)
 | c4 (b1 b5 k5 b10 k10 : Nat) (r : RowR)
inductive AL where
 | a0
 | a1 (b : Nat)
 | a2 (b : Nat) (r : RowR)
def CH.b1 : CH → Nat
 | .c0 => 0
 | .c1 b => b
 | .c2 b _ _ => b
 | .c3 b _ _ _ _ => b
 | .c4 b _ _ _ _ _ => b
def CH.b5 : CH → Nat
 | .c2 _ b _ => b
 | .c3 _ b _ _ _ => b
 | .c4 _ b _ _ _ _ => b
 | _ => 0
def CH.k5 : CH → Nat
 | .c2 _ _ b => b
 | .c3 _ _ b _ _ => b
 | .c4 _ _ b _ _ _ => b
 | _ => 0
def CH.b10 : CH → Nat
 | .c3 _ _ _ b _ => b
 | .c4 _ _ _ b _ _ => b
 | _ => 0
def CH.k10 : CH → Nat
 | .c3 _ _ _ _ b => b
 | .c4 _ _ _ _ b _ => b
 | _ => 0
def CH.r : CH → RowR
 | .c4 _ _ _ _ _ r => r
 | _ => none
def AL.b : AL → Nat
 | .a0 => 0
 | .a1 b => b
 | .a2 b _ => b
end Go.Proofs.YtommeljlfkmpjaaGreatDoor
namespace Go.Proofs.YtommeljlfkmpjaaGreatDoor
open Go.RowKit Go.Proofs.YtommeljlfkmpjaaGreatDoorW.PrintWords
section
variable {P : Program} {ro : Option Nat} {n N : Nat} {ds : List Deferred} {w0 : World} {X : Nat → Prop} {Q : Exit → Act → World → Prop} {σ : Slots} {η η' : Hp} {ops rest : List Oper} {d : Option Tmp} {ty : TypeId} {pos : String} {aft : Array Edge} {g : Option (Nat × Bool)}
theorem WOK.fewer {b : Nat} {wr : Bool} {t : TypeId} {sz m k cap : Nat} {xs : List Value} {η0 : Hp} {w : World} (hm : m ≤ k) (h : WOK w0 X ((b, wr, orow t sz k cap xs) :: η0) w) : WOK w0 X ((b, wr, orow t sz m cap (xs.take (m * sz))) :: η0) w := by
 refine ⟨h.kx, fun e he => ?_, h.nd, fun e he hw => ?_⟩
 ·rcases List.mem_cons.1 he with rfl | he
  ·obtain ⟨o, h1, cur, h2, h3, h4, h5, h6⟩ := h.bl _ List.mem_cons_self
   refine ⟨o, h1, cur, h2, by omega, h4, h5, ?_⟩
   rw [← h6, List.take_take, Nat.min_eq_left (Nat.mul_le_mul_right _ hm)]
  ·exact h.bl _ (List.mem_cons_of_mem _ he)
 ·rcases List.mem_cons.1 he with rfl | he
  ·exact h.ow (b, wr, orow t sz k cap xs) List.mem_cons_self hw
  ·exact h.ow _ (List.mem_cons_of_mem _ he) hw
end
theorem setSeg_take : ∀ (i : Nat) (vs cs : List Value) (n : Nat) (cs' : List Value), setSeg i vs cs = some cs' → i + vs.length ≤ n → setSeg i vs (cs.take n) = some (cs'.take n) := by
 intro i
 induction i with
 | zero =>
  intro vs
  induction vs with
  | nil => intro cs n cs' h _; simp only [setSeg, Option.some.injEq] at h ⊢; rw [h]
  | cons v vs ih =>
   intro cs n cs' h hn
   cases cs with
   | nil => simp [setSeg] at h
   | cons x cs =>
    cases n with
    | zero => simp at hn
    | succ n =>
     rw [setSeg] at h
     cases hq : setSeg 0 vs cs with
     | none => rw [hq] at h; cases h
     | some r =>
      rw [hq] at h
      obtain rfl := Option.some.inj h
      have := ih cs n r hq (by simp at hn ⊢; omega)
      rw [List.take_succ_cons, setSeg, this]
      rfl
 | succ i ih =>
  intro vs cs n cs' h hn
  cases cs with
  | nil => simp [setSeg] at h
  | cons x cs =>
   cases n with
   | zero => omega
   | succ n =>
    rw [setSeg] at h
    cases hq : setSeg i vs cs with
    | none => rw [hq] at h; cases h
    | some r =>
     rw [hq] at h
     obtain rfl := Option.some.inj h
     have := ih vs cs n r hq (by omega)
     rw [List.take_succ_cons, setSeg, this]
     rfl
theorem setSeg_app : ∀ (a vs b cs : List Value), vs.length = b.length → setSeg a.length vs (a ++ (b ++ cs)) = some (a ++ (vs ++ cs))
 | [], [], [], cs, _ => by simp [setSeg]
 | [], v :: vs, x :: b, cs, h => by
  have := setSeg_app [] vs b cs (by simpa using h)
  simp only [List.length_nil, List.nil_append] at this ⊢
  rw [List.cons_append, setSeg, this]
  rfl
 | [], [], _ :: _, _, h => by simp at h
 | [], _ :: _, [], _, h => by simp at h
 | x :: a, vs, b, cs, h => by
  have := setSeg_app a vs b cs h
  rw [List.length_cons, List.cons_append, setSeg, this]
  rfl
theorem marL_split (ls : List MarT) {k : Nat} (hk : k < ls.length) : marL ls = marL (ls.take k) ++ (marV (ls.getD k zMar) ++ marL (ls.drop (k + 1))) := by
 have h := drop_at ls zMar k hk
 have h2 : marL ls = marL (ls.take k) ++ marL (ls.drop k) := by
  unfold marL
  rw [← List.flatten_append, ← List.map_append, List.take_append_drop]
 rw [h2, h]
 rfl
section
variable {P : Program} {ro : Option Nat} {n N : Nat} {ds : List Deferred} {w0 : World} {X : Nat → Prop} {Q : Exit → Act → World → Prop} {σ : Slots} {η : Hp} {ops rest : List Oper} {d : Option Tmp} {ty : TypeId} {pos : String} {aft : Array Edge} {g : Option (Nat × Bool)}
theorem xo_storeZN (T : Tys P) {t : TypeId} {p x : Operand} {pa : Addr} {b k m cap sz k0 : Nat} {xs ys vs : List Value} {te : TypeId} {v : Value} {η' : Hp} (hg : gS ops σ g = some true) (ht : look t T.tk = some k0) (hp : ev σ p = some (.pointer (some pa))) (hpa : pa = ⟨b, k, none⟩) (hx : ev σ x = some v)
  (hm : (b, true, orow te sz m cap xs) ∈ η) (hvs : v.cells.toList = vs) (hl : Nat.beq vs.length (szN k0) = true) (h1 : vs.all (·.oneCell') = true) (hlt : k + vs.length ≤ m * sz) (hs : setSeg k vs xs = some ys) (hU : Upd b (orow te sz m cap ys) η η') (hN : dstOK N d = true)
  (h : XO P ro n N ds w0 X Q ops (putS d undef σ) η' rest) : XO P ro n N ds w0 X Q ops σ η (⟨d, .store t p x, ty, pos, aft, g⟩ :: rest) :=
 xo_base rfl hg fun a w ha hw => by
  have h2 := (T.htk _ (look_mem ht)).2 w
  obtain ⟨o, h4, cur, rfl, h5, h6, h7, h8⟩ := hw.bl _ hm
  have hsz : m * sz ≤ cur.toList.length := by rw [Array.length_toList, h7]; exact Nat.mul_le_mul_right _ h5
  obtain ⟨cs', hc1, hc2, _⟩ := setSeg_ok k vs cur.toList (by omega)
  have hys : cs'.take (m * sz) = ys := by
   have := setSeg_take k vs cur.toList (m * sz) cs' hc1 hlt
   rw [h8, hs] at this
   exact (Option.some.inj this).symm
  obtain ⟨w', hr, ho, hb⟩ := run_storeCells (P := P) b te vs cur.toList k 0 cs' w (by simpa using h1) hc1 (by simpa using h4)
  have h3 := ha.ev hp
  rw [hpa] at h3
  refine ⟨_, w', undef, ?_, .inr ⟨rfl, rfl⟩, h _ _ (ha.put hN _) (hw.upd hU ho hb ⟨_, rfl, h5, h6, by rw [List.size_toArray, hc2, Array.length_toList, h7], by simpa using hys⟩)⟩
  have hlen : v.cells.size = szN k0 := by have := Nat.eq_of_beq_eq_true hl; rw [← this, ← hvs]; simp
  unfold szN at hlen
  simp only [execOp, h3, ha.ev hx, Instr.storeAt, Instr.sureAddr, storeVar, Sem.run_bind, Sem.run_pure, Result.andThen_ok, h2, hlen, hvs, hr, ne_eq, not_true_eq_false, ↓reduceIte]
end
theorem upL_mem : ∀ (n : Nat) (lo x : Int), x ∈ upL lo n ↔ lo ≤ x ∧ x < lo + n
 | 0, lo, x => by simp [upL]
 | n + 1, lo, x => by
  rw [upL, List.mem_cons, upL_mem n (lo + 1) x]
  omega
theorem okD_all : ∀ {gs : List GatT} {l : List Int}, okD gs l → l ∈ allD gs
 | [], [], _ => by simp [allD]
 | g :: gs, x :: l, h => by
  rw [allD, List.mem_flatMap]
  have h1 := h.1
  exact ⟨x, (upL_mem _ _ _).2 ⟨h1.1, by omega⟩, List.mem_map.2 ⟨l, okD_all h.2, rfl⟩⟩
 | [], _ :: _, h => h.elim
 | _ :: _, [], h => h.elim
def FirstD (d l : List Int) : Prop := ∀ k, k < d.length → d.take k = l.take k → d.getD k 0 ≠ l.getD k 0 → d.getD k 0 < l.getD k 0
theorem FirstD.refl (d : List Int) : FirstD d d := fun k _ _ h => absurd rfl h
theorem FirstD.cons {x : Int} {a b : List Int} (h : FirstD a b) : FirstD (x :: a) (x :: b) := fun k hk ht hne => by
 cases k with
 | zero => exact absurd rfl hne
 | succ k =>
  simp only [List.length_cons, List.take_succ_cons, List.cons.injEq, true_and, List.getD_cons_succ] at hk ht hne ⊢
  exact h k (by omega) ht hne
theorem FirstD.less {x y : Int} {a b : List Int} (h : x < y) : FirstD (x :: a) (y :: b) := fun k hk ht hne => by
 cases k with
 | zero => simpa using h
 | succ k =>
  simp only [List.take_succ_cons, List.cons.injEq] at ht
  omega
theorem told_iff {E z : Int} {R : Nat} {gs : List GatT} {room : Nat} {ms : List MarT} : toldF (beganL E R gs room ms) z = true ↔ ∃ l ∈ allD gs, inS (winF E (farM R gs l room) ms) z := by
 rw [← truthI_some, truthI_eq, List.findIdx?_isSome, List.any_eq_true]
 constructor
 ·rintro ⟨l, h1, h2⟩; exact ⟨l, h1, hasS_iff.1 h2⟩
 ·rintro ⟨l, h1, h2⟩; exact ⟨l, h1, hasS_iff.2 h2⟩
def laterM (n : Int) (m : MarT) : MarT := if m.f1 ≤ 3 then ⟨m.f0, m.f1, m.f2, m.f3, ⟨m.f4.f0 + n, m.f4.f1 + n⟩, m.f5⟩ else m
theorem later_says {E n z : Int} {r : Nat → Int} {m : MarT} (hz : 0 ≤ z ∧ z ≤ 600) (hzn : 0 ≤ z + n ∧ z + n ≤ 600) : inS (saysF (E + n) r (laterM n m)) (z + n) ↔ inS (saysF E r m) z := by
 unfold laterM
 by_cases h3 : m.f1 ≤ 3
 ·rw [if_pos h3]
  unfold saysF
  simp only [in_ite, in_com, in_after hz, in_after hzn, in_until hz, in_until hzn]
  omega
 ·rw [if_neg h3]
  unfold saysF nowhereF
  simp only [in_ite, in_com, in_after hz, in_after hzn, in_until hz, in_until hzn, in_lit]
  omega
theorem later_win {E n z : Int} {r : Nat → Int} {ms : List MarT} (hn : 0 ≤ n) (hE : E + n ≤ 600) (hz : 0 ≤ z ∧ z ≤ E) : inS (winF (E + n) r (ms.map (laterM n))) (z + n) ↔ inS (winF E r ms) z := by
 rw [winF_mem, winF_mem]
 constructor
 ·rintro ⟨_, h⟩
  exact ⟨hz, fun m hm => (later_says ⟨hz.1, by omega⟩ ⟨by omega, by omega⟩).1 (h _ (List.mem_map_of_mem hm))⟩
 ·rintro ⟨_, h⟩
  refine ⟨⟨by omega, by omega⟩, fun m' hm' => ?_⟩
  obtain ⟨m, hm, rfl⟩ := List.mem_map.1 hm'
  exact (later_says ⟨hz.1, by omega⟩ ⟨by omega, by omega⟩).2 (h m hm)
theorem later_truth {R E n z room : Int} {gs : List GatT} {ms : List MarT} (hsc : sceneF R E gs ms = true) (hsc' : sceneF R (E + n) gs (ms.map (laterM n)) = true) (hr : roomOK R room = true) (hn : 0 ≤ n) (hz : 0 ≤ z ∧ z ≤ E) :
  truthC R (E + n) gs (ms.map (laterM n)) room (z + n) = truthC R E gs ms room z ∧ truthL R (E + n) gs (ms.map (laterM n)) room (z + n) = truthL R E gs ms room z := by
 have hE := (sceneF_ok hsc').2.1
 have h : ∀ l, hasS (winF (E + n) (farM R.toNat gs l room.toNat) (ms.map (laterM n))) (z + n) = hasS (winF E (farM R.toNat gs l room.toNat) ms) z := fun l => by
  rw [Bool.eq_iff_iff, hasS_iff, hasS_iff]
  exact later_win hn hE.2 hz
 constructor
 ·rw [truthC, truthC, if_pos hsc, if_pos hsc', if_pos hr, if_pos hr, truthI_eq, truthI_eq]
  simp only [h]
 ·rw [truthL, truthL, if_pos ⟨hsc', hr⟩, if_pos ⟨hsc, hr⟩, truthL0_eq, truthL0_eq]
  simp only [h]
def flipG (g : GatT) : GatT := ⟨g.f1, g.f0, g.f2⟩
def turnG (gs : List GatT) (k : Nat) : List GatT := (gs.drop k ++ gs.take k).map flipG
def rotL (l : List Int) (k : Nat) : List Int := l.drop k ++ l.take k
theorem Wk.congr {es fs : List Edge3} (h : ∀ a c l, Adj es a c l → Adj fs a c l) {b a : Nat} {p : List Nat} {n : Int} (hw : Wk es b a p n) : Wk fs b a p n := by
 induction hw with
 | nil => exact Wk.nil
 | cons h1 _ ih => exact Wk.cons (h _ _ _ h1) ih
theorem Dist.congr {es fs : List Edge3} (h : ∀ a c l, Adj es a c l ↔ Adj fs a c l) {R : Nat} {N : Int} {r : Nat} {d : Nat → Int} (k : Dist es R N r d) : Dist fs R N r d :=
 ⟨k.top, fun v hv => (k.is v hv).imp_right fun ⟨p, w⟩ => ⟨p, w.congr fun a c l => (h a c l).1⟩, fun v hv p n w => k.least v hv p n (w.congr fun a c l => (h a c l).2)⟩
theorem Dist.uniq {es : List Edge3} {R : Nat} {N : Int} {r : Nat} {d e : Nat → Int} (h : Dist es R N r d) (k : Dist es R N r e) {v : Nat} (hv : v < R) : d v = e v := by
 have h1 := h.top v hv
 have k1 := k.top v hv
 rcases h.is v hv with h2 | ⟨p, hp⟩
 ·rcases k.is v hv with k2 | ⟨q, hq⟩
  ·omega
  ·have := h.least v hv q _ hq; omega
 ·have h3 := k.least v hv p _ hp
  rcases k.is v hv with k2 | ⟨q, hq⟩
  ·omega
  ·have := h.least v hv q _ hq; omega
theorem far_dist {n : Nat} {gs : List GatT} {l : List Int} {room : Nat} (hG : GatesR n gs) (hl : okD gs l) (hr : room < n) : Dist (edgesL gs l) n nvr room (farM n gs l room) := by
 have hp := okD_pos hl fun g hg => (hG.ok g hg).2.2.2.1
 have hF : Fine (edgesL gs l) n := fun e he => by
  obtain ⟨g, hg, h1, h2⟩ := edges_from e he
  have h3 := hG.ok g hg
  exact ⟨by omega, by omega, hp e he⟩
 exact fw_dist hF (edges_ne hG l) (N := nvr) (by decide) hr
theorem edges_app : ∀ (a b : List GatT) (x y : List Int), a.length = x.length → edgesL (a ++ b) (x ++ y) = edgesL a x ++ edgesL b y := fun a b x y h => List.zipWith_append h
theorem edges_flip : ∀ (gs : List GatT) (l : List Int), edgesL (gs.map flipG) l = (edgesL gs l).map fun e => (e.2.1, e.1, e.2.2)
 | [], _ => rfl
 | _ :: _, [] => rfl
 | g :: gs, x :: l => congrArg (_ :: ·) (edges_flip gs l)
theorem adj_flip {es : List Edge3} {a c : Nat} {l : Int} : Adj (es.map fun e => (e.2.1, e.1, e.2.2)) a c l ↔ Adj es a c l := by
 unfold Adj
 simp only [List.mem_map]
 constructor
 ·rintro (⟨e, he, q⟩ | ⟨e, he, q⟩)
  ·obtain ⟨e0, e1, e2⟩ := e
   simp only [Prod.mk.injEq] at q
   obtain ⟨rfl, rfl, rfl⟩ := q
   exact .inr he
  ·obtain ⟨e0, e1, e2⟩ := e
   simp only [Prod.mk.injEq] at q
   obtain ⟨rfl, rfl, rfl⟩ := q
   exact .inl he
 ·rintro (h | h)
  ·exact .inr ⟨_, h, rfl⟩
  ·exact .inl ⟨_, h, rfl⟩
theorem adj_turn {gs : List GatT} {l : List Int} (hl : l.length = gs.length) (k : Nat) (a c : Nat) (x : Int) : Adj (edgesL (turnG gs k) (rotL l k)) a c x ↔ Adj (edgesL gs l) a c x := by
 have h1 : edgesL (turnG gs k) (rotL l k) = (edgesL (gs.drop k) (l.drop k) ++ edgesL (gs.take k) (l.take k)).map fun e => (e.2.1, e.1, e.2.2) := by
  rw [turnG, rotL, edges_flip, edges_app _ _ _ _ (by rw [List.length_drop, List.length_drop, hl])]
 have h2 : edgesL gs l = edgesL (gs.take k) (l.take k) ++ edgesL (gs.drop k) (l.drop k) := by
  rw [← edges_app _ _ _ _ (by rw [List.length_take, List.length_take, hl]), List.take_append_drop, List.take_append_drop]
 rw [h1, adj_flip, h2]
 unfold Adj
 simp only [List.mem_append]
 constructor
 ·rintro ((h | h) | (h | h)) <;> simp [h]
 ·rintro ((h | h) | (h | h)) <;> simp [h]
theorem okD_app : ∀ {a b : List GatT} {x y : List Int}, okD a x → okD b y → okD (a ++ b) (x ++ y)
 | [], _, [], _, _, h => h
 | _ :: _, _, _ :: _, _, h, k => ⟨h.1, okD_app h.2 k⟩
 | [], _, _ :: _, _, h, _ => h.elim
 | _ :: _, _, [], _, h, _ => h.elim
theorem okD_take : ∀ {gs : List GatT} {l : List Int} (k : Nat), okD gs l → okD (gs.take k) (l.take k) ∧ okD (gs.drop k) (l.drop k)
 | gs, l, 0, h => ⟨by rw [List.take_zero, List.take_zero]; trivial, by rw [List.drop_zero, List.drop_zero]; exact h⟩
 | [], [], k + 1, _ => ⟨trivial, trivial⟩
 | g :: gs, x :: l, k + 1, h => ⟨⟨h.1, (okD_take k h.2).1⟩, (okD_take k h.2).2⟩
 | [], _ :: _, _ + 1, h => h.elim
 | _ :: _, [], _ + 1, h => h.elim
theorem okD_flip : ∀ {gs : List GatT} {l : List Int}, okD (gs.map flipG) l ↔ okD gs l
 | [], [] => Iff.rfl
 | g :: gs, x :: l => and_congr_right fun _ => okD_flip
 | [], _ :: _ => Iff.rfl
 | _ :: _, [] => Iff.rfl
theorem okD_rot {gs : List GatT} {l : List Int} (k : Nat) (h : okD gs l) : okD (turnG gs k) (rotL l k) := okD_flip.2 (okD_app (okD_take k h).2 (okD_take k h).1)
theorem okD_back {gs : List GatT} {l : List Int} {k : Nat} (hk : k ≤ gs.length) (h : okD (turnG gs k) l) : ∃ l', okD gs l' ∧ l = rotL l' k := by
 have h1 := okD_flip.1 h
 have hll := okD_len h1
 have hlen : l.length = gs.length := by rw [hll, List.length_append, List.length_drop, List.length_take]; omega
 have h2 := okD_take (gs.length - k) h1
 rw [List.take_left' (by rw [List.length_drop]), List.drop_left' (by rw [List.length_drop])] at h2
 refine ⟨l.drop (gs.length - k) ++ l.take (gs.length - k), ?_, ?_⟩
 ·have h3 := okD_app h2.2 h2.1
  rwa [List.take_append_drop] at h3
 ·have hd : (l.drop (gs.length - k)).length = k := by rw [List.length_drop]; omega
  rw [rotL, List.drop_left' hd, List.take_left' hd, List.take_append_drop]
theorem turn_gates {R : Int} {gs : List GatT} {k : Nat} (hk : k ≤ gs.length) : (turnG gs k).length = gs.length ∧ (turnG gs k).all (gateF R) = gs.all (gateF R) := by
 have hf : ∀ g, gateF R (flipG g) = gateF R g := fun g => by
  unfold gateF flipG
  simp only
  rw [Bool.and_comm (inF 0 (R - 1) g.f1), decide_eq_decide.2 (eq_comm (a := g.f1) (b := g.f0))]
 constructor
 ·rw [turnG, List.length_map, List.length_append, List.length_drop, List.length_take]; omega
 ·rw [turnG, List.all_map, show (gateF R ∘ flipG) = gateF R from funext hf, List.all_append]
  conv => rhs; rw [← List.take_append_drop k gs, List.all_append, Bool.and_comm]
theorem turnG_scene {R E : Int} {gs : List GatT} {ms : List MarT} {k : Nat} (hk : k ≤ gs.length) : sceneF R E (turnG gs k) ms = sceneF R E gs ms := by
 rw [sceneF, sceneF, (turn_gates (R := R) hk).1, (turn_gates hk).2]
theorem win_turn {n : Nat} {E z : Int} {gs : List GatT} {ms : List MarT} {l : List Int} {room k : Nat} (hk : k ≤ gs.length) (hG : GatesR n gs) (hG' : GatesR n (turnG gs k)) (hmk : ∀ m ∈ ms, MarkR n m) (hl : okD gs l) (hr : room < n) :
  inS (winF E (farM n (turnG gs k) (rotL l k) room) ms) z ↔ inS (winF E (farM n gs l room) ms) z := by
 have hv : ∀ v, v < n → farM n (turnG gs k) (rotL l k) room v = farM n gs l room v := fun v hv =>
  ((far_dist hG' (okD_rot k hl) hr).congr (adj_turn (okD_len hl) k)).uniq (far_dist hG hl hr) hv
 have hs : ∀ m ∈ ms, saysF E (farM n (turnG gs k) (rotL l k) room) m = saysF E (farM n gs l room) m := fun m hm => by
  have h := hmk m hm
  have h2 := h.room
  have h3 := h.other
  unfold saysF
  rw [hv m.f2.toNat (by omega), hv m.f3.toNat (by omega)]
 rw [winF_mem, winF_mem]
 refine and_congr_right fun _ => ⟨fun h m hm => hs m hm ▸ h m hm, fun h m hm => (hs m hm).symm ▸ h m hm⟩
structure TurnT (R E : Int) (gs gt : List GatT) (ms : List MarT) (room z : Int) : Prop where
 scene : sceneF R E gt ms = true
 list : minutesL R E gt ms room = minutesL R E gs ms room
 code : minutesC R E gt ms room = 0 ∧ minutesC R E gs ms room = 0
 truth : truthC R E gt ms room z = truthC R E gs ms room z
 is : truthC R E gs ms room z = 0 → okD gt (truthL R E gt ms room z) ∧ (0 ≤ z ∧ z ≤ E) ∧ ∀ m ∈ ms, soF E m (cameL R.toNat gt (truthL R E gt ms room z) room.toNat z) = true
theorem turn_told {n : Nat} {E z : Int} {gs : List GatT} {ms : List MarT} {room k : Nat} (hk : k ≤ gs.length) (hsc : sceneF n E gs ms = true) (hr : room < n) : TurnT n E gs (turnG gs k) ms room z := by
 have hsc' : sceneF n E (turnG gs k) ms = true := by rw [turnG_scene hk]; exact hsc
 obtain ⟨hn, hE, hG, _, _⟩ := sceneF_ok hsc
 obtain ⟨_, _, hG', _, _⟩ := sceneF_ok hsc'
 obtain ⟨hS, hmk⟩ := sane_of (R := n) rfl hsc
 have hro : roomOK n room = true := inF_iff.2 ⟨by omega, by omega⟩
 have hT : ∀ z, toldF (beganL E n (turnG gs k) room ms) z = toldF (beganL E n gs room ms) z := fun z => by
  rw [Bool.eq_iff_iff, told_iff, told_iff]
  constructor
  ·rintro ⟨l, hl, h⟩
   obtain ⟨l', h1, rfl⟩ := okD_back hk (allD_ok l hl)
   exact ⟨l', okD_all h1, (win_turn hk hG hG' hmk h1 hr).1 h⟩
  ·rintro ⟨l, hl, h⟩
   exact ⟨rotL l k, okD_all (okD_rot k (allD_ok l hl)), (win_turn hk hG hG' hmk (allD_ok l hl) hr).2 h⟩
 have hC : truthC n E (turnG gs k) ms room z = truthC n E gs ms room z := by
  rw [truthC, truthC, if_pos hsc, if_pos hsc', if_pos hro, if_pos hro, truthI_some, truthI_some, Int.toNat_natCast, Int.toNat_natCast, hT]
 have hM : minutesC n E (turnG gs k) ms room = 0 ∧ minutesC n E gs ms room = 0 := by simp [minutesC, hsc, hsc', hro]
 refine ⟨hsc', ?_, hM, hC, fun h0 => ?_⟩
 ·rw [minutesL, minutesL, if_pos hM.1, if_pos hM.2, Int.toNat_natCast, Int.toNat_natCast, toldL, toldL, funext hT]
 ·have ht := truth_is (room := room) (z := z) hsc' hro
  rw [hC, Int.toNat_natCast, Int.toNat_natCast] at ht
  rcases ht with ⟨_, h1, h2⟩ | ⟨h1, _⟩
  ·have h3 := (win_so ⟨by omega, by omega⟩ hE.2 hG' (allD_ok _ h1) hr hmk).1 h2
   exact ⟨allD_ok _ h1, h3.1, by rw [Int.toNat_natCast, Int.toNat_natCast]; exact h3.2⟩
  ·rw [h1] at h0; cases h0
theorem marL_span (ls : List MarT) (s : SpaT) {k : Nat} (hk : k < ls.length) : setSeg (k * 7 + 4) (spaV s) (marL ls) = some (marL (ls.set k ⟨(ls.getD k zMar).f0, (ls.getD k zMar).f1, (ls.getD k zMar).f2, (ls.getD k zMar).f3, s, (ls.getD k zMar).f5⟩)) := by
 have h1 : (marL (ls.take k)).length = k * 7 := by rw [marL_len, List.length_take, Nat.min_eq_left (by omega)]
 generalize hm : ls.getD k zMar = m
 have h2 : marL (ls.set k ⟨m.f0, m.f1, m.f2, m.f3, s, m.f5⟩) = marL (ls.take k) ++ (marV ⟨m.f0, m.f1, m.f2, m.f3, s, m.f5⟩ ++ marL (ls.drop (k + 1))) := by
  rw [marL_split (ls.set k ⟨m.f0, m.f1, m.f2, m.f3, s, m.f5⟩) (k := k) (by simpa using hk)]
  congr 1
  ·rw [List.take_set_of_le (Nat.le_refl _)]
  ·congr 1
   ·rw [show (ls.set k ⟨m.f0, m.f1, m.f2, m.f3, s, m.f5⟩).getD k zMar = ⟨m.f0, m.f1, m.f2, m.f3, s, m.f5⟩ by simp [List.getD_eq_getElem?_getD, hk]]
   ·rw [List.drop_set_of_lt (by omega)]
 have h3 := setSeg_app (marL (ls.take k) ++ [.int .i64 m.f0, .int .u8 m.f1, .int .i64 m.f2, .int .i64 m.f3]) (spaV s) (spaV m.f4) (.int .i64 m.f5 :: marL (ls.drop (k + 1))) rfl
 rw [List.length_append, h1] at h3
 rw [h2, marL_split ls hk, hm]
 simpa [List.append_assoc, marV, spaV] using h3
theorem ad_m2 (dm k i : Nat) : ((⟨dm, 0, none⟩ : Addr).add ((k : Int).toNat * szN 7)).add i = ⟨dm, k * 7 + i, none⟩ := by
 rw [add_add, Addr.add_lit]
 congr 1
 rw [show szN 7 = 7 from rfl, Int.toNat_natCast]
 omega
theorem ad_m3 (dm k i j : Nat) : (((⟨dm, 0, none⟩ : Addr).add ((k : Int).toNat * szN 7)).add i).add j = ⟨dm, k * 7 + (i + j), none⟩ := by
 rw [add_add, ad_m2]
def laterL (n : Int) (ms : List MarT) (k : Nat) : List MarT := (ms.take k).map (laterM n) ++ ms.drop k
theorem laterL_len (n : Int) (ms : List MarT) {k : Nat} (hk : k ≤ ms.length) : (laterL n ms k).length = ms.length := by
 rw [laterL, List.length_append, List.length_map, List.length_take, List.length_drop]; omega
theorem laterL_get (n : Int) (ms : List MarT) {k : Nat} (hk : k < ms.length) : (laterL n ms k).getD k zMar = ms.getD k zMar := by
 have hl : ((ms.take k).map (laterM n)).length = k := by rw [List.length_map, List.length_take]; omega
 rw [laterL, List.getD_eq_getElem?_getD, List.getElem?_append_right (by omega), hl, Nat.sub_self, List.getElem?_drop, List.getD_eq_getElem?_getD, Nat.add_zero]
theorem laterL_succ (n : Int) (ms : List MarT) {k : Nat} (hk : k < ms.length) : laterL n ms (k + 1) = (laterL n ms k).set k (laterM n (ms.getD k zMar)) := by
 have hl : ((ms.take k).map (laterM n)).length = k := by rw [List.length_map, List.length_take]; omega
 rw [laterL, laterL, List.set_append_right _ _ (by omega), hl, Nat.sub_self, drop_at ms zMar k hk, take_get zMar hk, List.map_append]
 simp
theorem laterL_keep (n : Int) (ms : List MarT) {k : Nat} (hk : k < ms.length) (h : ¬ (ms.getD k zMar).f1 ≤ 3) : laterL n ms (k + 1) = laterL n ms k := by
 have hl : ((ms.take k).map (laterM n)).length = k := by rw [List.length_map, List.length_take]; omega
 rw [laterL, laterL, drop_at ms zMar k hk, take_get zMar hk, List.map_append, List.append_assoc]
 congr 1
 rw [List.map_cons, List.map_nil, laterM, if_neg h]
 rfl
theorem laterL_all (n : Int) (ms : List MarT) : laterL n ms ms.length = ms.map (laterM n) := by rw [laterL, List.take_length, List.drop_length, List.append_nil]
def offA (A : Option Addr) (i cap s : Nat) : Option Addr := if cap = i then A else A.map (·.add (i * s))
section
variable {P : Program} {ro : Option Nat} {n N : Nat} {ds : List Deferred} {w0 : World} {X : Nat → Prop} {Q : Exit → Act → World → Prop} {σ : Slots} {η : Hp} {ops rest : List Oper} {d : Option Tmp} {ty : TypeId} {pos : String} {aft : Array Edge} {g : Option (Nat × Bool)}
theorem xo_sliceLoG (T : Tys P) {t e : TypeId} {x lo : Operand} {A : Option Addr} {k0 m cap i : Nat} (hg : gS ops σ g = some true) (ht : look t T.el = some e) (hk : look e T.tk = some k0) (hx : ev σ x = some (.slice A m cap)) (hl : ev σ lo = some (.int .i64 (i : Int))) (hi : i ≤ m) (hN : dstOK N d = true)
  (h : XO P ro n N ds w0 X Q ops (putS d (.slice (offA A i cap (szN k0)) (m - i) (cap - i)) σ) η rest) : XO P ro n N ds w0 X Q ops σ η (⟨d, .slice t x (some lo) none none, ty, pos, aft, g⟩ :: rest) :=
 xo_val _ rfl hg hN (fun a w ha hw => by
  have h1 := T.hel _ (look_mem ht)
  simp only at h1
  have h2 := (T.htk _ (look_mem hk)).2 w
  have hel : P.elem t = e := by simp [Program.elem, h1]
  have hu : P.underlying t = some (.slice (P.elem t)) := by rw [hel]; exact h1
  have h3 := run_slice_l (P := P) w t A m cap hu .i64 (i : Int) (by omega) (by omega)
  rw [hel, h2] at h3
  simp only [execOp, Option.map_some, Option.map_none, ha.ev hx, ha.ev hl, Sem.run_bind, run_sliceAt_slice (P := P) w t _ _ _ _ hu, h3, Result.andThen_ok, sliced, offA, Int.toNat_natCast, szN]
  rfl) h
theorem xo_sliceHiG (T : Tys P) {t e : TypeId} {x hi_ : Operand} {A : Option Addr} {k0 m cap i : Nat} (hg : gS ops σ g = some true) (ht : look t T.el = some e) (hk : look e T.tk = some k0) (hx : ev σ x = some (.slice A m cap)) (hl : ev σ hi_ = some (.int .i64 (i : Int))) (hc : i ≤ cap) (hN : dstOK N d = true)
  (h : XO P ro n N ds w0 X Q ops (putS d (.slice A i cap) σ) η rest) : XO P ro n N ds w0 X Q ops σ η (⟨d, .slice t x none (some hi_) none, ty, pos, aft, g⟩ :: rest) :=
 xo_val _ rfl hg hN (fun a w ha hw => by
  have h1 := T.hel _ (look_mem ht)
  simp only at h1
  have h2 := (T.htk _ (look_mem hk)).2 w
  have hel : P.elem t = e := by simp [Program.elem, h1]
  have hu : P.underlying t = some (.slice (P.elem t)) := by rw [hel]; exact h1
  have h3 := run_slice_h (P := P) w t A m cap hu .i64 (i : Int) (by omega) (by omega)
  rw [hel, h2] at h3
  simp only [execOp, Option.map_some, Option.map_none, ha.ev hx, ha.ev hl, Sem.run_bind, run_sliceAt_slice (P := P) w t _ _ _ _ hu, h3, Result.andThen_ok, sliced, Int.toNat_natCast]
  by_cases q : cap = 0
  ·simp [q]
  ·cases A with
   | none => simp [q]
   | some p => simp [q, Addr.add_zero']) h
end
theorem gatL_drop (gs : List GatT) (k j : Nat) : (gatL (gs.drop k))[j]? = (gatL gs)[k * 4 + j]? := by
 by_cases hk : k ≤ gs.length
 ·have h2 : gatL gs = gatL (gs.take k) ++ gatL (gs.drop k) := by
   unfold gatL
   rw [← List.flatten_append, ← List.map_append, List.take_append_drop]
  have h1 : (gatL (gs.take k)).length = k * 4 := by rw [gatL_len, List.length_take, Nat.min_eq_left hk]
  rw [h2, List.getElem?_append_right (by omega), h1]
  congr 1
  omega
 ·rw [List.drop_eq_nil_of_le (by omega), List.getElem?_eq_none (by simp [gatL]), List.getElem?_eq_none (by rw [gatL_len]; omega)]
theorem gatL_take (gs : List GatT) {k j : Nat} {v : Value} (h : (gatL (gs.take k))[j]? = some v) : (gatL gs)[j]? = some v := by
 have h2 : gatL gs = gatL (gs.take k) ++ gatL (gs.drop k) := by
  unfold gatL
  rw [← List.flatten_append, ← List.map_append, List.take_append_drop]
 rw [h2, List.getElem?_append_left (List.getElem?_eq_some_iff.1 h).1]
 exact h
theorem gates_from {w : World} {A : Option Addr} {gs : List GatT} (hA : RowOf gatV 4 zGat w A gs) {k cap : Nat} (hk : k ≤ gs.length) (hc : gs.length ≤ cap) {p : Addr} (hp : offA A k cap (szN 4) = some p) {j : Nat} {u : Value} (hj : (gatL (gs.drop k))[j]? = some u) : w.cell? (p.add j) = some u := by
 have hlt := (List.getElem?_eq_some_iff.1 hj).1
 rw [gatL_len, List.length_drop] at hlt
 rw [offA, if_neg (by omega)] at hp
 obtain ⟨ad, rfl, rfl⟩ := Option.map_eq_some_iff.1 hp
 rw [gatL_drop] at hj
 rw [add_add]
 exact flat_row gatV 4 zGat (fun _ => rfl) rfl (by omega) hA rfl hj
theorem gatL_split (ls : List GatT) {k : Nat} (hk : k < ls.length) : gatL ls = gatL (ls.take k) ++ (gatV (ls.getD k zGat) ++ gatL (ls.drop (k + 1))) := by
 have h := drop_at ls zGat k hk
 have h2 : gatL ls = gatL (ls.take k) ++ gatL (ls.drop k) := by
  unfold gatL
  rw [← List.flatten_append, ← List.map_append, List.take_append_drop]
 rw [h2, h]
 rfl
theorem gatL_at (ls : List GatT) {k j : Nat} (hk : k < ls.length) (hj : j < 4) : (gatL ls)[k * 4 + j]? = (gatV (ls.getD k zGat))[j]? := by
 have h1 : (gatL (ls.take k)).length = k * 4 := by rw [gatL_len, List.length_take, Nat.min_eq_left (by omega)]
 rw [gatL_split ls hk, List.getElem?_append_right (by omega), h1, show k * 4 + j - k * 4 = j by omega, List.getElem?_append_left (by exact hj)]
theorem ad_g1 (dm k : Nat) (i : Nat) : ((⟨dm, 0, none⟩ : Addr).add ((k : Int).toNat * szN 4)).add i = ⟨dm, k * 4 + i, none⟩ := by
 rw [add_add, Addr.add_lit]
 congr 1
 rw [show szN 4 = 4 from rfl, Int.toNat_natCast]
 omega
def flipL (gs : List GatT) (k : Nat) : List GatT := (gs.take k).map flipG ++ gs.drop k
theorem flipL_len (gs : List GatT) {k : Nat} (hk : k ≤ gs.length) : (flipL gs k).length = gs.length := by
 rw [flipL, List.length_append, List.length_map, List.length_take, List.length_drop]; omega
theorem flipL_get (gs : List GatT) {k : Nat} (hk : k < gs.length) : (flipL gs k).getD k zGat = gs.getD k zGat := by
 have hl : ((gs.take k).map flipG).length = k := by rw [List.length_map, List.length_take]; omega
 rw [flipL, List.getD_eq_getElem?_getD, List.getElem?_append_right (by omega), hl, Nat.sub_self, List.getElem?_drop, List.getD_eq_getElem?_getD, Nat.add_zero]
theorem flipL_all (gs : List GatT) : flipL gs gs.length = gs.map flipG := by rw [flipL, List.take_length, List.drop_length, List.append_nil]
theorem flip_two (gs : List GatT) {k : Nat} (hk : k < gs.length) : ((gatL (flipL gs k)).set (k * 4 + 0) (.int .i64 (gs.getD k zGat).f1)).set (k * 4 + 1) (.int .i64 (gs.getD k zGat).f0) = gatL (flipL gs (k + 1)) := by
 have hl : ((gs.take k).map flipG).length = k := by rw [List.length_map, List.length_take]; omega
 have h1 : (gatL ((gs.take k).map flipG)).length = k * 4 := by rw [gatL_len, hl]
 have e1 : gatL (flipL gs k) = gatL ((gs.take k).map flipG) ++ (gatV (gs.getD k zGat) ++ gatL (gs.drop (k + 1))) := by
  rw [flipL, drop_at gs zGat k hk]
  unfold gatL
  rw [List.map_append, List.flatten_append]
  rfl
 have e2 : gatL (flipL gs (k + 1)) = gatL ((gs.take k).map flipG) ++ (gatV (flipG (gs.getD k zGat)) ++ gatL (gs.drop (k + 1))) := by
  rw [flipL, take_get zGat hk, List.map_append]
  unfold gatL
  simp [List.map_append, List.flatten_append]
 rw [e1, e2, List.set_append_right _ _ (by omega), List.set_append_right _ _ (by omega), h1]
 congr 1
 rw [show k * 4 + 0 - k * 4 = 0 by omega, show k * 4 + 1 - k * 4 = 1 by omega]
 rfl
end Go.Proofs.YtommeljlfkmpjaaGreatDoor
