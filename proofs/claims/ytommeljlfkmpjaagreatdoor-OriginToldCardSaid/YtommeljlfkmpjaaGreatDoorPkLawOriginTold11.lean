/- law09.comes: when fire comes into rooms. / law09, plain: what is told is true, and what is true is told. / law09.truth: a room, a minute and delays that are a truth. / law09.OriginTold: the walk. / The variable origin.nowhere, as the rows' condition lays it, and the door's own heap, which meets that condition. -/
import Derived.Test.YtommeljlfkmpjaaGreatDoorPkLawOriginTold10
import Derived.Test.YtommeljlfkmpjaaGreatDoorRows
import Derived.Test.YtommeljlfkmpjaaGreatDoorPkLawOriginTold4
import Derived.LaidLaws
import Derived.LaidHandle
import Derived.LaidMore
import Derived.ChangeVars
import Derived.ChangeShapes
namespace Go.Proofs.YtommeljlfkmpjaaGreatDoor
open Go.RowKit Go.Proofs.YtommeljlfkmpjaaGreatDoorW.PrintWords
set_option linter.unusedVariables false
set_option linter.unusedSimpArgs false
section
variable {P : Program} {ro : Option Nat} {n N : Nat} {ds : List Deferred} {w0 : World} {X : Nat → Prop} {Q : Exit → Act → World → Prop} {σ : Slots} {η : Hp}
theorem xc_meetQ {γ : Type} {x : Code} (C : γ → Prop) (S : γ → Slots) (H : γ → Hp) (h1 : XC P ro n N ds w0 X (Exit.then (fun a w => ∃ g, C g ∧ SOK N ds (S g) a ∧ WOK w0 X (H g) w) Q) σ η x)
  (h2 : ∀ g, C g → XQ N ds w0 X Q .normal (S g) (H g)) : XC P ro n N ds w0 X Q σ η x := fun a w ha hw => wpIn_mono (h1 a w ha hw) (by
 intro e a' w' hq
 cases e with
 | normal => obtain ⟨g, hg, h3, h4⟩ := hq; exact h2 g hg a' w' h3 h4
 | exit id => exact hq
 | goto l => exact hq
 | ret => exact hq
 | panic c => exact hq
 | outgrown => exact hq)
end
def InC (d : Nat → Int) : Prop := ∀ v, 0 ≤ d v ∧ d v ≤ 1073741824
theorem InC.come {d : Nat → Int} (h : InC d) {e : Edge3} (he : 0 ≤ e.2.2) (hne : e.1 ≠ e.2.1) : InC (comeS d e) := fun v => by
 have h1 := h e.1
 have h2 := h e.2.1
 have h3 := h v
 rw [comeS_eq d hne]
 unfold sideB
 repeat' split
 all_goals omega
theorem InC.start {room : Nat} {minute : Int} (hm : 0 ≤ minute ∧ minute ≤ 600) : InC (shiftF minute (startB 1000000 room)) := fun v => by
 unfold shiftF startB
 (repeat' split) <;> omega
theorem updT_set {b : Nat} {cs cs' : List Value} {t : TypeId} {φ : HP} {e : Nat × Bool × HP} {r : Hp} (h : cs = cs') : Upd b (cel cs t) (e :: (b, true, φ) :: r) (e :: (b, true, cel cs' t) :: r) := h ▸ Upd.tail Upd.head
theorem rowN_zero (n : Nat) : List.replicate n (Value.int .i64 0) = rowD n fun v => if v < 0 then 1073741824 else 0 := by
 apply List.ext_getElem
 ·simp [rowD]
 ·intro i h1 h2
  simp [rowD]
set_option maxHeartbeats 40000000 in
theorem comes_calls (n : Nat) (E : Int) (A B Dl : Option Addr) (c m c2 cd : Nat) (gs : List GatT) (l : List Int) (room : Nat) (minute : Int) (w : World) (hn : 1 ≤ n ∧ n ≤ 6) (hG : GatesR n gs) (hl : okD gs l) (hA : RowOf gatV 4 zGat w A gs) (hD : IntsAt w Dl l) (hr : room < n) (hm : 0 ≤ minute ∧ minute ≤ 600) :
  Calls Tryz.prog 28 #[.agg (scnV n A gs.length c E B m c2).toArray, .int .i64 (room : Int), .int .i64 minute, .slice Dl l.length cd] w fun e w' => ∃ b, e = .returned (.slice (some ⟨b, 0, none⟩) n n) ∧ WOK w XNone [(b, true, cel (rowD n (comesF (edgesL gs l) (shiftF minute (startB 1000000 room)) n)) 3)] w' := by
 have hll := okD_len hl
 have hg6 := hG.len
 refine x_calls (X := XNone) Tryz.func28 rfl rfl rfl ?_
 with_reducible ((repeat refine xc_seq ?_); refine xcR ?_)
 refine xo_box rfl rfl rfl rfl (fun b4 => ?_)
 refine xo_asg rfl rfl rfl ?_
 with_reducible (refine xo_nil ?_; (repeat first | refine xqT ?_ | refine xqB ?_ | refine xqS ?_); (repeat refine xc_seq ?_); refine xcR ?_)
 refine xo_fa T_ rfl rfl rfl rfl rfl ?_
 refine xo_load0 T_ rfl rfl rfl (by repeat first | exact mH | apply mT | apply mA) rfl rfl ?_
 refine xo_mks TR_ (m := n) rfl rfl rfl rfl rfl rfl (by omega) (by omega) rfl (fun b9 => ?_)
 refine xo_asg rfl rfl rfl ?_
 with_reducible (refine xo_nil ?_; (repeat first | refine xqT ?_ | refine xqB ?_ | refine xqS ?_); (repeat refine xc_seq ?_); refine xcR ?_)
 refine xo_mv rfl rfl rfl ?_
 refine xo_len T_ rfl rfl rfl rfl ?_
 refine xo_mv rfl rfl rfl ?_
 with_reducible (refine xo_nil ?_; (repeat first | refine xqT ?_ | refine xqB ?_ | refine xqS ?_))
 rw [rowN_zero]
 with_reducible ((repeat refine xc_seq ?_); refine xc_block ?_)
 ·refine xc_loop (γ := Nat) (fun k => k ≤ n) (fun k => [(1, .int .i64 (room : Int)), (2, .int .i64 minute), (3, .slice Dl l.length cd), (4, .pointer (some ⟨b4, 0, none⟩)), (9, .slice (some ⟨b9, 0, none⟩) n n), (17, .int .i64 (n : Int)), (18, .int .i64 (k : Int))])
   (fun k => [(b9, true, cel (rowD n fun v => if v < k then 1073741824 else 0) 3), (b4, true, cel (scnV n A gs.length c E B m c2) 25)]) (fun k => n - k) 0 (Nat.zero_le _) ⟨rfl, rfl, rfl, rfl, rfl, rfl, rfl, trivial⟩ (List.Sublist.refl _) ?_
  intro k hk
  with_reducible ((repeat refine xc_seq ?_); refine xcR ?_)
  refine xo_lss rfl rfl rfl rfl ?_
  with_reducible (refine xo_nil ?_; (repeat first | refine xqT ?_ | refine xqB ?_ | refine xqS ?_); (repeat refine xc_seq ?_))
  refine xc_cond rfl (fun h => ?_) (fun h => ?_)
  ·have hlt : k < n := by have := of_decide_eq_true h; omega
   with_reducible (refine xc_skip ?_; (repeat first | refine xqT ?_ | refine xqB ?_ | refine xqS ?_); (repeat refine xc_seq ?_); refine xc_block ?_; (repeat refine xc_seq ?_); refine xcR ?_)
   refine xo_mv rfl rfl rfl ?_
   refine xo_asg rfl rfl rfl ?_
   with_reducible (refine xo_nil ?_; (repeat first | refine xqT ?_ | refine xqB ?_ | refine xqS ?_); (repeat refine xc_seq ?_); refine xcR ?_)
   refine xo_mv rfl rfl rfl ?_
   refine xo_mv rfl rfl rfl ?_
   refine xo_ia T_ rfl rfl rfl rfl rfl ⟨by omega, by omega⟩ rfl ?_
   refine xo_storeI T_ (o := 0) (k := (k : Int).toNat * szN 0) (η' := [(b9, true, cel (rowD n fun v => if v < k + 1 then 1073741824 else 0) 3), (b4, true, cel (scnV n A gs.length c E B m c2) 25)]) rfl rfl rfl rfl (List.Mem.head _) rfl rfl (by rw [rowD_len, show szN 0 = 1 from rfl, Int.toNat_natCast]; omega) (upd_set (by rw [rowD_set]; exact rowD_congr fun v hv => by split <;> (try split) <;> (try split) <;> omega)) rfl ?_
   with_reducible (refine xo_nil ?_; (repeat first | refine xqT ?_ | refine xqB ?_ | refine xqS ?_); (repeat refine xc_seq ?_); refine xcR ?_)
   refine xo_add rfl rfl rfl (by omega) rfl ?_
   refine xo_mv rfl rfl rfl ?_
   with_reducible (refine xo_nil ?_; (repeat first | refine xqT ?_ | refine xqB ?_ | refine xqS ?_))
   exact xq_again _ _ _ _ _ (k + 1) (by omega) (by omega) ⟨rfl, rfl, rfl, rfl, rfl, rfl, rfl, trivial⟩ (List.Sublist.refl _)
  ·have hge : k = n := by have := of_decide_eq_false h; omega
   subst hge
   with_reducible (refine xc_exit ?_; (repeat (first | refine xq_blockX ?_ | refine xq_thenE ?_ | refine xq_blockE rfl ?_ | refine xq_scopeE ?_)); (repeat first | refine xqT ?_ | refine xqB ?_ | refine xqS ?_); (repeat refine xc_seq ?_); refine xcR ?_)
   refine xo_mv rfl rfl rfl ?_
   refine xo_mv rfl rfl rfl ?_
   refine xo_mv rfl rfl rfl ?_
   refine xo_ia T_ rfl rfl rfl rfl rfl ⟨by omega, by omega⟩ rfl ?_
   refine xo_storeI T_ (o := 0) (k := (room : Int).toNat * szN 0) (η' := [(b9, true, cel (rowD k (shiftF minute (startB 1000000 room))) 3), (b4, true, cel (scnV k A gs.length c E B m c2) 25)]) rfl rfl rfl rfl (List.Mem.head _) rfl rfl (by rw [rowD_len, show szN 0 = 1 from rfl, Int.toNat_natCast]; omega) (upd_set (by rw [rowD_set]; exact rowD_congr fun v hv => by unfold shiftF startB; by_cases q : v = room <;> simp [q, hv])) rfl ?_
   with_reducible (refine xo_nil ?_; (repeat first | refine xqT ?_ | refine xqB ?_ | refine xqS ?_); (repeat refine xc_seq ?_); refine xcR ?_)
   refine xo_fa T_ rfl rfl rfl rfl rfl ?_
   refine xo_load0 T_ rfl rfl rfl (by repeat first | exact mH | apply mT | apply mA) rfl rfl ?_
   refine xo_mv rfl rfl rfl ?_
   with_reducible (refine xo_nil ?_; (repeat first | refine xqT ?_ | refine xqB ?_ | refine xqS ?_); (repeat refine xc_seq ?_); refine xc_block ?_)
   ·refine xc_loop (γ := Nat) (fun q => q ≤ k ∧ InC (comesF (edgesL gs l) (shiftF minute (startB 1000000 room)) q)) (fun q => [(3, .slice Dl l.length cd), (4, .pointer (some ⟨b4, 0, none⟩)), (9, .slice (some ⟨b9, 0, none⟩) k k), (30, .int .i64 (k : Int)), (31, .int .i64 (q : Int))])
     (fun q => [(b9, true, cel (rowD k (comesF (edgesL gs l) (shiftF minute (startB 1000000 room)) q)) 3), (b4, true, cel (scnV k A gs.length c E B m c2) 25)]) (fun q => k - q) 0 ⟨Nat.zero_le _, InC.start hm⟩ ⟨rfl, rfl, rfl, rfl, rfl, trivial⟩ (List.Sublist.refl _) ?_
    rintro q ⟨hq, hdq⟩
    with_reducible ((repeat refine xc_seq ?_); refine xcR ?_)
    refine xo_lss rfl rfl rfl rfl ?_
    with_reducible (refine xo_nil ?_; (repeat first | refine xqT ?_ | refine xqB ?_ | refine xqS ?_); (repeat refine xc_seq ?_))
    refine xc_cond rfl (fun h => ?_) (fun h => ?_)
    ·have hlt : q < k := by have := of_decide_eq_true h; omega
     have hnext : comesF (edgesL gs l) (shiftF minute (startB 1000000 room)) (q + 1) = (edgesL gs l).foldl comeS (comesF (edgesL gs l) (shiftF minute (startB 1000000 room)) q) := rfl
     generalize comesF (edgesL gs l) (shiftF minute (startB 1000000 room)) q = d0 at hnext hdq
     with_reducible (refine xc_skip ?_; (repeat first | refine xqT ?_ | refine xqB ?_ | refine xqS ?_); (repeat refine xc_seq ?_); refine xc_block ?_; (repeat refine xc_seq ?_); refine xcR ?_)
     refine xo_fa T_ rfl rfl rfl rfl rfl ?_
     refine xo_load0 T_ rfl rfl rfl (by repeat first | exact mH | apply mT | apply mA) rfl rfl ?_
     refine xo_len T_ rfl rfl rfl rfl ?_
     refine xo_mv rfl rfl rfl ?_
     with_reducible (refine xo_nil ?_; (repeat first | refine xqT ?_ | refine xqB ?_ | refine xqS ?_); (repeat refine xc_seq ?_); refine xc_block ?_)
     ·refine xc_loop (γ := Nat) (fun i => i ≤ gs.length ∧ InC (((edgesL gs l).take i).foldl comeS d0)) (fun i => [(3, .slice Dl l.length cd), (4, .pointer (some ⟨b4, 0, none⟩)), (9, .slice (some ⟨b9, 0, none⟩) k k), (30, .int .i64 (k : Int)), (31, .int .i64 (q : Int)), (34, .slice A gs.length c), (35, .int .i64 (gs.length : Int)), (36, .int .i64 (i : Int))])
       (fun i => [(b9, true, cel (rowD k (((edgesL gs l).take i).foldl comeS d0)) 3), (b4, true, cel (scnV k A gs.length c E B m c2) 25)]) (fun i => gs.length - i) 0 ⟨Nat.zero_le _, hdq⟩ ⟨rfl, rfl, rfl, rfl, rfl, rfl, rfl, rfl, trivial⟩ (List.Sublist.refl _) ?_
      rintro i ⟨hi, hdi⟩
      with_reducible ((repeat refine xc_seq ?_); refine xcR ?_)
      refine xo_lss rfl rfl rfl rfl ?_
      with_reducible (refine xo_nil ?_; (repeat first | refine xqT ?_ | refine xqB ?_ | refine xqS ?_); (repeat refine xc_seq ?_))
      refine xc_cond rfl (fun h => ?_) (fun h => ?_)
      ·have hlti : i < gs.length := by have := of_decide_eq_true h; omega
       obtain ⟨ad, rfl, q1⟩ := hA i hlti
       obtain ⟨adl, rfl, q2⟩ := hD i (by omega)
       have hgo := hG.ok _ (getD_mem gs zGat i hlti)
       have hli := okD_at hl i hlti
       have hst : ((edgesL gs l).take (i + 1)).foldl comeS d0 = comeS (((edgesL gs l).take i).foldl comeS d0) (edgeL (gs.getD i zGat) (l.getD i 0)) := by
        rw [List.take_add_one, edges_at hll i hlti, List.foldl_append]
        rfl
       generalize ((edgesL gs l).take i).foldl comeS d0 = d at hst hdi
       generalize gs.getD i zGat = g at q1 hgo hst hli
       generalize l.getD i 0 = x at q2 hli hst
       obtain ⟨g0, g1, g2⟩ := g
       simp only at hgo
       obtain ⟨a, rfl⟩ : ∃ a : Nat, g0 = a := ⟨g0.toNat, by omega⟩
       obtain ⟨b, rfl⟩ : ∃ b : Nat, g1 = b := ⟨g1.toNat, by omega⟩
       have ha : a < k := by omega
       have hb : b < k := by omega
       have hne : a ≠ b := by omega
       have hli : g2.f0 ≤ x ∧ x ≤ g2.f1 := hli
       have hda0 := hdi a
       have hdb0 := hdi b
       with_reducible (refine xc_skip ?_; (repeat first | refine xqT ?_ | refine xqB ?_ | refine xqS ?_); (repeat refine xc_seq ?_); refine xc_block ?_; (repeat refine xc_seq ?_); refine xcR ?_)
       refine xo_mv rfl rfl rfl ?_
       refine xo_ia T_ rfl rfl rfl rfl rfl ⟨by omega, by omega⟩ rfl ?_
       refine xo_loadRN T_ rfl rfl rfl q1 rfl rfl ?_
       refine xo_alloc T_ rfl rfl rfl rfl (fun b12 => ?_)
       refine xo_asg rfl rfl rfl ?_
       refine xo_store T_ rfl rfl rfl rfl (by repeat first | exact mH | apply mT | apply mA) rfl rfl rfl rfl (by repeat first | exact Upd.head | apply Upd.tail | apply Upd.app) rfl ?_
       with_reducible (refine xo_nil ?_; (repeat first | refine xqT ?_ | refine xqB ?_ | refine xqS ?_); (repeat refine xc_seq ?_); refine xcR ?_)
       refine xo_mv rfl rfl rfl ?_
       refine xo_fa T_ rfl rfl rfl rfl rfl ?_
       refine xo_load0 T_ rfl rfl rfl (by repeat first | exact mH | apply mT | apply mA) rfl rfl ?_
       refine xo_ia T_ (i := (a : Int)) rfl rfl rfl rfl rfl ⟨by omega, by omega⟩ rfl ?_
       refine xo_loadI T_ (o := 0) (k := (a : Int).toNat * szN 0) (v := .int .i64 (d a)) rfl rfl rfl (by repeat first | exact mH | apply mT | apply mA) (rowD_at d ha) rfl ?_
       refine xo_neq rfl rfl rfl rfl ?_
       with_reducible (refine xo_nil ?_; (repeat first | refine xqT ?_ | refine xqB ?_ | refine xqS ?_); (repeat refine xc_seq ?_))
       refine xc_meet2 (γ := Unit) (fun _ => True) (fun _ => [(3, .slice (some adl) l.length cd), (4, .pointer (some ⟨b4, 0, none⟩)), (9, .slice (some ⟨b9, 0, none⟩) k k), (11, .int .i64 (i : Int)), (12, .pointer (some ⟨b12, 0, none⟩)), (30, .int .i64 (k : Int)), (31, .int .i64 (q : Int)), (34, .slice (some ad) gs.length c), (35, .int .i64 (gs.length : Int)), (36, .int .i64 (i : Int))]) (fun _ => [(b12, true, cel (gatV (⟨(a : Int), (b : Int), g2⟩ : GatT)) 52), (b9, true, cel (rowD k (fun v => if v = b then sideB (d a) (d b) x else d v)) 3), (b4, true, cel (scnV k (some ad) gs.length c E B m c2) 25)]) ?_ (fun _ _ => ?_)
       ·with_reducible repeat refine xc_seq ?_
        refine xc_cond rfl (fun h => ?_) (fun h => ?_)
        ·have hna : d a ≠ 1073741824 := by simpa using h
         refine xc_slots [(3, .slice (some adl) l.length cd), (4, .pointer (some ⟨b4, 0, none⟩)), (9, .slice (some ⟨b9, 0, none⟩) k k), (11, .int .i64 (i : Int)), (12, .pointer (some ⟨b12, 0, none⟩)), (30, .int .i64 (k : Int)), (31, .int .i64 (q : Int)), (34, .slice (some ad) gs.length c), (35, .int .i64 (gs.length : Int)), (36, .int .i64 (i : Int))] ⟨rfl, rfl, rfl, rfl, rfl, rfl, rfl, rfl, rfl, rfl, trivial⟩ ?_
         with_reducible (repeat refine xc_seq ?_)
         apply xc_drawE (fun g => []) (fun (η0 : Hp) g => match g with | [] => (η0) | a0 :: _ => ([(b12, true, cel (gatV (⟨(a : Int), (b : Int), g2⟩ : GatT)) 52), (b9, true, cel (rowD k (fun v => if v = b then sideB (d a) (d b) x else d v)) 3), (b4, true, cel (scnV k (some ad) gs.length c E B m c2) 25)])) (fun _ => True) [0, 0, 0, 0, 0, 0, 0, 0, 0, 0, 0, 0, 0, 0, 0, 0, 0, 0, 0, 0, 1] [20] [[19, 18, 0, 1, 2, 3, 4, 5, 6, 7, 8, 9, 10, 11, 12, 13, 14, 15, 16, 17, 18]] (by trivial)
         apply SameLen.cons
         apply SameLen.cons
         apply SameLen.cons
         apply SameLen.cons
         apply SameLen.cons
         apply SameLen.cons
         apply SameLen.cons
         apply SameLen.cons
         apply SameLen.cons
         apply SameLen.cons
         apply SameLen.cons
         apply SameLen.cons
         apply SameLen.cons
         apply SameLen.cons
         apply SameLen.cons
         apply SameLen.cons
         apply SameLen.cons
         apply SameLen.cons
         apply SameLen.cons
         apply SameLen.cons
         apply SameLen.cons
         exact SameLen.nil
         rotate_left 21
         case hH0 => rfl
         case hmix => exact T_.mixed
         case hbind => rfl
         case hdeps => rfl
         case hdist => rfl
         case hfresh => rfl
         case hE => rfl
         case hEn => decide
         ·refine DrawE.pure 0 0 rfl (.inr (by decide)) (fun L g hg hd => Nat.zero_le _) (fun g hlo hhi hF τ => ?_) ?_
          ·rcases g with _ | ⟨a0, _ | ⟨a1, g⟩⟩ <;> first | (simp only [lenC, lenN] at hlo hhi; omega) | (refine ⟨_, rfl, ?_⟩; refine xo_mv rfl rfl rfl ?_; exact xo_fin rfl)
          refine DrawE.pure 0 0 rfl (.inr (by decide)) (fun L g hg hd => Nat.zero_le _) (fun g hlo hhi hF τ => ?_) ?_
          ·rcases g with _ | ⟨a0, _ | ⟨a1, g⟩⟩ <;> first | (simp only [lenC, lenN] at hlo hhi; omega) | (refine ⟨_, rfl, ?_⟩; refine xo_fa T_ rfl rfl rfl rfl rfl ?_; exact xo_fin rfl)
          refine DrawE.pure 0 0 rfl (.inr (by decide)) (fun L g hg hd => Nat.zero_le _) (fun g hlo hhi hF τ => ?_) ?_
          ·rcases g with _ | ⟨a0, _ | ⟨a1, g⟩⟩ <;> first | (simp only [lenC, lenN] at hlo hhi; omega) | (refine ⟨_, rfl, ?_⟩; refine xo_load0 T_ rfl rfl rfl (by repeat first | exact mH | apply mT | apply mA) rfl rfl ?_; exact xo_fin rfl)
          refine DrawE.pure 0 0 rfl (.inr (by decide)) (fun L g hg hd => Nat.zero_le _) (fun g hlo hhi hF τ => ?_) ?_
          ·rcases g with _ | ⟨a0, _ | ⟨a1, g⟩⟩ <;> first | (simp only [lenC, lenN] at hlo hhi; omega) | (refine ⟨_, rfl, ?_⟩; refine xo_mv rfl rfl rfl ?_; exact xo_fin rfl)
          refine DrawE.pure 0 0 rfl (.inr (by decide)) (fun L g hg hd => Nat.zero_le _) (fun g hlo hhi hF τ => ?_) ?_
          ·rcases g with _ | ⟨a0, _ | ⟨a1, g⟩⟩ <;> first | (simp only [lenC, lenN] at hlo hhi; omega) | (refine ⟨_, rfl, ?_⟩; refine xo_fa T_ rfl rfl rfl rfl rfl ?_; exact xo_fin rfl)
          refine DrawE.pure 0 0 rfl (.inr (by decide)) (fun L g hg hd => Nat.zero_le _) (fun g hlo hhi hF τ => ?_) ?_
          ·rcases g with _ | ⟨a0, _ | ⟨a1, g⟩⟩ <;> first | (simp only [lenC, lenN] at hlo hhi; omega) | (refine ⟨_, rfl, ?_⟩; refine xo_load0 T_ rfl rfl rfl (by repeat first | exact mH | apply mT | apply mA) rfl rfl ?_; exact xo_fin rfl)
          refine DrawE.pure 0 0 rfl (.inr (by decide)) (fun L g hg hd => Nat.zero_le _) (fun g hlo hhi hF τ => ?_) ?_
          ·rcases g with _ | ⟨a0, _ | ⟨a1, g⟩⟩ <;> first | (simp only [lenC, lenN] at hlo hhi; omega) | (refine ⟨_, rfl, ?_⟩; refine xo_ia T_ (i := (b : Int)) rfl rfl rfl rfl rfl ⟨by omega, by omega⟩ rfl ?_; exact xo_fin rfl)
          refine DrawE.pure 0 0 rfl (.inr (by decide)) (fun L g hg hd => Nat.zero_le _) (fun g hlo hhi hF τ => ?_) ?_
          ·rcases g with _ | ⟨a0, _ | ⟨a1, g⟩⟩ <;> first | (simp only [lenC, lenN] at hlo hhi; omega) | (refine ⟨_, rfl, ?_⟩; refine xo_loadI T_ (o := 0) (k := (b : Int).toNat * szN 0) (v := .int .i64 (d b)) rfl rfl rfl (by repeat first | exact mH | apply mT | apply mA) (rowD_at d hb) rfl ?_; exact xo_fin rfl)
          refine DrawE.pure 0 0 rfl (.inr (by decide)) (fun L g hg hd => Nat.zero_le _) (fun g hlo hhi hF τ => ?_) ?_
          ·rcases g with _ | ⟨a0, _ | ⟨a1, g⟩⟩ <;> first | (simp only [lenC, lenN] at hlo hhi; omega) | (refine ⟨_, rfl, ?_⟩; refine xo_mv rfl rfl rfl ?_; exact xo_fin rfl)
          refine DrawE.pure 0 0 rfl (.inr (by decide)) (fun L g hg hd => Nat.zero_le _) (fun g hlo hhi hF τ => ?_) ?_
          ·rcases g with _ | ⟨a0, _ | ⟨a1, g⟩⟩ <;> first | (simp only [lenC, lenN] at hlo hhi; omega) | (refine ⟨_, rfl, ?_⟩; refine xo_fa T_ rfl rfl rfl rfl rfl ?_; exact xo_fin rfl)
          refine DrawE.pure 0 0 rfl (.inr (by decide)) (fun L g hg hd => Nat.zero_le _) (fun g hlo hhi hF τ => ?_) ?_
          ·rcases g with _ | ⟨a0, _ | ⟨a1, g⟩⟩ <;> first | (simp only [lenC, lenN] at hlo hhi; omega) | (refine ⟨_, rfl, ?_⟩; refine xo_load0 T_ rfl rfl rfl (by repeat first | exact mH | apply mT | apply mA) rfl rfl ?_; exact xo_fin rfl)
          refine DrawE.pure 0 0 rfl (.inr (by decide)) (fun L g hg hd => Nat.zero_le _) (fun g hlo hhi hF τ => ?_) ?_
          ·rcases g with _ | ⟨a0, _ | ⟨a1, g⟩⟩ <;> first | (simp only [lenC, lenN] at hlo hhi; omega) | (refine ⟨_, rfl, ?_⟩; refine xo_ia T_ (i := (a : Int)) rfl rfl rfl rfl rfl ⟨by omega, by omega⟩ rfl ?_; exact xo_fin rfl)
          refine DrawE.pure 0 0 rfl (.inr (by decide)) (fun L g hg hd => Nat.zero_le _) (fun g hlo hhi hF τ => ?_) ?_
          ·rcases g with _ | ⟨a0, _ | ⟨a1, g⟩⟩ <;> first | (simp only [lenC, lenN] at hlo hhi; omega) | (refine ⟨_, rfl, ?_⟩; refine xo_loadI T_ (o := 0) (k := (a : Int).toNat * szN 0) (v := .int .i64 (d a)) rfl rfl rfl (by repeat first | exact mH | apply mT | apply mA) (rowD_at d ha) rfl ?_; exact xo_fin rfl)
          refine DrawE.pure 0 0 rfl (.inr (by decide)) (fun L g hg hd => Nat.zero_le _) (fun g hlo hhi hF τ => ?_) ?_
          ·rcases g with _ | ⟨a0, _ | ⟨a1, g⟩⟩ <;> first | (simp only [lenC, lenN] at hlo hhi; omega) | (refine ⟨_, rfl, ?_⟩; refine xo_mv rfl rfl rfl ?_; exact xo_fin rfl)
          refine DrawE.pure 0 0 rfl (.inr (by decide)) (fun L g hg hd => Nat.zero_le _) (fun g hlo hhi hF τ => ?_) ?_
          ·rcases g with _ | ⟨a0, _ | ⟨a1, g⟩⟩ <;> first | (simp only [lenC, lenN] at hlo hhi; omega) | (refine ⟨_, rfl, ?_⟩; refine xo_mv rfl rfl rfl ?_; exact xo_fin rfl)
          refine DrawE.pure 0 0 rfl (.inr (by decide)) (fun L g hg hd => Nat.zero_le _) (fun g hlo hhi hF τ => ?_) ?_
          ·rcases g with _ | ⟨a0, _ | ⟨a1, g⟩⟩ <;> first | (simp only [lenC, lenN] at hlo hhi; omega) | (refine ⟨_, rfl, ?_⟩; refine xo_ia T_ rfl rfl rfl rfl rfl ⟨by omega, by omega⟩ rfl ?_; exact xo_fin rfl)
          refine DrawE.pure 0 0 rfl (.inr (by decide)) (fun L g hg hd => Nat.zero_le _) (fun g hlo hhi hF τ => ?_) ?_
          ·rcases g with _ | ⟨a0, _ | ⟨a1, g⟩⟩ <;> first | (simp only [lenC, lenN] at hlo hhi; omega) | (refine ⟨_, rfl, ?_⟩; refine xo_loadR0 T_ rfl rfl rfl q2 rfl ?_; exact xo_fin rfl)
          refine DrawE.pure 0 0 rfl (.inr (by decide)) (fun L g hg hd => Nat.zero_le _) (fun g hlo hhi hF τ => ?_) ?_
          ·rcases g with _ | ⟨a0, _ | ⟨a1, g⟩⟩ <;> first | (simp only [lenC, lenN] at hlo hhi; omega) | (refine ⟨_, rfl, ?_⟩; refine xo_add rfl rfl rfl (by omega) rfl ?_; exact xo_fin rfl)
          refine DrawE.pure 0 0 rfl (.inr (by decide)) (fun L g hg hd => Nat.zero_le _) (fun g hlo hhi hF τ => ?_) ?_
          ·rcases g with _ | ⟨a0, _ | ⟨a1, g⟩⟩ <;> first | (simp only [lenC, lenN] at hlo hhi; omega) | (refine ⟨_, rfl, ?_⟩; refine xo_min rfl rfl rfl rfl ?_; exact xo_fin rfl)
          refine DrawE.pure 0 0 rfl (.inr (by decide)) (fun L g hg hd => Nat.zero_le _) (fun g hlo hhi hF τ => ?_) ?_
          ·rcases g with _ | ⟨a0, _ | ⟨a1, g⟩⟩ <;> first | (simp only [lenC, lenN] at hlo hhi; omega) | (refine ⟨_, rfl, ?_⟩; refine xo_ia T_ (i := (b : Int)) rfl rfl rfl rfl rfl ⟨by omega, by omega⟩ rfl ?_; exact xo_fin rfl)
          refine DrawE.eff 0 rfl (by decide) rfl (fun j hj => hj) (fun j g a hj => ?_) (fun L g hg hd => Nat.zero_le _) (fun g hgl hF τ => ?_) ?_
          ·rcases j with _ | _ | _ | _ | _ | _ | _ | _ | _ | _ | _ | _ | _ | _ | _ | _ | _ | _ | _ | _ | _ | j
           all_goals first | rfl | (rcases g with _ | ⟨a0, _ | ⟨a1, g⟩⟩ <;> first | rfl | exact absurd hj (by decide) | exact absurd hj (by simp [List.getD]))
          ·obtain rfl : g = [] := by
            rcases g with _ | ⟨a0, g⟩ <;> first | rfl | (exfalso; simp only [List.length_cons, List.length_nil] at hgl; omega)
           refine xo_storeI T_ (o := 0) (k := (b : Int).toNat * szN 0) (η' := [(b12, true, cel (gatV (⟨(a : Int), (b : Int), g2⟩ : GatT)) 52), (b9, true, cel (rowD k (fun v => if v = b then sideB (d a) (d b) x else d v)) 3), (b4, true, cel (scnV k (some ad) gs.length c E B m c2) 25)]) rfl rfl rfl rfl (by repeat first | exact mH | apply mT | apply mA) rfl rfl (by rw [rowD_len, show szN 0 = 1 from rfl, Int.toNat_natCast]; omega) (updT_set ((rowD_set d b (if d a + x < d b then d a + x else d b)).trans (rowD_congr fun v hv => by unfold sideB; rw [if_neg hna]))) rfl ?_
           exact xo_finE ⟨0, 0, none⟩ rfl trivial
          exact DrawE.nil
         intro g hgl hF
         obtain ⟨a0, rfl⟩ : ∃ a0, g = [a0] := by
          rcases g with _ | ⟨a0, _ | ⟨a1, g⟩⟩ <;> first | exact ⟨_, rfl⟩ | (exfalso; simp only [List.length_cons, List.length_nil] at hgl; omega)
         with_reducible (repeat first | refine xqT ?_ | refine xqB ?_ | refine xqS ?_)
         exact xq_meet _ _ _ () trivial ⟨rfl, rfl, rfl, rfl, rfl, rfl, rfl, rfl, rfl, rfl, trivial⟩ (List.Sublist.refl _)
        ·have hna : d a = 1073741824 := by simpa using h
         with_reducible (refine xc_skip ?_; (repeat first | refine xqT ?_ | refine xqB ?_ | refine xqS ?_))
         have hrow : rowD k d = rowD k (fun v => if v = b then sideB (d a) (d b) x else d v) := rowD_congr fun v hv => by unfold sideB; rw [if_pos hna]; split <;> simp_all
         rw [hrow]
         exact xq_meet _ _ _ () trivial ⟨rfl, rfl, rfl, rfl, rfl, rfl, rfl, rfl, rfl, rfl, trivial⟩ (List.Sublist.refl _)
       have hd1 : InC (fun v => if v = b then sideB (d a) (d b) x else d v) := fun v => by
        have h1 := hdi a
        have h2 := hdi b
        have h3 := hdi v
        by_cases hvb : v = b
        ·simp only [hvb, if_true]
         unfold sideB
         (repeat' split) <;> omega
        ·simp only [hvb, if_false]
         exact h3
       have hst2 : comeS d (edgeL (⟨(a : Int), (b : Int), g2⟩ : GatT) x) = fun v => if v = a then sideB ((fun v => if v = b then sideB (d a) (d b) x else d v) b) ((fun v => if v = b then sideB (d a) (d b) x else d v) a) x else (fun v => if v = b then sideB (d a) (d b) x else d v) v := by
        funext v
        rw [comeS_eq d (e := edgeL (⟨(a : Int), (b : Int), g2⟩ : GatT) x) (by simpa [edgeL] using hne)]
        simp only [edgeL, Int.toNat_natCast]
        simp only [if_true, if_neg hne]
        rfl
       have hd2 := hdi.come (e := edgeL (⟨(a : Int), (b : Int), g2⟩ : GatT) x) (by simp only [edgeL]; omega) (by simpa [edgeL] using hne)
       rw [← hst] at hd2
       rw [hst2] at hst
       generalize (fun v => if v = b then sideB (d a) (d b) x else d v) = d1 at hst hd1 ⊢
       have hdb := hd1 b
       have hda := hd1 a
       with_reducible ((repeat refine xc_seq ?_); refine xcR ?_)
       refine xo_mv rfl rfl rfl ?_
       refine xo_fa T_ rfl rfl rfl rfl rfl ?_
       refine xo_load0 T_ rfl rfl rfl (by repeat first | exact mH | apply mT | apply mA) rfl rfl ?_
       refine xo_ia T_ (i := (b : Int)) rfl rfl rfl rfl rfl ⟨by omega, by omega⟩ rfl ?_
       refine xo_loadI T_ (o := 0) (k := (b : Int).toNat * szN 0) (v := .int .i64 (d1 b)) rfl rfl rfl (by repeat first | exact mH | apply mT | apply mA) (rowD_at d1 hb) rfl ?_
       refine xo_neq rfl rfl rfl rfl ?_
       with_reducible (refine xo_nil ?_; (repeat first | refine xqT ?_ | refine xqB ?_ | refine xqS ?_); (repeat refine xc_seq ?_))
       refine xc_meetQ (γ := Unit) (fun _ => True) (fun _ => [(3, .slice (some adl) l.length cd), (4, .pointer (some ⟨b4, 0, none⟩)), (9, .slice (some ⟨b9, 0, none⟩) k k), (11, .int .i64 (i : Int)), (12, .pointer (some ⟨b12, 0, none⟩)), (30, .int .i64 (k : Int)), (31, .int .i64 (q : Int)), (34, .slice (some ad) gs.length c), (35, .int .i64 (gs.length : Int)), (36, .int .i64 (i : Int))]) (fun _ => [(b12, true, cel (gatV (⟨(a : Int), (b : Int), g2⟩ : GatT)) 52), (b9, true, cel (rowD k (((edgesL gs l).take (i + 1)).foldl comeS d0)) 3), (b4, true, cel (scnV k (some ad) gs.length c E B m c2) 25)]) ?_ (fun _ _ => ?_)
       ·rw [hst]
        with_reducible (repeat refine xc_seq ?_)
        refine xc_cond rfl (fun h => ?_) (fun h => ?_)
        ·have hnb : d1 b ≠ 1073741824 := by simpa using h
         refine xc_slots [(3, .slice (some adl) l.length cd), (4, .pointer (some ⟨b4, 0, none⟩)), (9, .slice (some ⟨b9, 0, none⟩) k k), (11, .int .i64 (i : Int)), (12, .pointer (some ⟨b12, 0, none⟩)), (30, .int .i64 (k : Int)), (31, .int .i64 (q : Int)), (34, .slice (some ad) gs.length c), (35, .int .i64 (gs.length : Int)), (36, .int .i64 (i : Int))] ⟨rfl, rfl, rfl, rfl, rfl, rfl, rfl, rfl, rfl, rfl, trivial⟩ ?_
         with_reducible (repeat refine xc_seq ?_)
         apply xc_drawE (fun g => []) (fun (η0 : Hp) g => match g with | [] => (η0) | a0 :: _ => ([(b12, true, cel (gatV (⟨(a : Int), (b : Int), g2⟩ : GatT)) 52), (b9, true, cel (rowD k (fun v => if v = a then sideB (d1 b) (d1 a) x else d1 v)) 3), (b4, true, cel (scnV k (some ad) gs.length c E B m c2) 25)])) (fun _ => True) [0, 0, 0, 0, 0, 0, 0, 0, 0, 0, 0, 0, 0, 0, 0, 0, 0, 0, 0, 0, 1] [20] [[19, 18, 0, 1, 2, 3, 4, 5, 6, 7, 8, 9, 10, 11, 12, 13, 14, 15, 16, 17, 18]] (by trivial)
         apply SameLen.cons
         apply SameLen.cons
         apply SameLen.cons
         apply SameLen.cons
         apply SameLen.cons
         apply SameLen.cons
         apply SameLen.cons
         apply SameLen.cons
         apply SameLen.cons
         apply SameLen.cons
         apply SameLen.cons
         apply SameLen.cons
         apply SameLen.cons
         apply SameLen.cons
         apply SameLen.cons
         apply SameLen.cons
         apply SameLen.cons
         apply SameLen.cons
         apply SameLen.cons
         apply SameLen.cons
         apply SameLen.cons
         exact SameLen.nil
         rotate_left 21
         case hH0 => rfl
         case hmix => exact T_.mixed
         case hbind => rfl
         case hdeps => rfl
         case hdist => rfl
         case hfresh => rfl
         case hE => rfl
         case hEn => decide
         ·refine DrawE.pure 0 0 rfl (.inr (by decide)) (fun L g hg hd => Nat.zero_le _) (fun g hlo hhi hF τ => ?_) ?_
          ·rcases g with _ | ⟨a0, _ | ⟨a1, g⟩⟩ <;> first | (simp only [lenC, lenN] at hlo hhi; omega) | (refine ⟨_, rfl, ?_⟩; refine xo_mv rfl rfl rfl ?_; exact xo_fin rfl)
          refine DrawE.pure 0 0 rfl (.inr (by decide)) (fun L g hg hd => Nat.zero_le _) (fun g hlo hhi hF τ => ?_) ?_
          ·rcases g with _ | ⟨a0, _ | ⟨a1, g⟩⟩ <;> first | (simp only [lenC, lenN] at hlo hhi; omega) | (refine ⟨_, rfl, ?_⟩; refine xo_fa T_ rfl rfl rfl rfl rfl ?_; exact xo_fin rfl)
          refine DrawE.pure 0 0 rfl (.inr (by decide)) (fun L g hg hd => Nat.zero_le _) (fun g hlo hhi hF τ => ?_) ?_
          ·rcases g with _ | ⟨a0, _ | ⟨a1, g⟩⟩ <;> first | (simp only [lenC, lenN] at hlo hhi; omega) | (refine ⟨_, rfl, ?_⟩; refine xo_load0 T_ rfl rfl rfl (by repeat first | exact mH | apply mT | apply mA) rfl rfl ?_; exact xo_fin rfl)
          refine DrawE.pure 0 0 rfl (.inr (by decide)) (fun L g hg hd => Nat.zero_le _) (fun g hlo hhi hF τ => ?_) ?_
          ·rcases g with _ | ⟨a0, _ | ⟨a1, g⟩⟩ <;> first | (simp only [lenC, lenN] at hlo hhi; omega) | (refine ⟨_, rfl, ?_⟩; refine xo_mv rfl rfl rfl ?_; exact xo_fin rfl)
          refine DrawE.pure 0 0 rfl (.inr (by decide)) (fun L g hg hd => Nat.zero_le _) (fun g hlo hhi hF τ => ?_) ?_
          ·rcases g with _ | ⟨a0, _ | ⟨a1, g⟩⟩ <;> first | (simp only [lenC, lenN] at hlo hhi; omega) | (refine ⟨_, rfl, ?_⟩; refine xo_fa T_ rfl rfl rfl rfl rfl ?_; exact xo_fin rfl)
          refine DrawE.pure 0 0 rfl (.inr (by decide)) (fun L g hg hd => Nat.zero_le _) (fun g hlo hhi hF τ => ?_) ?_
          ·rcases g with _ | ⟨a0, _ | ⟨a1, g⟩⟩ <;> first | (simp only [lenC, lenN] at hlo hhi; omega) | (refine ⟨_, rfl, ?_⟩; refine xo_load0 T_ rfl rfl rfl (by repeat first | exact mH | apply mT | apply mA) rfl rfl ?_; exact xo_fin rfl)
          refine DrawE.pure 0 0 rfl (.inr (by decide)) (fun L g hg hd => Nat.zero_le _) (fun g hlo hhi hF τ => ?_) ?_
          ·rcases g with _ | ⟨a0, _ | ⟨a1, g⟩⟩ <;> first | (simp only [lenC, lenN] at hlo hhi; omega) | (refine ⟨_, rfl, ?_⟩; refine xo_ia T_ (i := (a : Int)) rfl rfl rfl rfl rfl ⟨by omega, by omega⟩ rfl ?_; exact xo_fin rfl)
          refine DrawE.pure 0 0 rfl (.inr (by decide)) (fun L g hg hd => Nat.zero_le _) (fun g hlo hhi hF τ => ?_) ?_
          ·rcases g with _ | ⟨a0, _ | ⟨a1, g⟩⟩ <;> first | (simp only [lenC, lenN] at hlo hhi; omega) | (refine ⟨_, rfl, ?_⟩; refine xo_loadI T_ (o := 0) (k := (a : Int).toNat * szN 0) (v := .int .i64 (d1 a)) rfl rfl rfl (by repeat first | exact mH | apply mT | apply mA) (rowD_at d1 ha) rfl ?_; exact xo_fin rfl)
          refine DrawE.pure 0 0 rfl (.inr (by decide)) (fun L g hg hd => Nat.zero_le _) (fun g hlo hhi hF τ => ?_) ?_
          ·rcases g with _ | ⟨a0, _ | ⟨a1, g⟩⟩ <;> first | (simp only [lenC, lenN] at hlo hhi; omega) | (refine ⟨_, rfl, ?_⟩; refine xo_mv rfl rfl rfl ?_; exact xo_fin rfl)
          refine DrawE.pure 0 0 rfl (.inr (by decide)) (fun L g hg hd => Nat.zero_le _) (fun g hlo hhi hF τ => ?_) ?_
          ·rcases g with _ | ⟨a0, _ | ⟨a1, g⟩⟩ <;> first | (simp only [lenC, lenN] at hlo hhi; omega) | (refine ⟨_, rfl, ?_⟩; refine xo_fa T_ rfl rfl rfl rfl rfl ?_; exact xo_fin rfl)
          refine DrawE.pure 0 0 rfl (.inr (by decide)) (fun L g hg hd => Nat.zero_le _) (fun g hlo hhi hF τ => ?_) ?_
          ·rcases g with _ | ⟨a0, _ | ⟨a1, g⟩⟩ <;> first | (simp only [lenC, lenN] at hlo hhi; omega) | (refine ⟨_, rfl, ?_⟩; refine xo_load0 T_ rfl rfl rfl (by repeat first | exact mH | apply mT | apply mA) rfl rfl ?_; exact xo_fin rfl)
          refine DrawE.pure 0 0 rfl (.inr (by decide)) (fun L g hg hd => Nat.zero_le _) (fun g hlo hhi hF τ => ?_) ?_
          ·rcases g with _ | ⟨a0, _ | ⟨a1, g⟩⟩ <;> first | (simp only [lenC, lenN] at hlo hhi; omega) | (refine ⟨_, rfl, ?_⟩; refine xo_ia T_ (i := (b : Int)) rfl rfl rfl rfl rfl ⟨by omega, by omega⟩ rfl ?_; exact xo_fin rfl)
          refine DrawE.pure 0 0 rfl (.inr (by decide)) (fun L g hg hd => Nat.zero_le _) (fun g hlo hhi hF τ => ?_) ?_
          ·rcases g with _ | ⟨a0, _ | ⟨a1, g⟩⟩ <;> first | (simp only [lenC, lenN] at hlo hhi; omega) | (refine ⟨_, rfl, ?_⟩; refine xo_loadI T_ (o := 0) (k := (b : Int).toNat * szN 0) (v := .int .i64 (d1 b)) rfl rfl rfl (by repeat first | exact mH | apply mT | apply mA) (rowD_at d1 hb) rfl ?_; exact xo_fin rfl)
          refine DrawE.pure 0 0 rfl (.inr (by decide)) (fun L g hg hd => Nat.zero_le _) (fun g hlo hhi hF τ => ?_) ?_
          ·rcases g with _ | ⟨a0, _ | ⟨a1, g⟩⟩ <;> first | (simp only [lenC, lenN] at hlo hhi; omega) | (refine ⟨_, rfl, ?_⟩; refine xo_mv rfl rfl rfl ?_; exact xo_fin rfl)
          refine DrawE.pure 0 0 rfl (.inr (by decide)) (fun L g hg hd => Nat.zero_le _) (fun g hlo hhi hF τ => ?_) ?_
          ·rcases g with _ | ⟨a0, _ | ⟨a1, g⟩⟩ <;> first | (simp only [lenC, lenN] at hlo hhi; omega) | (refine ⟨_, rfl, ?_⟩; refine xo_mv rfl rfl rfl ?_; exact xo_fin rfl)
          refine DrawE.pure 0 0 rfl (.inr (by decide)) (fun L g hg hd => Nat.zero_le _) (fun g hlo hhi hF τ => ?_) ?_
          ·rcases g with _ | ⟨a0, _ | ⟨a1, g⟩⟩ <;> first | (simp only [lenC, lenN] at hlo hhi; omega) | (refine ⟨_, rfl, ?_⟩; refine xo_ia T_ rfl rfl rfl rfl rfl ⟨by omega, by omega⟩ rfl ?_; exact xo_fin rfl)
          refine DrawE.pure 0 0 rfl (.inr (by decide)) (fun L g hg hd => Nat.zero_le _) (fun g hlo hhi hF τ => ?_) ?_
          ·rcases g with _ | ⟨a0, _ | ⟨a1, g⟩⟩ <;> first | (simp only [lenC, lenN] at hlo hhi; omega) | (refine ⟨_, rfl, ?_⟩; refine xo_loadR0 T_ rfl rfl rfl q2 rfl ?_; exact xo_fin rfl)
          refine DrawE.pure 0 0 rfl (.inr (by decide)) (fun L g hg hd => Nat.zero_le _) (fun g hlo hhi hF τ => ?_) ?_
          ·rcases g with _ | ⟨a0, _ | ⟨a1, g⟩⟩ <;> first | (simp only [lenC, lenN] at hlo hhi; omega) | (refine ⟨_, rfl, ?_⟩; refine xo_add rfl rfl rfl (by omega) rfl ?_; exact xo_fin rfl)
          refine DrawE.pure 0 0 rfl (.inr (by decide)) (fun L g hg hd => Nat.zero_le _) (fun g hlo hhi hF τ => ?_) ?_
          ·rcases g with _ | ⟨a0, _ | ⟨a1, g⟩⟩ <;> first | (simp only [lenC, lenN] at hlo hhi; omega) | (refine ⟨_, rfl, ?_⟩; refine xo_min rfl rfl rfl rfl ?_; exact xo_fin rfl)
          refine DrawE.pure 0 0 rfl (.inr (by decide)) (fun L g hg hd => Nat.zero_le _) (fun g hlo hhi hF τ => ?_) ?_
          ·rcases g with _ | ⟨a0, _ | ⟨a1, g⟩⟩ <;> first | (simp only [lenC, lenN] at hlo hhi; omega) | (refine ⟨_, rfl, ?_⟩; refine xo_ia T_ (i := (a : Int)) rfl rfl rfl rfl rfl ⟨by omega, by omega⟩ rfl ?_; exact xo_fin rfl)
          refine DrawE.eff 0 rfl (by decide) rfl (fun j hj => hj) (fun j g a hj => ?_) (fun L g hg hd => Nat.zero_le _) (fun g hgl hF τ => ?_) ?_
          ·rcases j with _ | _ | _ | _ | _ | _ | _ | _ | _ | _ | _ | _ | _ | _ | _ | _ | _ | _ | _ | _ | _ | j
           all_goals first | rfl | (rcases g with _ | ⟨a0, _ | ⟨a1, g⟩⟩ <;> first | rfl | exact absurd hj (by decide) | exact absurd hj (by simp [List.getD]))
          ·obtain rfl : g = [] := by
            rcases g with _ | ⟨a0, g⟩ <;> first | rfl | (exfalso; simp only [List.length_cons, List.length_nil] at hgl; omega)
           refine xo_storeI T_ (o := 0) (k := (a : Int).toNat * szN 0) (η' := [(b12, true, cel (gatV (⟨(a : Int), (b : Int), g2⟩ : GatT)) 52), (b9, true, cel (rowD k (fun v => if v = a then sideB (d1 b) (d1 a) x else d1 v)) 3), (b4, true, cel (scnV k (some ad) gs.length c E B m c2) 25)]) rfl rfl rfl rfl (by repeat first | exact mH | apply mT | apply mA) rfl rfl (by rw [rowD_len, show szN 0 = 1 from rfl, Int.toNat_natCast]; omega) (updT_set ((rowD_set d1 a (if d1 b + x < d1 a then d1 b + x else d1 a)).trans (rowD_congr fun v hv => by unfold sideB; rw [if_neg hnb]))) rfl ?_
           exact xo_finE ⟨0, 0, none⟩ rfl trivial
          exact DrawE.nil
         intro g hgl hF
         obtain ⟨a0, rfl⟩ : ∃ a0, g = [a0] := by
          rcases g with _ | ⟨a0, _ | ⟨a1, g⟩⟩ <;> first | exact ⟨_, rfl⟩ | (exfalso; simp only [List.length_cons, List.length_nil] at hgl; omega)
         with_reducible (repeat first | refine xqT ?_ | refine xqB ?_ | refine xqS ?_)
         exact xq_meet _ _ _ () trivial ⟨rfl, rfl, rfl, rfl, rfl, rfl, rfl, rfl, rfl, rfl, trivial⟩ (List.Sublist.refl _)
        ·have hnb : d1 b = 1073741824 := by simpa using h
         with_reducible (refine xc_skip ?_; (repeat first | refine xqT ?_ | refine xqB ?_ | refine xqS ?_))
         have hrow : rowD k d1 = rowD k (fun v => if v = a then sideB (d1 b) (d1 a) x else d1 v) := rowD_congr fun v hv => by unfold sideB; rw [if_pos hnb]; split <;> simp_all
         rw [hrow]
         exact xq_meet _ _ _ () trivial ⟨rfl, rfl, rfl, rfl, rfl, rfl, rfl, rfl, rfl, rfl, trivial⟩ (List.Sublist.refl _)
       with_reducible ((repeat first | refine xqT ?_ | refine xqB ?_ | refine xqS ?_); (repeat refine xc_seq ?_); refine xcR ?_)
       refine xo_add rfl rfl rfl (by omega) rfl ?_
       refine xo_mv rfl rfl rfl ?_
       with_reducible (refine xo_nil ?_; (repeat first | refine xqT ?_ | refine xqB ?_ | refine xqS ?_))
       exact xq_again _ _ _ _ _ (i + 1) ⟨by omega, hd2⟩ (by omega) ⟨rfl, rfl, rfl, rfl, rfl, rfl, rfl, rfl, trivial⟩ (List.sublist_cons_self _ _)
      ·have hgi : i = gs.length := by have := of_decide_eq_false h; omega
       subst hgi
       rw [List.take_of_length_le (by rw [edges_len hll]; exact Nat.le_refl _), ← hnext] at hdi ⊢
       with_reducible (refine xc_exit ?_; (repeat (first | refine xq_blockX ?_ | refine xq_thenE ?_ | refine xq_blockE rfl ?_ | refine xq_scopeE ?_)); (repeat first | refine xqT ?_ | refine xqB ?_ | refine xqS ?_); (repeat refine xc_seq ?_); refine xcR ?_)
       refine xo_add rfl rfl rfl (by omega) rfl ?_
       refine xo_mv rfl rfl rfl ?_
       with_reducible (refine xo_nil ?_; (repeat first | refine xqT ?_ | refine xqB ?_ | refine xqS ?_))
       exact xq_again _ _ _ _ _ (q + 1) ⟨by omega, hdi⟩ (by omega) ⟨rfl, rfl, rfl, rfl, rfl, trivial⟩ (List.Sublist.refl _)
    ·have hgq : q = k := by have := of_decide_eq_false h; omega
     subst hgq
     with_reducible (refine xc_exit ?_; (repeat (first | refine xq_blockX ?_ | refine xq_thenE ?_ | refine xq_blockE rfl ?_ | refine xq_scopeE ?_)); (repeat first | refine xqT ?_ | refine xqB ?_ | refine xqS ?_); (repeat refine xc_seq ?_); refine xcR ?_)
     refine xo_mv rfl rfl rfl ?_
     refine xo_asg rfl rfl rfl ?_
     with_reducible (refine xo_nil ?_; (repeat first | refine xqT ?_ | refine xqB ?_ | refine xqS ?_); (repeat refine xc_seq ?_); refine xc_ret ?_; (repeat (first | refine xq_thenR ?_ | refine xq_blockR ?_ | refine xq_scopeR ?_)))
     exact xq_ret1 rfl rfl fun w' hw => ⟨b9, rfl, hw.sub (by repeat (first | exact List.Sublist.refl _ | apply List.Sublist.cons_cons | apply List.Sublist.cons | exact List.nil_sublist _))⟩
theorem comes_enters : ∀ args w, (callFunc 28 args).run Tryz.prog w = .ok (.enter 28 args) w := enters_of Tryz.func28 (by kernel_rfl) rfl
def cameL (n : Nat) (gs : List GatT) (l : List Int) (room : Nat) (minute : Int) : Nat → Int := comesF (edgesL gs l) (shiftF minute (startB 1000000 room)) n
theorem edges_ok {n : Nat} {gs : List GatT} {l : List Int} (hG : GatesR n gs) (hl : okD gs l) : ∀ e ∈ edgesL gs l, (0 ≤ e.2.2 ∧ e.2.2 ≤ 60) ∧ e.1 ≠ e.2.1 := fun e he => by
 have hne := edges_ne hG l e he
 have hp := okD_pos hl (fun g hg => (hG.ok g hg).2.2.2.1) e he
 obtain ⟨i, hi, rfl⟩ := List.getElem_of_mem he
 have hll := okD_len hl
 rw [edges_len hll] at hi
 have h1 := edges_at hll i hi
 rw [List.getElem?_eq_getElem (by rw [edges_len hll]; exact hi)] at h1
 rw [Option.some.inj h1] at hp hne ⊢
 have h2 := okD_at hl i hi
 have h3 := hG.ok _ (getD_mem gs zGat i hi)
 refine ⟨⟨hp, ?_⟩, hne⟩
 simp only [edgeL]
 omega
theorem came_far {n : Nat} {gs : List GatT} {l : List Int} {room v : Nat} {minute : Int} (hn : 1 ≤ n ∧ n ≤ 6) (hG : GatesR n gs) (hl : okD gs l) (hr : room < n) (hm : 0 ≤ minute ∧ minute ≤ 600) (hv : v < n) :
  cameL n gs l room minute v = cameF minute (farM n gs l room) v ∧ (farM n gs l room v = 1073741824 ∨ (0 ≤ farM n gs l room v ∧ farM n gs l room v ≤ 300)) := by
 have h1 := (come_rounds hm (edges_ok hG hl) (by rw [edges_len (okD_len hl)]; exact hG.len) room n hn.2).1
 have h2 := far_same hn hG hl hr hv
 unfold cameL
 rw [h1]
 unfold shiftF cameF
 rcases h2 with ⟨e, h3⟩ | ⟨e, h3⟩
 ·rw [e]
  unfold dR at h3 ⊢
  rw [if_neg (by omega), if_neg (by omega)]
  exact ⟨rfl, .inr h3⟩
 ·unfold dR at h3
  rw [e, h3, if_pos rfl, if_pos rfl]
  exact ⟨rfl, .inl rfl⟩
theorem came_in {n : Nat} {gs : List GatT} {l : List Int} {room : Nat} {minute : Int} (hn : 1 ≤ n ∧ n ≤ 6) (hG : GatesR n gs) (hl : okD gs l) (hr : room < n) (hm : 0 ≤ minute ∧ minute ≤ 600) (v : Nat) (hv : v < n) : 0 ≤ cameL n gs l room minute v ∧ cameL n gs l room minute v ≤ 1073741824 := by
 obtain ⟨e, h⟩ := came_far hn hG hl hr hm hv
 rw [e]
 unfold cameF
 split <;> omega
theorem soF_congr {E : Int} {m : MarT} {a b : Nat → Int} (h2 : a m.f2.toNat = b m.f2.toNat) (h3 : a m.f3.toNat = b m.f3.toNat) : soF E m a = soF E m b := by
 unfold soF
 rw [h2, h3]
theorem so_came {n : Nat} {E : Int} {gs : List GatT} {l : List Int} {room : Nat} {minute : Int} {m : MarT} (hn : 1 ≤ n ∧ n ≤ 6) (hE : E ≤ 600) (hG : GatesR n gs) (hl : okD gs l) (hr : room < n) (hm : 0 ≤ minute ∧ minute ≤ E) (hmk : MarkR n m) :
  soF E m (cameL n gs l room minute) = true ↔ inS (saysF E (farM n gs l room) m) minute := by
 obtain ⟨⟨hk, hb, ho, hlo, hhi, hlong⟩, hroom, hother⟩ := hmk
 have h2 := came_far hn hG hl hr (minute := minute) ⟨hm.1, by omega⟩ (v := m.f2.toNat) (by omega)
 have h3 := came_far hn hG hl hr (minute := minute) ⟨hm.1, by omega⟩ (v := m.f3.toNat) (by omega)
 rw [soF_congr h2.1 h3.1]
 exact so_says hm hE hk ⟨by omega, by omega, by omega, by omega⟩ ⟨by omega, by omega⟩ h2.2 h3.2
theorem fold_mem (E z : Int) (r : Nat → Int) : ∀ (ms : List MarT) (s : SpaT), inS (ms.foldl (fun s m => comF s (saysF E r m)) s) z ↔ inS s z ∧ ∀ m ∈ ms, inS (saysF E r m) z
 | [], s => by simp
 | m :: ms, s => by
  rw [List.foldl_cons, fold_mem E z r ms, in_com, List.forall_mem_cons, and_assoc]
theorem winF_mem {E z : Int} {r : Nat → Int} {ms : List MarT} : inS (winF E r ms) z ↔ (0 ≤ z ∧ z ≤ E) ∧ ∀ m ∈ ms, inS (saysF E r m) z := fold_mem E z r ms ⟨0, E⟩
theorem win_so {n : Nat} {E : Int} {gs : List GatT} {l : List Int} {room : Nat} {minute : Int} {ms : List MarT} (hn : 1 ≤ n ∧ n ≤ 6) (hE : E ≤ 600) (hG : GatesR n gs) (hl : okD gs l) (hr : room < n) (hmk : ∀ m ∈ ms, MarkR n m) :
  inS (winF E (farM n gs l room) ms) minute ↔ (0 ≤ minute ∧ minute ≤ E) ∧ ∀ m ∈ ms, soF E m (cameL n gs l room minute) = true := by
 rw [winF_mem]
 constructor
 ·rintro ⟨h, h1⟩
  exact ⟨h, fun m hm => (so_came hn hE hG hl hr h (hmk m hm)).2 (h1 m hm)⟩
 ·rintro ⟨h, h1⟩
  exact ⟨h, fun m hm => (so_came hn hE hG hl hr h (hmk m hm)).1 (h1 m hm)⟩
def hasS (s : SpaT) (z : Int) : Bool := inF s.f0 s.f1 z
theorem hasS_iff {s : SpaT} {z : Int} : hasS s z = true ↔ inS s z := inF_iff
theorem began_find (E : Int) (R : Nat) (gs : List GatT) (room : Nat) (ms : List MarT) (z : Int) : ∀ (ls : List (List Int)) (i : Nat), ((beganFrom E R gs room ms i ls).find? fun x => inF x.2.f0 x.2.f1 z).map (·.1) = (ls.findIdx? fun l => hasS (winF E (farM R gs l room) ms) z).map (i + ·)
 | [], i => rfl
 | l :: ls, i => by
  have ih := began_find E R gs room ms z ls (i + 1)
  have hs : ∀ o : Option Nat, o.map (i + 1 + ·) = (o.map (· + 1)).map (i + ·) := fun o => by cases o <;> simp <;> omega
  unfold beganFrom
  rw [List.findIdx?_cons]
  by_cases hz : inS (winF E (farM R gs l room) ms) z
  ·have hle : (winF E (farM R gs l room) ms).f0 ≤ (winF E (farM R gs l room) ms).f1 := Int.le_trans hz.1 hz.2
   rw [if_pos hle, List.find?_cons_of_pos (by exact inF_iff.2 hz), hasS_iff.2 hz]
   rfl
  ·rw [show hasS (winF E (farM R gs l room) ms) z = false by rw [← Bool.not_eq_true, hasS_iff]; exact hz]
   simp only [Bool.false_eq_true, if_false]
   rw [← hs, ← ih]
   split
   ·rw [List.find?_cons_of_neg (by intro q; exact hz (inF_iff.1 q))]
   ·rfl
theorem truthI_eq (E : Int) (R : Nat) (gs : List GatT) (room : Nat) (ms : List MarT) (z : Int) : truthI E R gs room ms z = (allD gs).findIdx? fun l => hasS (winF E (farM R gs l room) ms) z := by
 unfold truthI beganL
 rw [began_find]
 cases (allD gs).findIdx? _ <;> simp
theorem truthL0_eq (E : Int) (R : Nat) (gs : List GatT) (room : Nat) (ms : List MarT) (z : Int) : truthL0 E R gs room ms z = ((allD gs).find? fun l => hasS (winF E (farM R gs l room) ms) z).getD [] := by
 unfold truthL0
 rw [truthI_eq]
 generalize (allD gs) = L
 induction L with
 | nil => rfl
 | cons l L ih =>
  rw [List.findIdx?_cons, List.find?_cons]
  cases hasS (winF E (farM R gs l room) ms) z
  ·simp only [Bool.false_eq_true, if_false]
   rw [← ih]
   cases List.findIdx? _ L <;> rfl
  ·rfl
theorem truthI_some (E : Int) (R : Nat) (gs : List GatT) (room : Nat) (ms : List MarT) (z : Int) : (truthI E R gs room ms z).isSome = toldF (beganL E R gs room ms) z := by
 unfold truthI
 rw [Option.isSome_map, List.isSome_find?]
 rfl
theorem find_mem {α : Type} {p : α → Bool} {L : List α} {d : α} (h : (L.find? p).isSome = true) : (L.find? p).getD d ∈ L ∧ p ((L.find? p).getD d) = true := by
 obtain ⟨x, hx⟩ := Option.isSome_iff_exists.1 h
 rw [hx]
 exact ⟨List.mem_of_find?_eq_some hx, List.find?_some hx⟩
theorem truth_is {R E : Int} {gs : List GatT} {ms : List MarT} {room z : Int} (hsc : sceneF R E gs ms = true) (hr : roomOK R room = true) :
  (truthC R E gs ms room z = 0 ∧ truthL R E gs ms room z ∈ allD gs ∧ inS (winF E (farM R.toNat gs (truthL R E gs ms room z) room.toNat) ms) z) ∨ (truthC R E gs ms room z = 91 ∧ truthL R E gs ms room z = [] ∧ ∀ l ∈ allD gs, ¬ inS (winF E (farM R.toNat gs l room.toNat) ms) z) := by
 have hI : (truthI E R.toNat gs room.toNat ms z).isSome = ((allD gs).find? fun l => hasS (winF E (farM R.toNat gs l room.toNat) ms) z).isSome := by
  rw [truthI_eq, List.findIdx?_isSome, List.isSome_find?]
 have hC : truthC R E gs ms room z = if (truthI E R.toNat gs room.toNat ms z).isSome = true then 0 else 91 := by rw [truthC, if_pos hsc, if_pos hr]
 have hL : truthL R E gs ms room z = truthL0 E R.toNat gs room.toNat ms z := by rw [truthL, if_pos ⟨hsc, hr⟩]
 rw [hC, hL, hI, truthL0_eq]
 by_cases h : ((allD gs).find? fun l => hasS (winF E (farM R.toNat gs l room.toNat) ms) z).isSome = true
 ·obtain ⟨h1, h2⟩ := find_mem (d := []) h
  exact .inl ⟨if_pos h, h1, hasS_iff.1 h2⟩
 ·right
  rw [if_neg h]
  rw [Bool.not_eq_true, Option.isSome_eq_false_iff, Option.isNone_iff_eq_none] at h
  rw [h]
  exact ⟨rfl, rfl, fun l hl q => List.find?_eq_none.1 h l hl (hasS_iff.2 q)⟩
theorem spans_few (l : List Int) : (spansOf l).length ≤ l.length := by
 have key : ∀ (l : List Int) (acc : List SpaT), (l.foldl grpS acc).length ≤ acc.length + l.length := by
  intro l
  induction l with
  | nil => intro acc; simp
  | cons x l ih =>
   intro acc
   have h1 := ih (grpS acc x)
   have h2 : (grpS acc x).length ≤ acc.length + 1 := by
    unfold grpS
    split
    ·rw [List.length_set]; omega
    ·rw [List.length_append]; simp
   simp only [List.foldl_cons, List.length_cons]
   omega
 simpa [spansOf] using key l []
theorem minutes_few {R E : Int} {gs : List GatT} {ms : List MarT} {room : Int} (hE : 0 ≤ E ∧ E ≤ 600) : (minutesL R E gs ms room).length ≤ 601 := by
 rw [minutesL]
 split
 ·have h1 := spans_few (intsN (toldL E (beganL E R.toNat gs room.toNat ms)))
  have h2 := toldL_len E (beganL E R.toNat gs room.toNat ms)
  have h3 : (intsN (toldL E (beganL E R.toNat gs room.toNat ms))).length = (toldL E (beganL E R.toNat gs room.toNat ms)).length := by simp [intsN]
  omega
 ·simp
theorem inside_truth {R E : Int} {gs : List GatT} {ms : List MarT} {room z : Int} (hsc : sceneF R E gs ms = true) (hr : roomOK R room = true) :
  insideF (minutesL R E gs ms room) z (minutesL R E gs ms room).length = decide (truthC R E gs ms room z = 0) := by
 have hC : minutesC R E gs ms room = 0 := by simp [minutesC, hsc, hr]
 have hT : truthC R E gs ms room z = if toldF (beganL E R.toNat gs room.toNat ms) z = true then 0 else 91 := by rw [truthC, if_pos hsc, if_pos hr, truthI_some]
 have hS := spans_ok (told_ints (E := E) (xs := beganL E R.toNat gs room.toNat ms))
 have hin : ∀ x ∈ beganL E R.toNat gs room.toNat ms, 0 ≤ x.2.f0 ∧ x.2.f1 ≤ E := fun x hx => by
  rw [(beganL_mem.1 hx).2.1]
  exact winF_in _ _ _
 rw [hT, minutesL, if_pos hC, insideF, List.take_length, Bool.eq_iff_iff, List.any_eq_true, decide_eq_true_eq]
 constructor
 ·rintro ⟨s, hs, h⟩
  rw [Bool.and_eq_true, decide_eq_true_eq, decide_eq_true_eq] at h
  have := told_mem.1 ((hS.sound s hs).2 z h.1 h.2)
  rw [if_pos this.2.2]
 ·intro h
  have ht : toldF (beganL E R.toNat gs room.toNat ms) z = true := by
   by_cases q : toldF (beganL E R.toNat gs room.toNat ms) z = true
   ·exact q
   ·rw [if_neg q] at h; cases h
  obtain ⟨x, hx, h1, h2⟩ := toldF_iff.1 ht
  have := hin x hx
  obtain ⟨s, hs, h3, h4⟩ := hS.cover z (told_mem.2 ⟨by omega, by omega, ht⟩)
  exact ⟨s, hs, by rw [Bool.and_eq_true, decide_eq_true_eq, decide_eq_true_eq]; exact ⟨h3, h4⟩⟩
theorem spans_told {R E : Int} {gs : List GatT} {ms : List MarT} {room : Int} (hsc : sceneF R E gs ms = true) (hr : roomOK R room = true) {k : Nat} (hk : k < (minutesL R E gs ms room).length) :
  0 ≤ ((minutesL R E gs ms room).getD k zSpa).f0 ∧ ((minutesL R E gs ms room).getD k zSpa).f0 ≤ ((minutesL R E gs ms room).getD k zSpa).f1 ∧ ((minutesL R E gs ms room).getD k zSpa).f1 ≤ E ∧ (0 < k → ((minutesL R E gs ms room).getD (k - 1) zSpa).f1 + 1 < ((minutesL R E gs ms room).getD k zSpa).f0) := by
 have hC : minutesC R E gs ms room = 0 := by simp [minutesC, hsc, hr]
 have hS := spans_ok (told_ints (E := E) (xs := beganL E R.toNat gs room.toNat ms))
 rw [minutesL, if_pos hC] at hk ⊢
 generalize spansOf _ = L at hk hS ⊢
 have hm := hS.sound _ (getD_mem L zSpa k hk)
 have h1 := told_mem.1 (hm.2 _ (Int.le_refl _) hm.1)
 have h2 := told_mem.1 (hm.2 _ hm.1 (Int.le_refl _))
 refine ⟨h1.1, hm.1, h2.2.1, fun h0 => ?_⟩
 have := List.pairwise_iff_getElem.1 hS.apart (k - 1) k (by omega) hk (by omega)
 rw [List.getD_eq_getElem?_getD, List.getD_eq_getElem?_getD, List.getElem?_eq_getElem hk, List.getElem?_eq_getElem (show k - 1 < L.length by omega)]
 exact this
theorem rooms_told {R E : Int} {gs : List GatT} {ms : List MarT} {k : Nat} (hk : k < (intsN (roomsR R E gs ms)).length) :
  0 ≤ (intsN (roomsR R E gs ms)).getD k 0 ∧ (intsN (roomsR R E gs ms)).getD k 0 < R ∧ (0 < k → (intsN (roomsR R E gs ms)).getD (k - 1) 0 < (intsN (roomsR R E gs ms)).getD k 0) := by
 have hk' : k < (roomsR R E gs ms).length := by simpa [intsN] using hk
 have hg : ∀ j, j < (roomsR R E gs ms).length → (intsN (roomsR R E gs ms)).getD j 0 = (((roomsR R E gs ms).getD j 0 : Nat) : Int) := fun j hj => by
  simp [intsN, List.getD_eq_getElem?_getD, List.getElem?_eq_getElem hj]
 have hP : (roomsR R E gs ms).Pairwise (· < ·) ∧ ∀ x ∈ roomsR R E gs ms, x < R.toNat := by
  unfold roomsR
  split
  ·exact ⟨List.Pairwise.filter _ List.pairwise_lt_range, fun x hx => List.mem_range.1 (List.mem_filter.1 hx).1⟩
  ·exact ⟨List.Pairwise.nil, fun x hx => by cases hx⟩
 rw [hg k hk']
 have h1 := hP.2 _ (getD_mem _ 0 k hk')
 refine ⟨by omega, by omega, fun h0 => ?_⟩
 rw [hg (k - 1) (by omega)]
 have := List.pairwise_iff_getElem.1 hP.1 (k - 1) k (by omega) hk' (by omega)
 rw [List.getD_eq_getElem?_getD, List.getD_eq_getElem?_getD, List.getElem?_eq_getElem hk', List.getElem?_eq_getElem (show k - 1 < _ by omega)]
 simp only [Option.getD_some]
 omega
theorem RO.fldZ {w : World} {X : Nat → Prop} {b k : Nat} {cs : List Value} {v : Value} (h : RO w X ⟨b, 0, none⟩ cs) (hj : cs[k]? = some v) : RO w X ⟨b, 0 + k, none⟩ [v] := by
 have := RO.fld h hj
 rwa [Addr.add_lit] at this
theorem atsAt_row {w : World} {b n : Nat} {d : Nat → Int} (h : BlIn [(b, true, cel (rowD n d) 3)] w) : AtsAt w (some ⟨b, 0, none⟩) n d := by
 obtain ⟨o, h1, h2⟩ := h _ List.mem_cons_self
 rw [show o = _ from h2] at h1
 intro k hk
 rw [List.length_map, List.length_range] at hk
 refine ⟨_, rfl, ro1 ?_⟩
 rw [Addr.add_lit, cell_of_row w b _ _ _ _ h1]
 have := rowD_at d hk
 rw [show ((List.range n).map d).getD k 0 = d k by simp [List.getD_eq_getElem?_getD, hk]]
 simpa using this
set_option maxHeartbeats 16000000 in
theorem truth_yes (n : Nat) (E : Int) (A B Dl : Option Addr) (c c2 cd : Nat) (gs : List GatT) (ms : List MarT) (l : List Int) (room : Nat) (minute : Int) (w : World) (hn : 1 ≤ n ∧ n ≤ 6) (hE : 0 ≤ E ∧ E ≤ 600) (hG : GatesR n gs) (hm8 : ms.length ≤ 8) (hmk : ∀ m ∈ ms, MarkR n m) (hl : okD gs l) (hA : RowOf gatV 4 zGat w A gs) (hM : RowOf marV 7 zMar w B ms) (hD : IntsAt w Dl l) (hr : room < n) (hm : 0 ≤ minute ∧ minute ≤ E)
  (hso : ∀ m ∈ ms, soF E m (cameL n gs l room minute) = true) :
  Calls Tryz.prog 26 #[.agg (scnV n A gs.length c E B ms.length c2).toArray, .int .i64 (room : Int), .int .i64 minute, .slice Dl l.length cd] w fun e w' => e = .returned (.bool true) ∧ Below w.heap.size w w' := by
 have hll := okD_len hl
 have hg6 := hG.len
 have k1 : decide (minute < 0) = false := by simp; omega
 have k2 : decide (E < minute) = false := by simp; omega
 have k3 : (!decide ((l.length : Int) = (gs.length : Int))) = false := by simp [hll]
 refine x_calls (X := XNone) Tryz.func26 rfl rfl rfl ?_
 with_reducible ((repeat refine xc_seq ?_); refine xcR ?_)
 refine xo_box rfl rfl rfl rfl (fun b4 => ?_)
 refine xo_asg rfl rfl rfl ?_
 with_reducible (refine xo_nil ?_; (repeat first | refine xqT ?_ | refine xqB ?_ | refine xqS ?_); (repeat refine xc_seq ?_); refine xcR ?_)
 refine xo_mv rfl rfl rfl ?_
 refine xo_lss rfl rfl rfl rfl ?_
 refine xo_mv rfl rfl rfl ?_
 refine xo_as (i := 16) rfl (congrArg Value.bool k1) ?_
 (first | refine xo_not rfl rfl ?_ | refine xo_mv rfl rfl rfl ?_)
 (first | refine xo_not rfl rfl ?_ | refine xo_fa T_ rfl rfl rfl rfl rfl ?_)
 (first | refine xo_not rfl rfl ?_ | refine xo_load0 T_ rfl rfl rfl (by repeat first | exact mH | apply mT | apply mA) rfl rfl ?_)
 (first | refine xo_not rfl rfl ?_ | refine xo_gtr rfl rfl rfl rfl ?_)
 first | refine xo_pickT rfl rfl rfl rfl ?_ | refine xo_pickF rfl rfl rfl rfl ?_
 refine xo_mv rfl rfl rfl ?_
 refine xo_as (i := 22) rfl (congrArg Value.bool k2) ?_
 (first | refine xo_not rfl rfl ?_ | refine xo_mv rfl rfl rfl ?_)
 (first | refine xo_not rfl rfl ?_ | refine xo_len T_ rfl rfl rfl rfl ?_)
 (first | refine xo_not rfl rfl ?_ | refine xo_fa T_ rfl rfl rfl rfl rfl ?_)
 (first | refine xo_not rfl rfl ?_ | refine xo_load0 T_ rfl rfl rfl (by repeat first | exact mH | apply mT | apply mA) rfl rfl ?_)
 (first | refine xo_not rfl rfl ?_ | refine xo_len T_ rfl rfl rfl rfl ?_)
 (first | refine xo_not rfl rfl ?_ | refine xo_neq rfl rfl rfl rfl ?_)
 first | refine xo_pickT rfl rfl rfl rfl ?_ | refine xo_pickF rfl rfl rfl rfl ?_
 refine xo_as (i := 29) rfl (congrArg Value.bool k3) ?_
 with_reducible (refine xo_nil ?_; (repeat first | refine xqT ?_ | refine xqB ?_ | refine xqS ?_); (repeat refine xc_seq ?_))
 refine xc_condF rfl ?_
 with_reducible (refine xc_skip ?_; (repeat first | refine xqT ?_ | refine xqB ?_ | refine xqS ?_); (repeat refine xc_seq ?_); refine xcR ?_)
 refine xo_fa T_ rfl rfl rfl rfl rfl ?_
 refine xo_load0 T_ rfl rfl rfl (by repeat first | exact mH | apply mT | apply mA) rfl rfl ?_
 refine xo_len T_ rfl rfl rfl rfl ?_
 refine xo_mv rfl rfl rfl ?_
 with_reducible (refine xo_nil ?_; (repeat first | refine xqT ?_ | refine xqB ?_ | refine xqS ?_); (repeat refine xc_seq ?_); refine xc_block ?_)
 ·refine xc_loop (γ := Nat) (fun i => i ≤ gs.length) (fun i => [(1, .int .i64 (room : Int)), (2, .int .i64 minute), (3, .slice Dl l.length cd), (4, .pointer (some ⟨b4, 0, none⟩)), (31, .slice A gs.length c), (32, .int .i64 (gs.length : Int)), (33, .int .i64 (i : Int))]) (fun _ => [(b4, true, cel (scnV n A gs.length c E B ms.length c2) 25)]) (fun i => gs.length - i) 0 (Nat.zero_le _) ⟨rfl, rfl, rfl, rfl, rfl, rfl, rfl, trivial⟩ (List.Sublist.refl _) ?_
  intro i hi
  with_reducible ((repeat refine xc_seq ?_); refine xcR ?_)
  refine xo_lss rfl rfl rfl rfl ?_
  with_reducible (refine xo_nil ?_; (repeat first | refine xqT ?_ | refine xqB ?_ | refine xqS ?_); (repeat refine xc_seq ?_))
  refine xc_cond rfl (fun h => ?_) (fun h => ?_)
  ·have hlti : i < gs.length := by have := of_decide_eq_true h; omega
   obtain ⟨ad, rfl, q1⟩ := hA i hlti
   obtain ⟨adl, rfl, q2⟩ := hD i (by omega)
   have hli := okD_at hl i hlti
   generalize gs.getD i zGat = g at q1 hli
   generalize l.getD i 0 = x at q2 hli
   have j1 : decide (x < g.f2.f0) = false := by simp; omega
   have j2 : decide (g.f2.f1 < x) = false := by simp; omega
   with_reducible (refine xc_skip ?_; (repeat first | refine xqT ?_ | refine xqB ?_ | refine xqS ?_); (repeat refine xc_seq ?_); refine xc_block ?_; (repeat refine xc_seq ?_); refine xcR ?_)
   refine xo_mv rfl rfl rfl ?_
   refine xo_ia T_ rfl rfl rfl rfl rfl ⟨by omega, by omega⟩ rfl ?_
   refine xo_loadRN T_ rfl rfl rfl q1 rfl rfl ?_
   refine xo_alloc T_ rfl rfl rfl rfl (fun b10 => ?_)
   refine xo_asg rfl rfl rfl ?_
   refine xo_store T_ rfl rfl rfl rfl (by repeat first | exact mH | apply mT | apply mA) rfl rfl rfl rfl (by repeat first | exact Upd.head | apply Upd.tail | apply Upd.app) rfl ?_
   with_reducible (refine xo_nil ?_; (repeat first | refine xqT ?_ | refine xqB ?_ | refine xqS ?_))
   refine xc_slots [(1, .int .i64 (room : Int)), (2, .int .i64 minute), (3, .slice (some adl) l.length cd), (4, .pointer (some ⟨b4, 0, none⟩)), (9, .int .i64 (i : Int)), (10, .pointer (some ⟨b10, 0, none⟩)), (31, .slice (some ad) gs.length c), (32, .int .i64 (gs.length : Int)), (33, .int .i64 (i : Int))] ⟨rfl, rfl, rfl, rfl, rfl, rfl, rfl, rfl, rfl, trivial⟩ ?_
   with_reducible (repeat refine xc_seq ?_)
   apply xc_drawN
   ·exact T_.mixed
   ·rfl
   ·rfl
   ·rfl
   ·rfl
   ·apply DrawOps.cons
    ·intro τ
     refine xo_mv rfl rfl rfl ?_
     exact xo_fin rfl
    apply DrawOps.cons
    ·intro τ
     refine xo_mv rfl rfl rfl ?_
     exact xo_fin rfl
    apply DrawOps.cons
    ·intro τ
     refine xo_ia T_ rfl rfl rfl rfl rfl ⟨by omega, by omega⟩ rfl ?_
     exact xo_fin rfl
    apply DrawOps.cons
    ·intro τ
     refine xo_loadR0 T_ rfl rfl rfl q2 rfl ?_
     exact xo_fin rfl
    apply DrawOps.cons
    ·intro τ
     refine xo_fa T_ rfl rfl rfl rfl rfl ?_
     exact xo_fin rfl
    apply DrawOps.cons
    ·intro τ
     refine xo_fa T_ rfl rfl rfl rfl rfl ?_
     exact xo_fin rfl
    apply DrawOps.cons
    ·intro τ
     refine xo_load0 T_ rfl rfl rfl (by repeat first | exact mH | apply mT | apply mA) rfl rfl ?_
     exact xo_fin rfl
    apply DrawOps.cons
    ·intro τ
     refine xo_lss rfl rfl rfl rfl ?_
     first
      | exact xo_fin (congrArg Value.bool j1)
      | exact xo_fin rfl
    apply DrawOps.cons
    ·intro τ
     refine xo_mv rfl rfl rfl ?_
     exact xo_fin rfl
    apply DrawOps.cons
    ·intro τ
     (first | refine xo_not rfl rfl ?_ | refine xo_mv rfl rfl rfl ?_)
     exact xo_fin rfl
    apply DrawOps.cons
    ·intro τ
     (first | refine xo_not rfl rfl ?_ | refine xo_mv rfl rfl rfl ?_)
     exact xo_fin rfl
    apply DrawOps.cons
    ·intro τ
     (first | refine xo_not rfl rfl ?_ | refine xo_ia T_ rfl rfl rfl rfl rfl ⟨by omega, by omega⟩ rfl ?_)
     exact xo_fin rfl
    apply DrawOps.cons
    ·intro τ
     (first | refine xo_not rfl rfl ?_ | refine xo_loadR0 T_ rfl rfl rfl q2 rfl ?_)
     exact xo_fin rfl
    apply DrawOps.cons
    ·intro τ
     (first | refine xo_not rfl rfl ?_ | refine xo_fa T_ rfl rfl rfl rfl rfl ?_)
     exact xo_fin rfl
    apply DrawOps.cons
    ·intro τ
     (first | refine xo_not rfl rfl ?_ | refine xo_fa T_ rfl rfl rfl rfl rfl ?_)
     exact xo_fin rfl
    apply DrawOps.cons
    ·intro τ
     (first | refine xo_not rfl rfl ?_ | refine xo_load0 T_ rfl rfl rfl (by repeat first | exact mH | apply mT | apply mA) rfl rfl ?_)
     exact xo_fin rfl
    apply DrawOps.cons
    ·intro τ
     (first | refine xo_not rfl rfl ?_ | refine xo_gtr rfl rfl rfl rfl ?_)
     first
      | exact xo_fin (congrArg Value.bool j2)
      | exact xo_fin rfl
    apply DrawOps.cons
    ·intro τ
     first | refine xo_pickT rfl rfl rfl rfl ?_ | refine xo_pickF rfl rfl rfl rfl ?_
     exact xo_fin rfl
    exact DrawOps.nil
   ·rfl
   with_reducible ((repeat first | refine xqT ?_ | refine xqB ?_ | refine xqS ?_); (repeat refine xc_seq ?_))
   refine xc_condF rfl ?_
   with_reducible (refine xc_skip ?_; (repeat first | refine xqT ?_ | refine xqB ?_ | refine xqS ?_); (repeat refine xc_seq ?_); refine xcR ?_)
   refine xo_add rfl rfl rfl (by omega) rfl ?_
   refine xo_mv rfl rfl rfl ?_
   with_reducible (refine xo_nil ?_; (repeat first | refine xqT ?_ | refine xqB ?_ | refine xqS ?_))
   exact xq_again _ _ _ _ _ (i + 1) (by omega) (by omega) ⟨rfl, rfl, rfl, rfl, rfl, rfl, rfl, trivial⟩ (by repeat (first | exact List.Sublist.refl _ | apply List.Sublist.cons_cons | apply List.Sublist.cons | exact List.nil_sublist _))
  ·with_reducible refine xc_exit ?_
   with_reducible ((repeat (first | refine xq_blockX ?_ | refine xq_thenE ?_ | refine xq_blockE rfl ?_ | refine xq_scopeE ?_)); (repeat first | refine xqT ?_ | refine xqB ?_ | refine xqS ?_); (repeat refine xc_seq ?_); refine xcR ?_)
   refine xo_loadN T_ (b := b4) (wr := true) (cs := scnV n A gs.length c E B ms.length c2) (te := 25) rfl rfl rfl (by repeat first | exact mH | apply mT | apply mA) rfl rfl ?_
   refine xo_mv rfl rfl rfl ?_
   refine xo_mv rfl rfl rfl ?_
   refine xo_mv rfl rfl rfl ?_
   refine xo_call (fs := []) (cs := []) rfl rfl rfl comes_enters rfl (fun w1 hw1 => (comes_calls n E A B Dl c ms.length c2 cd gs l room minute w1 hn hG hl (hA.below hw1.kx.below) (RowOf.below hD hw1.kx.below) hr ⟨hm.1, by omega⟩).mono ?_)
   rintro e w2 ⟨b61, rfl, hz⟩
   refine ⟨_, _, rfl, hw1.join hz (fun e he => by rw [List.mem_singleton.1 he]), ?_⟩
   clear hz hw1
   refine xo_asg rfl rfl rfl ?_
   with_reducible (refine xo_nil ?_; (repeat first | refine xqT ?_ | refine xqB ?_ | refine xqS ?_))
   refine xc_slots [(4, .pointer (some ⟨b4, 0, none⟩)), (11, .slice (some ⟨b61, 0, none⟩) n n)] ⟨rfl, rfl, trivial⟩ ?_
   refine xc_anew fun w3 hw3 => ?_
   have hat : AtsAt w3 (some ⟨b61, 0, none⟩) n (cameL n gs l room minute) := atsAt_row (hw3.bl_of (fun e he => by rw [List.mem_singleton.1 he]; exact List.mem_cons_self))
   have h4 : RO w3 XNone ⟨b4, 0, none⟩ (scnV n A gs.length c E B ms.length c2) := hw3.ro (wr := true) (t := 25) (by repeat first | exact mH | apply mT | apply mA)
   have hM := hM.below hw3.kx.below
   have hci := came_in hn hG hl hr (minute := minute) ⟨hm.1, by omega⟩
   have hw3 := hw3.kx.below
   with_reducible ((repeat refine xc_seq ?_); refine xcR ?_)
   refine xo_fa T_ rfl rfl rfl rfl rfl ?_
   refine xo_loadR0 T_ rfl rfl rfl (RO.fldZ (v := .slice B ms.length c2) h4 rfl) rfl ?_
   refine xo_len T_ rfl rfl rfl rfl ?_
   refine xo_mv rfl rfl rfl ?_
   with_reducible (refine xo_nil ?_; (repeat first | refine xqT ?_ | refine xqB ?_ | refine xqS ?_); (repeat refine xc_seq ?_); refine xc_block ?_)
   ·refine xc_loop (γ := Nat) (fun i => i ≤ ms.length) (fun i => [(4, .pointer (some ⟨b4, 0, none⟩)), (11, .slice (some ⟨b61, 0, none⟩) n n), (63, .slice B ms.length c2), (64, .int .i64 (ms.length : Int)), (65, .int .i64 (i : Int))]) (fun _ => []) (fun i => ms.length - i) 0 (Nat.zero_le _) ⟨rfl, rfl, rfl, rfl, rfl, trivial⟩ (List.nil_sublist _) ?_
    intro i hi
    with_reducible ((repeat refine xc_seq ?_); refine xcR ?_)
    refine xo_lss rfl rfl rfl rfl ?_
    with_reducible (refine xo_nil ?_; (repeat first | refine xqT ?_ | refine xqB ?_ | refine xqS ?_); (repeat refine xc_seq ?_))
    refine xc_cond rfl (fun h => ?_) (fun h => ?_)
    ·have hlti : i < ms.length := by have := of_decide_eq_true h; omega
     obtain ⟨ad, rfl, q1⟩ := hM i hlti
     have hmi := hmk _ (getD_mem ms zMar i hlti)
     have hsi := hso _ (getD_mem ms zMar i hlti)
     generalize ms.getD i zMar = m at q1 hmi hsi
     have hns : (!soF E m (cameL n gs l room minute)) = false := by rw [hsi]; rfl
     with_reducible (refine xc_skip ?_; (repeat first | refine xqT ?_ | refine xqB ?_ | refine xqS ?_); (repeat refine xc_seq ?_); refine xc_block ?_; (repeat refine xc_seq ?_); refine xcR ?_)
     refine xo_ia T_ rfl rfl rfl rfl rfl ⟨by omega, by omega⟩ rfl ?_
     refine xo_loadRN T_ rfl rfl rfl q1 rfl rfl ?_
     refine xo_alloc T_ rfl rfl rfl rfl (fun b13 => ?_)
     refine xo_store T_ rfl rfl rfl rfl (by repeat first | exact mH | apply mT | apply mA) rfl rfl rfl rfl (by repeat first | exact Upd.head | apply Upd.tail | apply Upd.app) rfl ?_
     with_reducible (refine xo_nil ?_; (repeat first | refine xqT ?_ | refine xqB ?_ | refine xqS ?_); (repeat refine xc_seq ?_); refine xcR ?_)
     refine xo_loadRN T_ rfl rfl rfl h4 rfl rfl ?_
     refine xo_loadN T_ rfl rfl rfl (by repeat first | exact mH | apply mT | apply mA) rfl rfl ?_
     refine xo_mv rfl rfl rfl ?_
     refine xo_callB (fs := []) (cs := []) rfl rfl rfl so_enters rfl (fun w1 hw1 => so_calls n E A (some ad) (some ⟨b61, 0, none⟩) c c2 n n gs.length ms.length m (cameL n gs l room minute) w1 (RowOf.below hat hw1.kx.below) hmi.room hmi.other hE (hci _ (by have := hmi.room; omega))) ?_
     refine xo_notOp rfl rfl rfl ?_
     refine xo_as (i := 73) rfl (congrArg Value.bool hns) ?_
     with_reducible (refine xo_nil ?_; (repeat first | refine xqT ?_ | refine xqB ?_ | refine xqS ?_); (repeat refine xc_seq ?_))
     refine xc_condF rfl ?_
     with_reducible (refine xc_skip ?_; (repeat first | refine xqT ?_ | refine xqB ?_ | refine xqS ?_); (repeat refine xc_seq ?_); refine xcR ?_)
     refine xo_add rfl rfl rfl (by omega) rfl ?_
     refine xo_mv rfl rfl rfl ?_
     with_reducible (refine xo_nil ?_; (repeat first | refine xqT ?_ | refine xqB ?_ | refine xqS ?_))
     exact xq_again _ _ _ _ _ (i + 1) (by omega) (by omega) ⟨rfl, rfl, rfl, rfl, rfl, trivial⟩ (List.nil_sublist _)
    ·with_reducible refine xc_exit ?_
     with_reducible ((repeat (first | refine xq_blockX ?_ | refine xq_thenE ?_ | refine xq_blockE rfl ?_ | refine xq_scopeE ?_)); (repeat first | refine xqT ?_ | refine xqB ?_ | refine xqS ?_); (repeat refine xc_seq ?_); refine xcR ?_)
     refine xo_asg rfl rfl rfl ?_
     with_reducible (refine xo_nil ?_; (repeat first | refine xqT ?_ | refine xqB ?_ | refine xqS ?_); (repeat refine xc_seq ?_); refine xc_ret ?_; (repeat (first | refine xq_thenR ?_ | refine xq_blockR ?_ | refine xq_scopeR ?_)))
     exact xq_ret1 rfl rfl fun w' hw => ⟨rfl, below_step hw3 hw.kx.below⟩
theorem truth_enters : ∀ args w, (callFunc 26 args).run Tryz.prog w = .ok (.enter 26 args) w := enters_of Tryz.func26 (by kernel_rfl) rfl
end Go.Proofs.YtommeljlfkmpjaaGreatDoor
namespace Go.Proofs.YtommeljlfkmpjaaGreatDoor
open Go.RowKit Go.Proofs.YtommeljlfkmpjaaGreatDoorW.PrintWords
set_option linter.unusedVariables false
set_option linter.unusedSimpArgs false
set_option maxHeartbeats 16000000 in
theorem originTold_law (R E : Int) (A B : Option Addr) (c c2 : Nat) (gs : List GatT) (ms : List MarT) (which minute : Int) (w : World) (hA : Kd.C gatK w A gs.length gs) (hB : Kd.C marK w B ms.length ms) (hk : BytesK ms) (hwh : 0 ≤ which ∧ which ≤ 255) (hglob : GlobO w) :
  Calls Tryz.prog 4 #[.agg (scnV R A gs.length c E B ms.length c2).toArray, .int .u8 which, .int .i64 minute] w fun e w' => e = .returned (.bool true) ∧ Below w.heap.size w w' := by
 have hgr4 := gat_row hA
 have hmr7 := mar_row hB
 have hs : SceneAt w A B gs ms := ⟨hA, hB, hk, hglob⟩
 refine x_calls (X := XNone) Tryz.func4 rfl rfl rfl ?_
 with_reducible ((repeat refine xc_seq ?_); refine xcR ?_)
 refine xo_box rfl rfl rfl rfl (fun b3 => ?_)
 refine xo_asg rfl rfl rfl ?_
 with_reducible (refine xo_nil ?_; (repeat first | refine xqT ?_ | refine xqB ?_ | refine xqS ?_); (repeat refine xc_seq ?_); refine xcR ?_)
 refine xo_callB (fs := []) (cs := []) rfl rfl rfl alive_enters rfl (fun w1 hw1 => alive_calls w1 (hglob.below hw1.kx.below)) ?_
 refine xo_asg rfl rfl rfl ?_
 with_reducible (refine xo_nil ?_; (repeat first | refine xqT ?_ | refine xqB ?_ | refine xqS ?_); (repeat refine xc_seq ?_); refine xcR ?_)
 refine xo_mv rfl rfl rfl ?_
 refine xo_notOp rfl rfl rfl ?_
 with_reducible (refine xo_nil ?_; (repeat first | refine xqT ?_ | refine xqB ?_ | refine xqS ?_); (repeat refine xc_seq ?_))
 refine xc_condF rfl ?_
 with_reducible (refine xc_skip ?_; (repeat first | refine xqT ?_ | refine xqB ?_ | refine xqS ?_))
 cases hsc : sceneF R E gs ms
 ·with_reducible repeat refine xc_seq ?_
  with_reducible refine xcR ?_
  refine xo_loadN T_ rfl rfl rfl (by repeat first | exact mH | apply mT | apply mA) rfl rfl ?_
  refine xo_callB (fs := []) (cs := []) rfl rfl rfl ready_enters rfl (fun w1 hw1 => ready_calls R E A B c c2 gs ms w1 (hgr4.below hw1.kx.below) (hmr7.below hw1.kx.below)) ?_
  refine xo_as (i := 24) rfl (congrArg Value.bool hsc) ?_
  refine xo_notOp rfl rfl rfl ?_
  with_reducible (refine xo_nil ?_; (repeat first | refine xqT ?_ | refine xqB ?_ | refine xqS ?_); (repeat refine xc_seq ?_))
  refine xc_condT rfl ?_
  with_reducible ((repeat refine xc_seq ?_); refine xcR ?_)
  refine xo_mv rfl rfl rfl ?_
  refine xo_asg rfl rfl rfl ?_
  with_reducible (refine xo_nil ?_; (repeat first | refine xqT ?_ | refine xqB ?_ | refine xqS ?_); (repeat refine xc_seq ?_); refine xc_ret ?_; (repeat (first | refine xq_thenR ?_ | refine xq_blockR ?_ | refine xq_scopeR ?_)))
  exact xq_ret1 rfl rfl fun w' hw => ⟨rfl, hw.kx.below⟩
 obtain ⟨hR6, hE6, hG, hm8, _⟩ := sceneF_ok hsc
 have hg6 := hG.len
 with_reducible ((repeat refine xc_seq ?_); refine xcR ?_)
 refine xo_loadN T_ rfl rfl rfl (by repeat first | exact mH | apply mT | apply mA) rfl rfl ?_
 refine xo_callB (fs := []) (cs := []) rfl rfl rfl ready_enters rfl (fun w1 hw1 => ready_calls R E A B c c2 gs ms w1 (hgr4.below hw1.kx.below) (hmr7.below hw1.kx.below)) ?_
 refine xo_as (i := 24) rfl (congrArg Value.bool hsc) ?_
 refine xo_notOp rfl rfl rfl ?_
 with_reducible (refine xo_nil ?_; (repeat first | refine xqT ?_ | refine xqB ?_ | refine xqS ?_); (repeat refine xc_seq ?_))
 refine xc_condF rfl ?_
 with_reducible (refine xc_skip ?_; (repeat first | refine xqT ?_ | refine xqB ?_ | refine xqS ?_))
 have hrm : 0 ≤ which % R ∧ which % R < R := ⟨Int.emod_nonneg _ (by omega), Int.emod_lt_of_pos _ (by omega)⟩
 have hrOK : roomOK R (which % R) = true := inF_iff.2 ⟨hrm.1, by omega⟩
 with_reducible ((repeat refine xc_seq ?_); refine xcR ?_)
 refine xo_mv rfl rfl rfl ?_
 refine xo_conv T_ rfl rfl rfl rfl (IntWalk.i64_in _ ⟨by omega, by omega⟩) rfl ?_
 refine xo_fa T_ rfl rfl rfl rfl rfl ?_
 refine xo_load0 T_ rfl rfl rfl (by repeat first | exact mH | apply mT | apply mA) rfl rfl ?_
 refine xo_rem rfl rfl rfl (by omega) (by omega) rfl ?_
 refine xo_asg rfl rfl rfl ?_
 with_reducible (refine xo_nil ?_; (repeat first | refine xqT ?_ | refine xqB ?_ | refine xqS ?_))
 generalize which % R = room at hrm hrOK
 have hmc : minutesC R E gs ms room = 0 := by simp [minutesC, hsc, hrOK]
 have hck : checkF R E gs ms = 0 := by rw [checkF, if_pos hsc]
 with_reducible ((repeat refine xc_seq ?_); refine xcR ?_)
 refine xo_loadN T_ rfl rfl rfl (by repeat first | exact mH | apply mT | apply mA) rfl rfl ?_
 refine xo_mv rfl rfl rfl ?_
 refine xo_call (fs := []) (cs := []) rfl rfl rfl Minutes_enters rfl (fun w1 hw1 => (Minutes_calls R E A B c c2 gs ms room w1 (hs.below hw1.kx.below)).mono ?_)
 rw [hmc]
 rintro e w2 ⟨r9, rfl, hrw, hb⟩
 have hh9 := hrw.1
 refine ⟨_, _, rfl, hw1.rowZ hb hrw, ?_⟩
 clear hrw hb hw1
 refine xo_mv rfl rfl rfl ?_
 refine xo_ext rfl rfl rfl rfl ?_
 refine xo_ext rfl rfl rfl rfl ?_
 refine xo_asg rfl rfl rfl ?_
 refine xo_asg rfl rfl rfl ?_
 with_reducible (refine xo_nil ?_; (repeat first | refine xqT ?_ | refine xqB ?_ | refine xqS ?_); (repeat refine xc_seq ?_); refine xcR ?_)
 refine xo_loadN T_ rfl rfl rfl (by repeat first | exact mH | apply mT | apply mA) rfl rfl ?_
 refine xo_mv rfl rfl rfl ?_
 refine xo_mv rfl rfl rfl ?_
 refine xo_call (fs := []) (cs := []) rfl rfl rfl Truth_enters rfl (fun w1 hw1 => (Truth_calls R E A B c c2 gs ms room minute w1 (hs.below hw1.kx.below)).mono ?_)
 rintro e w2 ⟨r11, rfl, hrw, hb⟩
 have hh11 := hrw.1
 refine ⟨_, _, rfl, hw1.row hb hrw, ?_⟩
 clear hrw hb hw1
 refine xo_mv rfl rfl rfl ?_
 refine xo_ext rfl rfl rfl rfl ?_
 refine xo_ext rfl rfl rfl rfl ?_
 refine xo_asg rfl rfl rfl ?_
 refine xo_asg rfl rfl rfl ?_
 with_reducible (refine xo_nil ?_; (repeat first | refine xqT ?_ | refine xqB ?_ | refine xqS ?_); (repeat refine xc_seq ?_); refine xcR ?_)
 refine xo_loadN T_ rfl rfl rfl (by repeat first | exact mH | apply mT | apply mA) rfl rfl ?_
 refine xo_call (fs := []) (cs := []) rfl rfl rfl Rooms_enters rfl (fun w1 hw1 => (Rooms_calls R E A B c c2 gs ms w1 (hs.below hw1.kx.below)).mono ?_)
 rw [hck]
 rintro e w2 ⟨r13, rfl, hrw, hb⟩
 have hh13 := hrw.1
 refine ⟨_, _, rfl, hw1.row hb hrw, ?_⟩
 clear hrw hb hw1
 refine xo_mv rfl rfl rfl ?_
 refine xo_ext rfl rfl rfl rfl ?_
 refine xo_ext rfl rfl rfl rfl ?_
 refine xo_asg rfl rfl rfl ?_
 refine xo_asg rfl rfl rfl ?_
 with_reducible (refine xo_nil ?_; (repeat first | refine xqT ?_ | refine xqB ?_ | refine xqS ?_))
 have hlr : (roomsR R E gs ms).length = (intsN (roomsR R E gs ms)).length := by simp [intsN]
 rw [hlr]
 have hh9 : r9 = none → (minutesL R E gs ms room).length = 0 := hh9
 have hh11 : r11 = none → (truthL R E gs ms room minute).length = 0 := fun q => by rw [hh11 q]; rfl
 have hh13 : r13 = none → (intsN (roomsR R E gs ms)).length = 0 := fun q => by rw [hh13 q]; rfl
 refine xc_slots [(2, .int .i64 minute), (3, .pointer (some ⟨b3, 0, none⟩)), (7, .bool true), (8, .int .i64 room), (9, .slice (valA r9) (minutesL R E gs ms room).length (valC r9)), (10, .int .i64 0), (11, .slice (valA r11) (truthL R E gs ms room minute).length (valC r11)), (12, .int .i64 (truthC R E gs ms room minute)), (13, .slice (valA r13) (intsN (roomsR R E gs ms)).length (valC r13)), (14, .int .i64 0)] ⟨rfl, rfl, rfl, rfl, congrArg some (valR_eq hh9), rfl, congrArg some (valR_eq hh11), rfl, congrArg some (valR_eq hh13), rfl, trivial⟩ ?_
 refine xc_anew fun w3 hw3 => ?_
 have h9 : SpansAt w3 (valA r9) (minutesL R E gs ms room) := spansAt_row (hw3.bl_of (fun e he => by repeat (first | exact he | exact List.mem_append_left _ he | apply List.mem_append_right | apply List.Mem.tail))) hh9
 have h11 : IntsAt w3 (valA r11) (truthL R E gs ms room minute) := intsAt_row (hw3.bl_of (fun e he => by repeat (first | exact he | exact List.mem_append_left _ he | apply List.mem_append_right | apply List.Mem.tail))) hh11
 have h13 : IntsAt w3 (valA r13) (intsN (roomsR R E gs ms)) := intsAt_row (hw3.bl_of (fun e he => by repeat (first | exact he | exact List.mem_append_left _ he | apply List.mem_append_right | apply List.Mem.tail))) hh13
 have h3 : RO w3 XNone ⟨b3, 0, none⟩ (scnV R A gs.length c E B ms.length c2) := hw3.ro (wr := true) (t := 25) (by repeat first | exact mH | apply mT | apply mA)
 have hbl := hw3.kx.below
 have hgr4 := hgr4.below hbl
 have hmr7 := hmr7.below hbl
 generalize valA r9 = A9 at h9 ⊢
 generalize valC r9 = c9
 generalize valA r11 = A11 at h11 ⊢
 generalize valC r11 = c11
 generalize valA r13 = A13 at h13 ⊢
 generalize valC r13 = c13
 clear hh9 hh11 hh13
 have hl9 : (minutesL R E gs ms room).length ≤ 601 := minutes_few hE6
 have hl13 : (intsN (roomsR R E gs ms)).length ≤ 6 := by
  rw [← hlr, roomsR, if_pos hsc]
  have := roomsN_len E R.toNat gs ms
  omega
 have hsp := fun (k : Nat) (hk : k < (minutesL R E gs ms room).length) => spans_told hsc hrOK hk
 have hrt := fun (k : Nat) (hk : k < (intsN (roomsR R E gs ms)).length) => rooms_told hk
 have hins := inside_truth (z := minute) hsc hrOK
 have htr := truth_is (z := minute) hsc hrOK
 have hlist := room_listed (R := R) (E := E) (gs := gs) (ms := ms) hsc hrm
 have hnone := minutes_none (ms := ms) hsc hrOK
 generalize minutesL R E gs ms room = L at h9 hl9 hsp hins hnone ⊢
 generalize intsN (roomsR R E gs ms) = Q at h13 hl13 hrt hlist ⊢
 with_reducible ((repeat refine xc_seq ?_); refine xcR ?_)
 refine xo_mv rfl rfl rfl ?_
 refine xo_neq rfl rfl rfl rfl ?_
 refine xo_mv rfl rfl rfl ?_
 (first | refine xo_not rfl rfl ?_ | refine xo_mv rfl rfl rfl ?_)
 (first | refine xo_not rfl rfl ?_ | refine xo_neq rfl rfl rfl rfl ?_)
 first | refine xo_pickT rfl rfl rfl rfl ?_ | refine xo_pickF rfl rfl rfl rfl ?_
 with_reducible (refine xo_nil ?_; (repeat first | refine xqT ?_ | refine xqB ?_ | refine xqS ?_); (repeat refine xc_seq ?_))
 refine xc_condF rfl ?_
 with_reducible (refine xc_skip ?_; (repeat first | refine xqT ?_ | refine xqB ?_ | refine xqS ?_); (repeat refine xc_seq ?_); refine xcR ?_)
 refine xo_mv rfl rfl rfl ?_
 refine xo_len T_ rfl rfl rfl rfl ?_
 refine xo_mv rfl rfl rfl ?_
 with_reducible (refine xo_nil ?_; (repeat first | refine xqT ?_ | refine xqB ?_ | refine xqS ?_); (repeat refine xc_seq ?_); refine xc_block ?_)
 ·refine xc_loop (γ := Nat) (fun k => k ≤ L.length) (fun k => [(2, .int .i64 minute), (3, .pointer (some ⟨b3, 0, none⟩)), (7, .bool true), (8, .int .i64 room), (9, .slice A9 L.length c9), (11, .slice A11 (truthL R E gs ms room minute).length c11), (12, .int .i64 (truthC R E gs ms room minute)), (13, .slice A13 Q.length c13), (56, .slice A9 L.length c9), (57, .int .i64 (L.length : Int)), (58, .int .i64 (k : Int))]) (fun _ => []) (fun k => L.length - k) 0 (Nat.zero_le _) ⟨rfl, rfl, rfl, rfl, rfl, rfl, rfl, rfl, rfl, rfl, rfl, trivial⟩ (List.nil_sublist _) ?_
  intro k hkl
  with_reducible ((repeat refine xc_seq ?_); refine xcR ?_)
  refine xo_lss rfl rfl rfl rfl ?_
  with_reducible (refine xo_nil ?_; (repeat first | refine xqT ?_ | refine xqB ?_ | refine xqS ?_); (repeat refine xc_seq ?_))
  refine xc_cond rfl (fun h => ?_) (fun h => ?_)
  ·have hlt : k < L.length := by have := of_decide_eq_true h; omega
   obtain ⟨ad, rfl, q1⟩ := h9 k hlt
   obtain ⟨s1, s2, s3, s4⟩ := hsp k hlt
   have q2 := fun (h0 : 0 < k) => h9 (k - 1) (by omega)
   generalize L.getD k zSpa = x at q1 s1 s2 s3 s4
   have j1 : decide (x.f0 < 0) = false := by simp; omega
   have j2 : decide (x.f1 < x.f0) = false := by simp; omega
   have j3 : decide (E < x.f1) = false := by simp; omega
   with_reducible (refine xc_skip ?_; (repeat first | refine xqT ?_ | refine xqB ?_ | refine xqS ?_); (repeat refine xc_seq ?_); refine xc_block ?_; (repeat refine xc_seq ?_); refine xcR ?_)
   refine xo_mv rfl rfl rfl ?_
   refine xo_ia T_ rfl rfl rfl rfl rfl ⟨by omega, by omega⟩ rfl ?_
   refine xo_loadRN T_ rfl rfl rfl q1 rfl rfl ?_
   refine xo_alloc T_ rfl rfl rfl rfl (fun b16 => ?_)
   refine xo_asg rfl rfl rfl ?_
   refine xo_store T_ rfl rfl rfl rfl (by repeat first | exact mH | apply mT | apply mA) rfl rfl rfl rfl (by repeat first | exact Upd.head | apply Upd.tail | apply Upd.app) rfl ?_
   with_reducible (refine xo_nil ?_; (repeat first | refine xqT ?_ | refine xqB ?_ | refine xqS ?_))
   refine xc_slots [(2, .int .i64 minute), (3, .pointer (some ⟨b3, 0, none⟩)), (7, .bool true), (8, .int .i64 room), (9, .slice (some ad) L.length c9), (11, .slice A11 (truthL R E gs ms room minute).length c11), (12, .int .i64 (truthC R E gs ms room minute)), (13, .slice A13 Q.length c13), (15, .int .i64 (k : Int)), (16, .pointer (some ⟨b16, 0, none⟩)), (56, .slice (some ad) L.length c9), (57, .int .i64 (L.length : Int)), (58, .int .i64 (k : Int))] ⟨rfl, rfl, rfl, rfl, rfl, rfl, rfl, rfl, rfl, rfl, rfl, rfl, rfl, trivial⟩ ?_
   rcases Nat.eq_zero_or_pos k with h0 | h0
   ·have j4 : decide (0 < (k : Int)) = false := by simp; omega
    with_reducible (repeat refine xc_seq ?_)
    apply xc_drawN
    ·exact T_.mixed
    ·rfl
    ·rfl
    ·rfl
    ·rfl
    ·apply DrawOps.cons
     ·intro τ
      refine xo_fa T_ rfl rfl rfl rfl rfl ?_
      exact xo_fin rfl
     apply DrawOps.cons
     ·intro τ
      refine xo_load0 T_ rfl rfl rfl (by repeat first | exact mH | apply mT | apply mA) rfl rfl ?_
      exact xo_fin rfl
     apply DrawOps.cons
     ·intro τ
      refine xo_lss rfl rfl rfl rfl ?_
      first
       | exact xo_fin (congrArg Value.bool j1)
       | exact xo_fin rfl
     apply DrawOps.cons
     ·intro τ
      refine xo_mv rfl rfl rfl ?_
      exact xo_fin rfl
     apply DrawOps.cons
     ·intro τ
      (first | refine xo_not rfl rfl ?_ | refine xo_fa T_ rfl rfl rfl rfl rfl ?_)
      exact xo_fin rfl
     apply DrawOps.cons
     ·intro τ
      (first | refine xo_not rfl rfl ?_ | refine xo_load0 T_ rfl rfl rfl (by repeat first | exact mH | apply mT | apply mA) rfl rfl ?_)
      exact xo_fin rfl
     apply DrawOps.cons
     ·intro τ
      (first | refine xo_not rfl rfl ?_ | refine xo_fa T_ rfl rfl rfl rfl rfl ?_)
      exact xo_fin rfl
     apply DrawOps.cons
     ·intro τ
      (first | refine xo_not rfl rfl ?_ | refine xo_load0 T_ rfl rfl rfl (by repeat first | exact mH | apply mT | apply mA) rfl rfl ?_)
      exact xo_fin rfl
     apply DrawOps.cons
     ·intro τ
      (first | refine xo_not rfl rfl ?_ | refine xo_gtr rfl rfl rfl rfl ?_)
      first
       | exact xo_fin (congrArg Value.bool j2)
       | exact xo_fin rfl
     apply DrawOps.cons
     ·intro τ
      first | refine xo_pickT rfl rfl rfl rfl ?_ | refine xo_pickF rfl rfl rfl rfl ?_
      exact xo_fin rfl
     apply DrawOps.cons
     ·intro τ
      refine xo_mv rfl rfl rfl ?_
      exact xo_fin rfl
     apply DrawOps.cons
     ·intro τ
      (first | refine xo_not rfl rfl ?_ | refine xo_fa T_ rfl rfl rfl rfl rfl ?_)
      exact xo_fin rfl
     apply DrawOps.cons
     ·intro τ
      (first | refine xo_not rfl rfl ?_ | refine xo_load0 T_ rfl rfl rfl (by repeat first | exact mH | apply mT | apply mA) rfl rfl ?_)
      exact xo_fin rfl
     apply DrawOps.cons
     ·intro τ
      (first | refine xo_not rfl rfl ?_ | refine xo_fa T_ rfl rfl rfl rfl rfl ?_)
      exact xo_fin rfl
     apply DrawOps.cons
     ·intro τ
      (first | refine xo_not rfl rfl ?_ | refine xo_loadR0 T_ rfl rfl rfl (RO.fldZ (v := .int .i64 E) h3 rfl) rfl ?_)
      exact xo_fin rfl
     apply DrawOps.cons
     ·intro τ
      (first | refine xo_not rfl rfl ?_ | refine xo_gtr rfl rfl rfl rfl ?_)
      first
       | exact xo_fin (congrArg Value.bool j3)
       | exact xo_fin rfl
     apply DrawOps.cons
     ·intro τ
      first | refine xo_pickT rfl rfl rfl rfl ?_ | refine xo_pickF rfl rfl rfl rfl ?_
      exact xo_fin rfl
     apply DrawOps.cons
     ·intro τ
      refine xo_mv rfl rfl rfl ?_
      exact xo_fin rfl
     apply DrawOps.cons
     ·intro τ
      (first | refine xo_not rfl rfl ?_ | refine xo_mv rfl rfl rfl ?_)
      exact xo_fin rfl
     apply DrawOps.cons
     ·intro τ
      (first | refine xo_not rfl rfl ?_ | refine xo_gtr rfl rfl rfl rfl ?_)
      first
       | exact xo_fin (congrArg Value.bool j4)
       | exact xo_fin rfl
     apply DrawOps.cons
     ·intro τ
      (first | refine xo_not rfl rfl ?_ | refine xo_mv rfl rfl rfl ?_)
      exact xo_fin rfl
     apply DrawOps.cons
     ·intro τ
      (first | refine xo_not rfl rfl ?_ | refine xo_fa T_ rfl rfl rfl rfl rfl ?_)
      exact xo_fin rfl
     apply DrawOps.cons
     ·intro τ
      (first | refine xo_not rfl rfl ?_ | refine xo_load0 T_ rfl rfl rfl (by repeat first | exact mH | apply mT | apply mA) rfl rfl ?_)
      exact xo_fin rfl
     apply DrawOps.cons
     ·intro τ
      (first | refine xo_not rfl rfl ?_ | refine xo_mv rfl rfl rfl ?_)
      exact xo_fin rfl
     apply DrawOps.cons
     ·intro τ
      (first | refine xo_not rfl rfl ?_ | refine xo_mv rfl rfl rfl ?_)
      exact xo_fin rfl
     apply DrawOps.cons
     ·intro τ
      (first | refine xo_not rfl rfl ?_ | refine xo_sub rfl rfl rfl (by omega) rfl ?_)
      exact xo_fin rfl
     apply DrawOps.cons
     ·intro τ
      (first | refine xo_not rfl rfl ?_ | refine xo_ia T_ rfl rfl rfl rfl rfl ⟨by omega, by omega⟩ rfl ?_)
      exact xo_fin rfl
     apply DrawOps.cons
     ·intro τ
      (first | refine xo_not rfl rfl ?_ | refine xo_faR T_ rfl rfl rfl rfl rfl ?_)
      exact xo_fin rfl
     apply DrawOps.cons
     ·intro τ
      (first | refine xo_not rfl rfl ?_ | refine xo_loadR0 T_ rfl rfl rfl (by first | assumption | exact RO.fld (by assumption) rfl) rfl ?_)
      exact xo_fin rfl
     apply DrawOps.cons
     ·intro τ
      (first | refine xo_not rfl rfl ?_ | refine xo_add rfl rfl rfl (by omega) rfl ?_)
      exact xo_fin rfl
     apply DrawOps.cons
     ·intro τ
      (first | refine xo_not rfl rfl ?_ | refine xo_leq rfl rfl rfl rfl ?_)
      exact xo_fin rfl
     apply DrawOps.cons
     ·intro τ
      (first | refine xo_not rfl rfl ?_ | (first | refine xo_pickT rfl rfl rfl rfl ?_ | refine xo_pickF rfl rfl rfl rfl ?_))
      exact xo_fin rfl
     apply DrawOps.cons
     ·intro τ
      first | refine xo_pickT rfl rfl rfl rfl ?_ | refine xo_pickF rfl rfl rfl rfl ?_
      exact xo_fin rfl
     exact DrawOps.nil
    ·rfl
    with_reducible ((repeat first | refine xqT ?_ | refine xqB ?_ | refine xqS ?_); (repeat refine xc_seq ?_))
    refine xc_condF rfl ?_
    with_reducible (refine xc_skip ?_; (repeat first | refine xqT ?_ | refine xqB ?_ | refine xqS ?_); (repeat refine xc_seq ?_); refine xcR ?_)
    refine xo_add rfl rfl rfl (by omega) rfl ?_
    refine xo_mv rfl rfl rfl ?_
    with_reducible (refine xo_nil ?_; (repeat first | refine xqT ?_ | refine xqB ?_ | refine xqS ?_))
    exact xq_again _ _ _ _ _ (k + 1) hlt (by omega) ⟨rfl, rfl, rfl, rfl, rfl, rfl, rfl, rfl, rfl, rfl, rfl, trivial⟩ (List.nil_sublist _)
   ·have j4 : decide (0 < (k : Int)) = true := by simp; omega
    obtain ⟨ad', e1, q2⟩ := q2 h0
    obtain rfl := Option.some.inj e1
    have s4 := s4 h0
    obtain ⟨y1, y2, y3, _⟩ := hsp (k - 1) (by omega)
    generalize L.getD (k - 1) zSpa = y at q2 s4 y1 y2 y3
    rw [show (((k - 1 : Nat) : Int)).toNat = ((k : Int) - 1).toNat by omega] at q2
    have j5 : decide (x.f0 ≤ y.f1 + 1) = false := by simp; omega
    with_reducible (repeat refine xc_seq ?_)
    apply xc_drawN
    ·exact T_.mixed
    ·rfl
    ·rfl
    ·rfl
    ·rfl
    ·apply DrawOps.cons
     ·intro τ
      refine xo_fa T_ rfl rfl rfl rfl rfl ?_
      exact xo_fin rfl
     apply DrawOps.cons
     ·intro τ
      refine xo_load0 T_ rfl rfl rfl (by repeat first | exact mH | apply mT | apply mA) rfl rfl ?_
      exact xo_fin rfl
     apply DrawOps.cons
     ·intro τ
      refine xo_lss rfl rfl rfl rfl ?_
      first
       | exact xo_fin (congrArg Value.bool j1)
       | exact xo_fin rfl
     apply DrawOps.cons
     ·intro τ
      refine xo_mv rfl rfl rfl ?_
      exact xo_fin rfl
     apply DrawOps.cons
     ·intro τ
      (first | refine xo_not rfl rfl ?_ | refine xo_fa T_ rfl rfl rfl rfl rfl ?_)
      exact xo_fin rfl
     apply DrawOps.cons
     ·intro τ
      (first | refine xo_not rfl rfl ?_ | refine xo_load0 T_ rfl rfl rfl (by repeat first | exact mH | apply mT | apply mA) rfl rfl ?_)
      exact xo_fin rfl
     apply DrawOps.cons
     ·intro τ
      (first | refine xo_not rfl rfl ?_ | refine xo_fa T_ rfl rfl rfl rfl rfl ?_)
      exact xo_fin rfl
     apply DrawOps.cons
     ·intro τ
      (first | refine xo_not rfl rfl ?_ | refine xo_load0 T_ rfl rfl rfl (by repeat first | exact mH | apply mT | apply mA) rfl rfl ?_)
      exact xo_fin rfl
     apply DrawOps.cons
     ·intro τ
      (first | refine xo_not rfl rfl ?_ | refine xo_gtr rfl rfl rfl rfl ?_)
      first
       | exact xo_fin (congrArg Value.bool j2)
       | exact xo_fin rfl
     apply DrawOps.cons
     ·intro τ
      first | refine xo_pickT rfl rfl rfl rfl ?_ | refine xo_pickF rfl rfl rfl rfl ?_
      exact xo_fin rfl
     apply DrawOps.cons
     ·intro τ
      refine xo_mv rfl rfl rfl ?_
      exact xo_fin rfl
     apply DrawOps.cons
     ·intro τ
      (first | refine xo_not rfl rfl ?_ | refine xo_fa T_ rfl rfl rfl rfl rfl ?_)
      exact xo_fin rfl
     apply DrawOps.cons
     ·intro τ
      (first | refine xo_not rfl rfl ?_ | refine xo_load0 T_ rfl rfl rfl (by repeat first | exact mH | apply mT | apply mA) rfl rfl ?_)
      exact xo_fin rfl
     apply DrawOps.cons
     ·intro τ
      (first | refine xo_not rfl rfl ?_ | refine xo_fa T_ rfl rfl rfl rfl rfl ?_)
      exact xo_fin rfl
     apply DrawOps.cons
     ·intro τ
      (first | refine xo_not rfl rfl ?_ | refine xo_loadR0 T_ rfl rfl rfl (RO.fldZ (v := .int .i64 E) h3 rfl) rfl ?_)
      exact xo_fin rfl
     apply DrawOps.cons
     ·intro τ
      (first | refine xo_not rfl rfl ?_ | refine xo_gtr rfl rfl rfl rfl ?_)
      first
       | exact xo_fin (congrArg Value.bool j3)
       | exact xo_fin rfl
     apply DrawOps.cons
     ·intro τ
      first | refine xo_pickT rfl rfl rfl rfl ?_ | refine xo_pickF rfl rfl rfl rfl ?_
      exact xo_fin rfl
     apply DrawOps.cons
     ·intro τ
      refine xo_mv rfl rfl rfl ?_
      exact xo_fin rfl
     apply DrawOps.cons
     ·intro τ
      (first | refine xo_not rfl rfl ?_ | refine xo_mv rfl rfl rfl ?_)
      exact xo_fin rfl
     apply DrawOps.cons
     ·intro τ
      (first | refine xo_not rfl rfl ?_ | refine xo_gtr rfl rfl rfl rfl ?_)
      first
       | exact xo_fin (congrArg Value.bool j4)
       | exact xo_fin rfl
     apply DrawOps.cons
     ·intro τ
      (first | refine xo_not rfl rfl ?_ | refine xo_mv rfl rfl rfl ?_)
      exact xo_fin rfl
     apply DrawOps.cons
     ·intro τ
      (first | refine xo_not rfl rfl ?_ | refine xo_fa T_ rfl rfl rfl rfl rfl ?_)
      exact xo_fin rfl
     apply DrawOps.cons
     ·intro τ
      (first | refine xo_not rfl rfl ?_ | refine xo_load0 T_ rfl rfl rfl (by repeat first | exact mH | apply mT | apply mA) rfl rfl ?_)
      exact xo_fin rfl
     apply DrawOps.cons
     ·intro τ
      (first | refine xo_not rfl rfl ?_ | refine xo_mv rfl rfl rfl ?_)
      exact xo_fin rfl
     apply DrawOps.cons
     ·intro τ
      (first | refine xo_not rfl rfl ?_ | refine xo_mv rfl rfl rfl ?_)
      exact xo_fin rfl
     apply DrawOps.cons
     ·intro τ
      (first | refine xo_not rfl rfl ?_ | refine xo_sub rfl rfl rfl (by omega) rfl ?_)
      exact xo_fin rfl
     apply DrawOps.cons
     ·intro τ
      (first | refine xo_not rfl rfl ?_ | refine xo_ia T_ rfl rfl rfl rfl rfl ⟨by omega, by omega⟩ rfl ?_)
      exact xo_fin rfl
     apply DrawOps.cons
     ·intro τ
      (first | refine xo_not rfl rfl ?_ | refine xo_faR T_ rfl rfl rfl rfl rfl ?_)
      exact xo_fin rfl
     apply DrawOps.cons
     ·intro τ
      (first | refine xo_not rfl rfl ?_ | refine xo_loadR0 T_ rfl rfl rfl (RO.fld (v := .int .i64 y.f1) q2 rfl) rfl ?_)
      exact xo_fin rfl
     apply DrawOps.cons
     ·intro τ
      (first | refine xo_not rfl rfl ?_ | refine xo_add rfl rfl rfl (by omega) rfl ?_)
      exact xo_fin rfl
     apply DrawOps.cons
     ·intro τ
      (first | refine xo_not rfl rfl ?_ | refine xo_leq rfl rfl rfl rfl ?_)
      first
       | exact xo_fin (congrArg Value.bool j5)
       | exact xo_fin rfl
     apply DrawOps.cons
     ·intro τ
      (first | refine xo_not rfl rfl ?_ | (first | refine xo_pickT rfl rfl rfl rfl ?_ | refine xo_pickF rfl rfl rfl rfl ?_))
      exact xo_fin rfl
     apply DrawOps.cons
     ·intro τ
      first | refine xo_pickT rfl rfl rfl rfl ?_ | refine xo_pickF rfl rfl rfl rfl ?_
      exact xo_fin rfl
     exact DrawOps.nil
    ·rfl
    with_reducible ((repeat first | refine xqT ?_ | refine xqB ?_ | refine xqS ?_); (repeat refine xc_seq ?_))
    refine xc_condF rfl ?_
    with_reducible (refine xc_skip ?_; (repeat first | refine xqT ?_ | refine xqB ?_ | refine xqS ?_); (repeat refine xc_seq ?_); refine xcR ?_)
    refine xo_add rfl rfl rfl (by omega) rfl ?_
    refine xo_mv rfl rfl rfl ?_
    with_reducible (refine xo_nil ?_; (repeat first | refine xqT ?_ | refine xqB ?_ | refine xqS ?_))
    exact xq_again _ _ _ _ _ (k + 1) hlt (by omega) ⟨rfl, rfl, rfl, rfl, rfl, rfl, rfl, rfl, rfl, rfl, rfl, trivial⟩ (List.nil_sublist _)
  ·with_reducible refine xc_exit ?_
   with_reducible ((repeat (first | refine xq_blockX ?_ | refine xq_thenE ?_ | refine xq_blockE rfl ?_ | refine xq_scopeE ?_)); (repeat first | refine xqT ?_ | refine xqB ?_ | refine xqS ?_); (repeat refine xc_seq ?_); refine xcR ?_)
   refine xo_asg rfl rfl rfl ?_
   with_reducible (refine xo_nil ?_; (repeat first | refine xqT ?_ | refine xqB ?_ | refine xqS ?_); (repeat refine xc_seq ?_); refine xcR ?_)
   refine xo_mv rfl rfl rfl ?_
   refine xo_len T_ rfl rfl rfl rfl ?_
   refine xo_mv rfl rfl rfl ?_
   with_reducible (refine xo_nil ?_; (repeat first | refine xqT ?_ | refine xqB ?_ | refine xqS ?_); (repeat refine xc_seq ?_); refine xc_block ?_)
   ·refine xc_loop (γ := Nat) (fun k => k ≤ Q.length) (fun k => [(2, .int .i64 minute), (3, .pointer (some ⟨b3, 0, none⟩)), (7, .bool true), (8, .int .i64 room), (9, .slice A9 L.length c9), (11, .slice A11 (truthL R E gs ms room minute).length c11), (12, .int .i64 (truthC R E gs ms room minute)), (13, .slice A13 Q.length c13), (17, .bool (isK Q room k)), (97, .slice A13 Q.length c13), (98, .int .i64 (Q.length : Int)), (99, .int .i64 (k : Int))]) (fun _ => []) (fun k => Q.length - k) 0 (Nat.zero_le _) ⟨rfl, rfl, rfl, rfl, rfl, rfl, rfl, rfl, rfl, rfl, rfl, rfl, trivial⟩ (List.nil_sublist _) ?_
    intro k hkl
    with_reducible ((repeat refine xc_seq ?_); refine xcR ?_)
    refine xo_lss rfl rfl rfl rfl ?_
    with_reducible (refine xo_nil ?_; (repeat first | refine xqT ?_ | refine xqB ?_ | refine xqS ?_); (repeat refine xc_seq ?_))
    refine xc_cond rfl (fun h => ?_) (fun h => ?_)
    ·have hlt : k < Q.length := by have := of_decide_eq_true h; omega
     obtain ⟨ad, rfl, q1⟩ := h13 k hlt
     obtain ⟨s1, s2, s3⟩ := hrt k hlt
     have q2 := fun (h0 : 0 < k) => h13 (k - 1) (by omega)
     have hsu := isK_succ Q room hlt
     generalize Q.getD k 0 = x at q1 s1 s2 s3 hsu
     have j1 : decide (x < 0) = false := by simp; omega
     have j2 : decide (R ≤ x) = false := by simp; omega
     with_reducible (refine xc_skip ?_; (repeat first | refine xqT ?_ | refine xqB ?_ | refine xqS ?_); (repeat refine xc_seq ?_); refine xc_block ?_; (repeat refine xc_seq ?_); refine xcR ?_)
     refine xo_mv rfl rfl rfl ?_
     refine xo_ia T_ rfl rfl rfl rfl rfl ⟨by omega, by omega⟩ rfl ?_
     refine xo_loadR0 T_ rfl rfl rfl q1 rfl ?_
     refine xo_asg rfl rfl rfl ?_
     refine xo_asg rfl rfl rfl ?_
     with_reducible (refine xo_nil ?_; (repeat first | refine xqT ?_ | refine xqB ?_ | refine xqS ?_))
     refine xc_slots [(2, .int .i64 minute), (3, .pointer (some ⟨b3, 0, none⟩)), (7, .bool true), (8, .int .i64 room), (9, .slice A9 L.length c9), (11, .slice A11 (truthL R E gs ms room minute).length c11), (12, .int .i64 (truthC R E gs ms room minute)), (13, .slice (some ad) Q.length c13), (17, .bool (isK Q room k)), (18, .int .i64 (k : Int)), (19, .int .i64 x), (97, .slice (some ad) Q.length c13), (98, .int .i64 (Q.length : Int)), (99, .int .i64 (k : Int))] ⟨rfl, rfl, rfl, rfl, rfl, rfl, rfl, rfl, rfl, rfl, rfl, rfl, rfl, rfl, trivial⟩ ?_
     with_reducible (repeat refine xc_seq ?_)
     refine xc_meet2 (γ := Unit) (fun _ => True) (fun _ => [(2, .int .i64 minute), (3, .pointer (some ⟨b3, 0, none⟩)), (7, .bool true), (8, .int .i64 room), (9, .slice A9 L.length c9), (11, .slice A11 (truthL R E gs ms room minute).length c11), (12, .int .i64 (truthC R E gs ms room minute)), (13, .slice (some ad) Q.length c13), (17, .bool (isK Q room k)), (19, .int .i64 x), (97, .slice (some ad) Q.length c13), (98, .int .i64 (Q.length : Int)), (99, .int .i64 (k : Int)), (124, .bool false)]) (fun _ => []) ?_ (fun _ _ => ?_)
     ·rcases Nat.eq_zero_or_pos k with h0 | h0
      ·have j4 : decide (0 < (k : Int)) = false := by simp; omega
       with_reducible ((repeat refine xc_seq ?_); refine xcR ?_)
       refine xo_mv rfl rfl rfl ?_
       refine xo_lss rfl rfl rfl rfl ?_
       refine xo_mv rfl rfl rfl ?_
       refine xo_as (i := 106) rfl (congrArg Value.bool j1) ?_
       (first | refine xo_not rfl rfl ?_ | refine xo_mv rfl rfl rfl ?_)
       (first | refine xo_not rfl rfl ?_ | refine xo_fa T_ rfl rfl rfl rfl rfl ?_)
       (first | refine xo_not rfl rfl ?_ | refine xo_loadR0 T_ rfl rfl rfl (RO.fldZ (v := .int .i64 R) h3 rfl) rfl ?_)
       (first | refine xo_not rfl rfl ?_ | refine xo_geq rfl rfl rfl rfl ?_)
       first | refine xo_pickT rfl rfl rfl rfl ?_ | refine xo_pickF rfl rfl rfl rfl ?_
       refine xo_mv rfl rfl rfl ?_
       refine xo_as (i := 112) rfl (congrArg Value.bool j2) ?_
       (first | refine xo_not rfl rfl ?_ | refine xo_mv rfl rfl rfl ?_)
       (first | refine xo_not rfl rfl ?_ | refine xo_gtr rfl rfl rfl rfl ?_)
       (first | refine xo_not rfl rfl ?_ | refine xo_mv rfl rfl rfl ?_)
       refine xo_as (i := 115) rfl (congrArg Value.bool j4) ?_
       (first | refine xo_not rfl rfl ?_ | refine xo_mv rfl rfl rfl ?_)
       (first | refine xo_not rfl rfl ?_ | refine xo_mv rfl rfl rfl ?_)
       (first | refine xo_not rfl rfl ?_ | refine xo_mv rfl rfl rfl ?_)
       (first | refine xo_not rfl rfl ?_ | refine xo_sub rfl rfl rfl (by omega) rfl ?_)
       (first | refine xo_not rfl rfl ?_ | refine xo_ia T_ rfl rfl rfl rfl rfl ⟨by omega, by omega⟩ rfl ?_)
       (first | refine xo_not rfl rfl ?_ | refine xo_loadR0 T_ rfl rfl rfl (by first | assumption | exact RO.fld (by assumption) rfl) rfl ?_)
       (first | refine xo_not rfl rfl ?_ | refine xo_leq rfl rfl rfl rfl ?_)
       (first | refine xo_not rfl rfl ?_ | (first | refine xo_pickT rfl rfl rfl rfl ?_ | refine xo_pickF rfl rfl rfl rfl ?_))
       first | refine xo_pickT rfl rfl rfl rfl ?_ | refine xo_pickF rfl rfl rfl rfl ?_
       with_reducible (refine xo_nil ?_; (repeat first | refine xqT ?_ | refine xqB ?_ | refine xqS ?_))
       exact xq_meet _ _ _ () trivial ⟨rfl, rfl, rfl, rfl, rfl, rfl, rfl, rfl, rfl, rfl, rfl, rfl, rfl, rfl, trivial⟩ (List.nil_sublist _)
      ·have j4 : decide (0 < (k : Int)) = true := by simp; omega
       obtain ⟨ad', e1, q2⟩ := q2 h0
       obtain rfl := Option.some.inj e1
       have s3 := s3 h0
       generalize Q.getD (k - 1) 0 = y at q2 s3
       rw [show (((k - 1 : Nat) : Int)).toNat = ((k : Int) - 1).toNat by omega] at q2
       have j5 : decide (x ≤ y) = false := by simp; omega
       with_reducible ((repeat refine xc_seq ?_); refine xcR ?_)
       refine xo_mv rfl rfl rfl ?_
       refine xo_lss rfl rfl rfl rfl ?_
       refine xo_mv rfl rfl rfl ?_
       refine xo_as (i := 106) rfl (congrArg Value.bool j1) ?_
       (first | refine xo_not rfl rfl ?_ | refine xo_mv rfl rfl rfl ?_)
       (first | refine xo_not rfl rfl ?_ | refine xo_fa T_ rfl rfl rfl rfl rfl ?_)
       (first | refine xo_not rfl rfl ?_ | refine xo_loadR0 T_ rfl rfl rfl (RO.fldZ (v := .int .i64 R) h3 rfl) rfl ?_)
       (first | refine xo_not rfl rfl ?_ | refine xo_geq rfl rfl rfl rfl ?_)
       first | refine xo_pickT rfl rfl rfl rfl ?_ | refine xo_pickF rfl rfl rfl rfl ?_
       refine xo_mv rfl rfl rfl ?_
       refine xo_as (i := 112) rfl (congrArg Value.bool j2) ?_
       (first | refine xo_not rfl rfl ?_ | refine xo_mv rfl rfl rfl ?_)
       (first | refine xo_not rfl rfl ?_ | refine xo_gtr rfl rfl rfl rfl ?_)
       (first | refine xo_not rfl rfl ?_ | refine xo_mv rfl rfl rfl ?_)
       refine xo_as (i := 115) rfl (congrArg Value.bool j4) ?_
       (first | refine xo_not rfl rfl ?_ | refine xo_mv rfl rfl rfl ?_)
       (first | refine xo_not rfl rfl ?_ | refine xo_mv rfl rfl rfl ?_)
       (first | refine xo_not rfl rfl ?_ | refine xo_mv rfl rfl rfl ?_)
       (first | refine xo_not rfl rfl ?_ | refine xo_sub rfl rfl rfl (by omega) rfl ?_)
       (first | refine xo_not rfl rfl ?_ | refine xo_ia T_ rfl rfl rfl rfl rfl ⟨by omega, by omega⟩ rfl ?_)
       (first | refine xo_not rfl rfl ?_ | refine xo_loadR0 T_ rfl rfl rfl q2 rfl ?_)
       (first | refine xo_not rfl rfl ?_ | refine xo_leq rfl rfl rfl rfl ?_)
       refine xo_as (i := 122) rfl (congrArg Value.bool j5) ?_
       (first | refine xo_not rfl rfl ?_ | (first | refine xo_pickT rfl rfl rfl rfl ?_ | refine xo_pickF rfl rfl rfl rfl ?_))
       first | refine xo_pickT rfl rfl rfl rfl ?_ | refine xo_pickF rfl rfl rfl rfl ?_
       with_reducible (refine xo_nil ?_; (repeat first | refine xqT ?_ | refine xqB ?_ | refine xqS ?_))
       exact xq_meet _ _ _ () trivial ⟨rfl, rfl, rfl, rfl, rfl, rfl, rfl, rfl, rfl, rfl, rfl, rfl, rfl, rfl, trivial⟩ (List.nil_sublist _)
     with_reducible (repeat refine xc_seq ?_)
     refine xc_condF rfl ?_
     with_reducible (refine xc_skip ?_; (repeat first | refine xqT ?_ | refine xqB ?_ | refine xqS ?_))
     cases hI : isK Q room k
     ·rw [hI, Bool.false_or] at hsu
      with_reducible ((repeat refine xc_seq ?_); refine xcR ?_)
      refine xo_mv rfl rfl rfl ?_
      refine xo_mv rfl rfl rfl ?_
      (first | refine xo_not rfl rfl ?_ | refine xo_mv rfl rfl rfl ?_)
      (first | refine xo_not rfl rfl ?_ | refine xo_mv rfl rfl rfl ?_)
      (first | refine xo_not rfl rfl ?_ | refine xo_eql rfl rfl rfl rfl ?_)
      first | refine xo_pickT rfl rfl rfl rfl ?_ | refine xo_pickF rfl rfl rfl rfl ?_
      refine xo_asg rfl rfl rfl ?_
      with_reducible (refine xo_nil ?_; (repeat first | refine xqT ?_ | refine xqB ?_ | refine xqS ?_); (repeat refine xc_seq ?_); refine xcR ?_)
      refine xo_add rfl rfl rfl (by omega) rfl ?_
      refine xo_mv rfl rfl rfl ?_
      with_reducible (refine xo_nil ?_; (repeat first | refine xqT ?_ | refine xqB ?_ | refine xqS ?_))
      exact xq_again _ _ _ _ _ (k + 1) hlt (by omega) ⟨rfl, rfl, rfl, rfl, rfl, rfl, rfl, rfl, by rw [hsu]; rfl, rfl, rfl, rfl, trivial⟩ (List.nil_sublist _)
     ·rw [hI, Bool.true_or] at hsu
      with_reducible ((repeat refine xc_seq ?_); refine xcR ?_)
      refine xo_mv rfl rfl rfl ?_
      refine xo_mv rfl rfl rfl ?_
      (first | refine xo_not rfl rfl ?_ | refine xo_mv rfl rfl rfl ?_)
      (first | refine xo_not rfl rfl ?_ | refine xo_mv rfl rfl rfl ?_)
      (first | refine xo_not rfl rfl ?_ | refine xo_eql rfl rfl rfl rfl ?_)
      first | refine xo_pickT rfl rfl rfl rfl ?_ | refine xo_pickF rfl rfl rfl rfl ?_
      refine xo_asg rfl rfl rfl ?_
      with_reducible (refine xo_nil ?_; (repeat first | refine xqT ?_ | refine xqB ?_ | refine xqS ?_); (repeat refine xc_seq ?_); refine xcR ?_)
      refine xo_add rfl rfl rfl (by omega) rfl ?_
      refine xo_mv rfl rfl rfl ?_
      with_reducible (refine xo_nil ?_; (repeat first | refine xqT ?_ | refine xqB ?_ | refine xqS ?_))
      exact xq_again _ _ _ _ _ (k + 1) hlt (by omega) ⟨rfl, rfl, rfl, rfl, rfl, rfl, rfl, rfl, by rw [hsu]; rfl, rfl, rfl, rfl, trivial⟩ (List.nil_sublist _)
    ·have hge : k = Q.length := by have := of_decide_eq_false h; omega
     subst hge
     with_reducible (refine xc_exit ?_; (repeat (first | refine xq_blockX ?_ | refine xq_thenE ?_ | refine xq_blockE rfl ?_ | refine xq_scopeE ?_)); (repeat first | refine xqT ?_ | refine xqB ?_ | refine xqS ?_))
     rw [isK_all, hlist]
     have hgt : decide (0 < (L.length : Int)) = canF E R.toNat gs room.toNat ms := by
      cases hc : canF E R.toNat gs room.toNat ms
      ·rw [hc] at hnone
       have := of_decide_eq_true hnone
       exact decide_eq_false (by omega)
      ·rw [hc] at hnone
       have := of_decide_eq_false hnone
       exact decide_eq_true (by omega)
     generalize canF E R.toNat gs room.toNat ms = can at hgt ⊢
     have k1 : (can != decide (0 < (L.length : Int))) = false := by rw [hgt]; simp
     have k2 : (insideF L minute L.length != decide (truthC R E gs ms room minute = 0)) = false := by rw [hins]; simp
     with_reducible ((repeat refine xc_seq ?_); refine xcR ?_)
     refine xo_mv rfl rfl rfl ?_
     refine xo_mv rfl rfl rfl ?_
     refine xo_len T_ rfl rfl rfl rfl ?_
     refine xo_gtr rfl rfl rfl rfl ?_
     refine xo_neqB Tryz.underlying4 rfl rfl rfl rfl ?_
     refine xo_as (i := 136) rfl (congrArg Value.bool k1) ?_
     refine xo_mv rfl rfl rfl ?_
     (first | refine xo_not rfl rfl ?_ | refine xo_mv rfl rfl rfl ?_)
     (first | refine xo_not rfl rfl ?_ | refine xo_mv rfl rfl rfl ?_)
     (first | refine xo_not rfl rfl ?_ | refine xo_callB (fs := []) (cs := []) rfl rfl rfl inside_enters rfl (fun w1 hw1 => inside_calls A9 c9 L minute w1 (RowOf.below h9 hw1.kx.below) (by omega)) ?_)
     (first | refine xo_not rfl rfl ?_ | refine xo_mv rfl rfl rfl ?_)
     (first | refine xo_not rfl rfl ?_ | refine xo_eql rfl rfl rfl rfl ?_)
     (first | refine xo_not rfl rfl ?_ | refine xo_neqB Tryz.underlying4 rfl rfl rfl rfl ?_)
     refine xo_as (i := 143) rfl (congrArg Value.bool k2) ?_
     first | refine xo_pickT rfl rfl rfl rfl ?_ | refine xo_pickF rfl rfl rfl rfl ?_
     with_reducible (refine xo_nil ?_; (repeat first | refine xqT ?_ | refine xqB ?_ | refine xqS ?_); (repeat refine xc_seq ?_))
     refine xc_condF rfl ?_
     with_reducible (refine xc_skip ?_; (repeat first | refine xqT ?_ | refine xqB ?_ | refine xqS ?_))
     rcases htr with ⟨t0, t1, t2⟩ | ⟨t0, t1, _⟩
     ·have k3 : (!decide (truthC R E gs ms room minute = 0)) = false := by rw [t0]; rfl
      with_reducible ((repeat refine xc_seq ?_); refine xcR ?_)
      refine xo_mv rfl rfl rfl ?_
      refine xo_neq rfl rfl rfl rfl ?_
      refine xo_as (i := 146) rfl (congrArg Value.bool k3) ?_
      with_reducible (refine xo_nil ?_; (repeat first | refine xqT ?_ | refine xqB ?_ | refine xqS ?_); (repeat refine xc_seq ?_))
      refine xc_condF rfl ?_
      with_reducible (refine xc_skip ?_; (repeat first | refine xqT ?_ | refine xqB ?_ | refine xqS ?_))
      obtain ⟨n, rfl, hn1, hn6⟩ := nat_of hR6
      obtain ⟨room, rfl, hrn⟩ := roomOK_nat hn6 hrOK
      rw [Int.toNat_natCast, Int.toNat_natCast] at t2
      obtain ⟨hS, hmk⟩ := sane_of (R := n) rfl hsc
      have hwin := (win_so ⟨hn1, hn6⟩ hE6.2 hG (allD_ok _ t1) hrn hmk).1 t2
      with_reducible ((repeat refine xc_seq ?_); refine xcR ?_)
      refine xo_mv rfl rfl rfl ?_
      refine xo_mv rfl rfl rfl ?_
      (first | refine xo_not rfl rfl ?_ | refine xo_loadRN T_ rfl rfl rfl h3 rfl rfl ?_)
      (first | refine xo_not rfl rfl ?_ | refine xo_mv rfl rfl rfl ?_)
      (first | refine xo_not rfl rfl ?_ | refine xo_mv rfl rfl rfl ?_)
      (first | refine xo_not rfl rfl ?_ | refine xo_mv rfl rfl rfl ?_)
      (first | refine xo_not rfl rfl ?_ | refine xo_callB (fs := []) (cs := []) rfl rfl rfl truth_enters rfl (fun w1 hw1 => truth_yes n E A B A11 c c2 c11 gs ms _ room minute w1 ⟨hn1, hn6⟩ hE6 hG hm8 hmk (allD_ok _ t1) (hgr4.below hw1.kx.below) (hmr7.below hw1.kx.below) (RowOf.below h11 hw1.kx.below) hrn hwin.1 hwin.2) ?_)
      first | refine xo_pickT rfl rfl rfl rfl ?_ | refine xo_pickF rfl rfl rfl rfl ?_
      refine xo_asg rfl rfl rfl ?_
      with_reducible (refine xo_nil ?_; (repeat first | refine xqT ?_ | refine xqB ?_ | refine xqS ?_); (repeat refine xc_seq ?_); refine xc_ret ?_; (repeat (first | refine xq_thenR ?_ | refine xq_blockR ?_ | refine xq_scopeR ?_)))
      exact xq_ret1 rfl rfl fun w' hw => ⟨rfl, below_step hbl hw.kx.below⟩
     ·have k3 : (!decide (truthC R E gs ms room minute = 0)) = true := by rw [t0]; rfl
      have k4 : decide (truthC R E gs ms room minute = 91) = true := by rw [t0]; rfl
      have k5 : decide (((truthL R E gs ms room minute).length : Int) = 0) = true := by rw [t1]; rfl
      with_reducible ((repeat refine xc_seq ?_); refine xcR ?_)
      refine xo_mv rfl rfl rfl ?_
      refine xo_neq rfl rfl rfl rfl ?_
      refine xo_as (i := 146) rfl (congrArg Value.bool k3) ?_
      with_reducible (refine xo_nil ?_; (repeat first | refine xqT ?_ | refine xqB ?_ | refine xqS ?_); (repeat refine xc_seq ?_))
      refine xc_condT rfl ?_
      with_reducible ((repeat refine xc_seq ?_); refine xcR ?_)
      refine xo_mv rfl rfl rfl ?_
      refine xo_mv rfl rfl rfl ?_
      (first | refine xo_not rfl rfl ?_ | refine xo_mv rfl rfl rfl ?_)
      (first | refine xo_not rfl rfl ?_ | refine xo_eql rfl rfl rfl rfl ?_)
      refine xo_as (i := 150) rfl (congrArg Value.bool k4) ?_
      first | refine xo_pickT rfl rfl rfl rfl ?_ | refine xo_pickF rfl rfl rfl rfl ?_
      refine xo_mv rfl rfl rfl ?_
      (first | refine xo_not rfl rfl ?_ | refine xo_mv rfl rfl rfl ?_)
      (first | refine xo_not rfl rfl ?_ | refine xo_len T_ rfl rfl rfl rfl ?_)
      (first | refine xo_not rfl rfl ?_ | refine xo_eql rfl rfl rfl rfl ?_)
      refine xo_as (i := 155) rfl (congrArg Value.bool k5) ?_
      first | refine xo_pickT rfl rfl rfl rfl ?_ | refine xo_pickF rfl rfl rfl rfl ?_
      refine xo_asg rfl rfl rfl ?_
      with_reducible (refine xo_nil ?_; (repeat first | refine xqT ?_ | refine xqB ?_ | refine xqS ?_); (repeat refine xc_seq ?_); refine xc_ret ?_; (repeat (first | refine xq_thenR ?_ | refine xq_blockR ?_ | refine xq_scopeR ?_)))
      exact xq_ret1 rfl rfl fun w' hw => ⟨rfl, below_step hbl hw.kx.below⟩
end Go.Proofs.YtommeljlfkmpjaaGreatDoor
namespace Go.Proofs.YtommeljlfkmpjaaGreatDoor
open Go.ChangeShapes Go.WideShapes Go.RowKit
set_option linter.unusedVariables false
set_option linter.unusedSimpArgs false
def laidL : List (String × DataW Unit) := [("cottonpad/origin.nowhere", Rows.laid_cottonpad_origin_nowhere)]
theorem gNow : Tryz.prog.globalNamed "cottonpad/origin.nowhere" = some 0 := by kernel_rfl
theorem tNow : (Tryz.prog.globals[0]?).map (·.type) = some 45 := by kernel_rfl
theorem door_met (os : Os) (args : Array Value) : laidMetH Tryz.prog laidL ((World.doorLaid Tryz.prog 400 os).forCall (fun _ _ => 0) ⟨#[], args, []⟩).memory :=
 laidMetH_of_parts3 (fuel := 8) (laidMet_of_run' 8 (by kernel_rfl) (by kernel_rfl)) (by kernel_rfl) (by kernel_rfl)
theorem trod_pair {P : Program} {H : Type} {enc : TypeId × Value → H} {w : World} {fuel : Nat} {bb : Bool} {t ta tb : TypeId} {f g : Field} {a b : Value} {d : DataW H} {ps : List MemPlace}
  (ht : P.underlying t = some (.struct #[f, g])) (h1 : f.type = ta) (h2 : f.offset = 0) (h3 : g.type = tb) (h4 : g.offset = 1) (hA : P.cellsOf ta = 1) (hB : P.cellsOf tb = 1)
  (h : DataW.trod enc P w 0 (fun _ => true) bb (fuel + 1) t [a, b] = some (d, ps)) :
  ∃ x y, DataW.trod enc P w 0 (fun _ => true) bb fuel ta [a] = some x ∧ DataW.trod enc P w 0 (fun _ => true) bb fuel tb [b] = some y ∧ d = .agg [x.1, y.1] := by
 unfold DataW.trod at h
 rw [ht] at h
 simp only [List.length_cons, List.length_nil] at h
 split at h
 ·simp only [List.mapM_cons, List.mapM_nil, h1, h2, h3, h4, hA, hB, List.drop_zero, List.take_succ_cons, List.take_zero, List.drop_succ_cons, Option.map_eq_some_iff] at h
  obtain ⟨xs, h, e⟩ := h
  cases hx : DataW.trod enc P w 0 (fun _ => true) bb fuel ta [a] with
  | none => simp [hx] at h
  | some x =>
   cases hy : DataW.trod enc P w 0 (fun _ => true) bb fuel tb [b] with
   | none => simp [hx, hy] at h
   | some y =>
    simp [hx, hy] at h
    subst h
    simp at e
    exact ⟨x, y, rfl, rfl, e.1.symm⟩
 ·simp at h
theorem trod_lenS {P : Program} {H : Type} {enc : TypeId × Value → H} {w : World} {fuel : Nat} {bb : Bool} {t : TypeId} {fs : Array Field} {l : List Value} {x : DataW H × List MemPlace}
  (ht : P.underlying t = some (.struct fs)) (h : DataW.trod enc P w 0 (fun _ => true) bb fuel t l = some x) : l.length = P.cellsOf t := by
 cases fuel with
 | zero => simp [DataW.trod] at h
 | succ m =>
  by_cases hl : l.length = P.cellsOf t
  ·exact hl
  ·exfalso
   unfold DataW.trod at h
   rw [ht] at h
   simp [hl] at h
theorem trod_int {P : Program} {H : Type} {enc : TypeId × Value → H} {w : World} {fuel : Nat} {bb : Bool} {t : TypeId} {k : IntKind} {a : Value} {n : Int} {ps : List MemPlace} (hu : P.underlying t = some (.int k))
  (h : DataW.trod enc P w 0 (fun _ => true) bb fuel t [a] = some (.lit (.int .i64 n), ps)) : a = .int .i64 n := by
 cases fuel with
 | zero => simp [DataW.trod] at h
 | succ fuel =>
  unfold DataW.trod at h
  rw [hu] at h
  split at h <;> simp_all
set_option maxRecDepth 100000 in
theorem glob_of_laid {W : World} (h : laidMetH Tryz.prog laidL W) : GlobO W := by
 have h' : laidMet Tryz.prog laidL W := h
 obtain ⟨ps, ⟨g, t, cs, fuel, p, q, hg, ht, hv, hd, _, _⟩, _, _⟩ := h'
 obtain rfl := Option.some.inj (gNow.symm.trans hg)
 obtain rfl := Option.some.inj (tNow.symm.trans ht)
 have hd' : DataW.trod (fun _ => ()) Tryz.prog W 0 (fun _ => true) false fuel 45 cs.toList = some (.agg [.lit (.int .i64 1073741824), .lit (.int .i64 (-1073741824))], p) := hd
 have hlen : cs.toList.length = 2 := (trod_lenS Tryz.underlying45 hd').trans (by kernel_rfl)
 obtain ⟨l⟩ := cs
 match l, hlen with
 | [a, b], _ =>
  cases fuel with
  | zero => simp [DataW.trod] at hd'
  | succ n =>
   obtain ⟨x, y, hx, hy, e⟩ := trod_pair (ta := 3) (tb := 3) Tryz.underlying45 rfl rfl rfl rfl (by kernel_rfl) (by kernel_rfl) hd'
   simp only [DataW.agg.injEq, List.cons.injEq, and_true] at e
   obtain ⟨x1, x2⟩ := x
   obtain ⟨y1, y2⟩ := y
   simp only at e
   obtain ⟨rfl, rfl⟩ := e
   obtain rfl := trod_int Tryz.underlying3 hx
   obtain rfl := trod_int Tryz.underlying3 hy
   unfold World.var? at hv
   rw [gNow] at hv
   simp only [Option.bind_some] at hv
   cases hh : W.heap[0]? with
   | none => simp [hh] at hv
   | some o =>
    cases o <;> simp [hh] at hv
    subst hv
    refine ro_of fun j v hj => ?_
    rw [Addr.add_lit, Nat.zero_add]
    unfold World.cell?
    rw [hh]
    have hj' : ([.int .i64 1073741824, .int .i64 (-1073741824)] : List Value)[j]? = some v := hj
    simpa using hj'
end Go.Proofs.YtommeljlfkmpjaaGreatDoor
