/- law09.comes: when fire comes into rooms. / law09, plain: what is told is true, and what is true is told. / law09.truth: a room, a minute and delays that are a truth. / law09, plain: what is so is told (for OriginSo). / law09.choose: a number of a list, which goes round; delays that are chosen by it (plain, and the walk of choose). / SX: a drawn region whose last operation waits for all others and  -/
import Derived.Test.YtommeljlfkmpjaaGreatDoorPkLawOriginSo10
import Derived.Test.YtommeljlfkmpjaaGreatDoorPkLawOriginSo4
import Derived.Test.YtommeljlfkmpjaaGreatDoorRows
import Derived.LaidLaws
import Derived.LaidHandle
import Derived.LaidMore
import Derived.ChangeVars
import Derived.ChangeShapes
set_option linter.unusedVariables false
set_option linter.unusedSimpArgs false
namespace Go.Proofs.YtommeljlfkmpjaaGreatDoor
open Go.RowKit Go.Proofs.YtommeljlfkmpjaaGreatDoorW.PrintWords
section
variable {P : Program} {ro : Option Nat} {n N : Nat} {ds : List Deferred} {w0 : World} {X : Nat → Prop} {Q : Exit → Act → World → Prop} {σ : Slots} {η : Hp}
theorem xc_meetQ {γ : Type} {x : Code} (C : γ → Prop) (S : γ → Slots) (H : γ → Hp) (h1 : XC P ro n N ds w0 X (Exit.then (fun a w => ∃ g, C g ∧ SOK N ds (S g) a ∧ WOK w0 X (H g) w) Q) σ η x)
  (h2 : ∀ g, C g → XQ N ds w0 X Q .normal (S g) (H g)) : XC P ro n N ds w0 X Q σ η x := fun a w ha hw => wpIn_mono (h1 a w ha hw) (by
 intro e a' w' hq
 cases e with
 | normal => obtain ⟨g, hg, h3, h4⟩ := hq; exact h2 g hg a' w' h3 h4
 | exit id => exact hq
 | goto l => exact hq
 | ret => exact hq
 | panic c => exact hq
 | outgrown => exact hq)
end
def InC (d : Nat → Int) : Prop := ∀ v, 0 ≤ d v ∧ d v ≤ 1073741824
theorem InC.come {d : Nat → Int} (h : InC d) {e : Edge3} (he : 0 ≤ e.2.2) (hne : e.1 ≠ e.2.1) : InC (comeS d e) := fun v => by
 have h1 := h e.1
 have h2 := h e.2.1
 have h3 := h v
 rw [comeS_eq d hne]
 unfold sideB
 repeat' split
 all_goals omega
theorem InC.start {room : Nat} {minute : Int} (hm : 0 ≤ minute ∧ minute ≤ 600) : InC (shiftF minute (startB 1000000 room)) := fun v => by
 unfold shiftF startB
 (repeat' split) <;> omega
theorem updT_set {b : Nat} {cs cs' : List Value} {t : TypeId} {φ : HP} {e : Nat × Bool × HP} {r : Hp} (h : cs = cs') : Upd b (cel cs t) (e :: (b, true, φ) :: r) (e :: (b, true, cel cs' t) :: r) := h ▸ Upd.tail Upd.head
theorem rowN_zero (n : Nat) : List.replicate n (Value.int .i64 0) = rowD n fun v => if v < 0 then 1073741824 else 0 := by
 apply List.ext_getElem
 ·simp [rowD]
 ·intro i h1 h2
  simp [rowD]
set_option maxHeartbeats 40000000 in
theorem comes_calls (n : Nat) (E : Int) (A B Dl : Option Addr) (c m c2 cd : Nat) (gs : List GatT) (l : List Int) (room : Nat) (minute : Int) (w : World) (hn : 1 ≤ n ∧ n ≤ 6) (hG : GatesR n gs) (hl : okD gs l) (hA : RowOf gatV 4 zGat w A gs) (hD : IntsAt w Dl l) (hr : room < n) (hm : 0 ≤ minute ∧ minute ≤ 600) :
  Calls Tryz.prog 28 #[.agg (scnV n A gs.length c E B m c2).toArray, .int .i64 (room : Int), .int .i64 minute, .slice Dl l.length cd] w fun e w' => ∃ b, e = .returned (.slice (some ⟨b, 0, none⟩) n n) ∧ WOK w XNone [(b, true, cel (rowD n (comesF (edgesL gs l) (shiftF minute (startB 1000000 room)) n)) 3)] w' := by
 have hll := okD_len hl
 have hg6 := hG.len
 refine x_calls (X := XNone) Tryz.func28 rfl rfl rfl ?_
 with_reducible ((repeat apply xc_seq); apply xcR)
 refine xo_box rfl rfl rfl rfl (fun b4 => ?_)
 refine xo_asg rfl rfl rfl ?_
 with_reducible (apply xo_nil; (repeat first | apply xqT | apply xqB | apply xqS); (repeat apply xc_seq); apply xcR)
 refine xo_fa T_ rfl rfl rfl rfl rfl ?_
 refine xo_load0 T_ rfl rfl rfl (by repeat first | exact mH | apply mT | apply mA) rfl rfl ?_
 refine xo_mks TR_ (m := n) rfl rfl rfl rfl rfl rfl (by omega) (by omega) rfl (fun b9 => ?_)
 refine xo_asg rfl rfl rfl ?_
 with_reducible (apply xo_nil; (repeat first | apply xqT | apply xqB | apply xqS); (repeat apply xc_seq); apply xcR)
 refine xo_mv rfl rfl rfl ?_
 refine xo_len T_ rfl rfl rfl rfl ?_
 refine xo_mv rfl rfl rfl ?_
 with_reducible (apply xo_nil; (repeat first | apply xqT | apply xqB | apply xqS))
 rw [rowN_zero]
 with_reducible ((repeat apply xc_seq); apply xc_block)
 ·refine xc_loop (γ := Nat) (fun k => k ≤ n) (fun k => [(1, .int .i64 (room : Int)), (2, .int .i64 minute), (3, .slice Dl l.length cd), (4, .pointer (some ⟨b4, 0, none⟩)), (9, .slice (some ⟨b9, 0, none⟩) n n), (17, .int .i64 (n : Int)), (18, .int .i64 (k : Int))])
   (fun k => [(b9, true, cel (rowD n fun v => if v < k then 1073741824 else 0) 3), (b4, true, cel (scnV n A gs.length c E B m c2) 25)]) (fun k => n - k) 0 (Nat.zero_le _) ⟨rfl, rfl, rfl, rfl, rfl, rfl, rfl, trivial⟩ (List.Sublist.refl _) ?_
  intro k hk
  with_reducible ((repeat apply xc_seq); apply xcR)
  refine xo_lss rfl rfl rfl rfl ?_
  with_reducible (apply xo_nil; (repeat first | apply xqT | apply xqB | apply xqS); (repeat apply xc_seq))
  refine xc_cond rfl (fun h => ?_) (fun h => ?_)
  ·have hlt : k < n := by have := of_decide_eq_true h; omega
   with_reducible (apply xc_skip; (repeat first | apply xqT | apply xqB | apply xqS); (repeat apply xc_seq); apply xc_block; (repeat apply xc_seq); apply xcR)
   refine xo_mv rfl rfl rfl ?_
   refine xo_asg rfl rfl rfl ?_
   with_reducible (apply xo_nil; (repeat first | apply xqT | apply xqB | apply xqS); (repeat apply xc_seq); apply xcR)
   refine xo_mv rfl rfl rfl ?_
   refine xo_mv rfl rfl rfl ?_
   refine xo_ia T_ rfl rfl rfl rfl rfl ⟨by omega, by omega⟩ rfl ?_
   refine xo_storeI T_ (o := 0) (k := (k : Int).toNat * szN 0) (η' := [(b9, true, cel (rowD n fun v => if v < k + 1 then 1073741824 else 0) 3), (b4, true, cel (scnV n A gs.length c E B m c2) 25)]) rfl rfl rfl rfl (List.Mem.head _) rfl rfl (by rw [rowD_len, show szN 0 = 1 from rfl, Int.toNat_natCast]; omega) (upd_set (by rw [rowD_set]; exact rowD_congr fun v hv => by split <;> (try split) <;> (try split) <;> omega)) rfl ?_
   with_reducible (apply xo_nil; (repeat first | apply xqT | apply xqB | apply xqS); (repeat apply xc_seq); apply xcR)
   refine xo_add rfl rfl rfl (by omega) rfl ?_
   refine xo_mv rfl rfl rfl ?_
   with_reducible (apply xo_nil; (repeat first | apply xqT | apply xqB | apply xqS))
   exact xq_again _ _ _ _ _ (k + 1) (by omega) (by omega) ⟨rfl, rfl, rfl, rfl, rfl, rfl, rfl, trivial⟩ (List.Sublist.refl _)
  ·have hge : k = n := by have := of_decide_eq_false h; omega
   subst hge
   with_reducible (apply xc_exit; (repeat (first | apply xq_blockX | apply xq_thenE | refine xq_blockE rfl ?_ | apply xq_scopeE)); (repeat first | apply xqT | apply xqB | apply xqS); (repeat apply xc_seq); apply xcR)
   refine xo_mv rfl rfl rfl ?_
   refine xo_mv rfl rfl rfl ?_
   refine xo_mv rfl rfl rfl ?_
   refine xo_ia T_ rfl rfl rfl rfl rfl ⟨by omega, by omega⟩ rfl ?_
   refine xo_storeI T_ (o := 0) (k := (room : Int).toNat * szN 0) (η' := [(b9, true, cel (rowD k (shiftF minute (startB 1000000 room))) 3), (b4, true, cel (scnV k A gs.length c E B m c2) 25)]) rfl rfl rfl rfl (List.Mem.head _) rfl rfl (by rw [rowD_len, show szN 0 = 1 from rfl, Int.toNat_natCast]; omega) (upd_set (by rw [rowD_set]; exact rowD_congr fun v hv => by unfold shiftF startB; by_cases q : v = room <;> simp [q, hv])) rfl ?_
   with_reducible (apply xo_nil; (repeat first | apply xqT | apply xqB | apply xqS); (repeat apply xc_seq); apply xcR)
   refine xo_fa T_ rfl rfl rfl rfl rfl ?_
   refine xo_load0 T_ rfl rfl rfl (by repeat first | exact mH | apply mT | apply mA) rfl rfl ?_
   refine xo_mv rfl rfl rfl ?_
   with_reducible (apply xo_nil; (repeat first | apply xqT | apply xqB | apply xqS); (repeat apply xc_seq); apply xc_block)
   ·refine xc_loop (γ := Nat) (fun q => q ≤ k ∧ InC (comesF (edgesL gs l) (shiftF minute (startB 1000000 room)) q)) (fun q => [(3, .slice Dl l.length cd), (4, .pointer (some ⟨b4, 0, none⟩)), (9, .slice (some ⟨b9, 0, none⟩) k k), (30, .int .i64 (k : Int)), (31, .int .i64 (q : Int))])
     (fun q => [(b9, true, cel (rowD k (comesF (edgesL gs l) (shiftF minute (startB 1000000 room)) q)) 3), (b4, true, cel (scnV k A gs.length c E B m c2) 25)]) (fun q => k - q) 0 ⟨Nat.zero_le _, InC.start hm⟩ ⟨rfl, rfl, rfl, rfl, rfl, trivial⟩ (List.Sublist.refl _) ?_
    rintro q ⟨hq, hdq⟩
    with_reducible ((repeat apply xc_seq); apply xcR)
    refine xo_lss rfl rfl rfl rfl ?_
    with_reducible (apply xo_nil; (repeat first | apply xqT | apply xqB | apply xqS); (repeat apply xc_seq))
    refine xc_cond rfl (fun h => ?_) (fun h => ?_)
    ·have hlt : q < k := by have := of_decide_eq_true h; omega
     have hnext : comesF (edgesL gs l) (shiftF minute (startB 1000000 room)) (q + 1) = (edgesL gs l).foldl comeS (comesF (edgesL gs l) (shiftF minute (startB 1000000 room)) q) := rfl
     generalize comesF (edgesL gs l) (shiftF minute (startB 1000000 room)) q = d0 at hnext hdq
     with_reducible (apply xc_skip; (repeat first | apply xqT | apply xqB | apply xqS); (repeat apply xc_seq); apply xc_block; (repeat apply xc_seq); apply xcR)
     refine xo_fa T_ rfl rfl rfl rfl rfl ?_
     refine xo_load0 T_ rfl rfl rfl (by repeat first | exact mH | apply mT | apply mA) rfl rfl ?_
     refine xo_len T_ rfl rfl rfl rfl ?_
     refine xo_mv rfl rfl rfl ?_
     with_reducible (apply xo_nil; (repeat first | apply xqT | apply xqB | apply xqS); (repeat apply xc_seq); apply xc_block)
     ·refine xc_loop (γ := Nat) (fun i => i ≤ gs.length ∧ InC (((edgesL gs l).take i).foldl comeS d0)) (fun i => [(3, .slice Dl l.length cd), (4, .pointer (some ⟨b4, 0, none⟩)), (9, .slice (some ⟨b9, 0, none⟩) k k), (30, .int .i64 (k : Int)), (31, .int .i64 (q : Int)), (34, .slice A gs.length c), (35, .int .i64 (gs.length : Int)), (36, .int .i64 (i : Int))])
       (fun i => [(b9, true, cel (rowD k (((edgesL gs l).take i).foldl comeS d0)) 3), (b4, true, cel (scnV k A gs.length c E B m c2) 25)]) (fun i => gs.length - i) 0 ⟨Nat.zero_le _, hdq⟩ ⟨rfl, rfl, rfl, rfl, rfl, rfl, rfl, rfl, trivial⟩ (List.Sublist.refl _) ?_
      rintro i ⟨hi, hdi⟩
      with_reducible ((repeat apply xc_seq); apply xcR)
      refine xo_lss rfl rfl rfl rfl ?_
      with_reducible (apply xo_nil; (repeat first | apply xqT | apply xqB | apply xqS); (repeat apply xc_seq))
      refine xc_cond rfl (fun h => ?_) (fun h => ?_)
      ·have hlti : i < gs.length := by have := of_decide_eq_true h; omega
       obtain ⟨ad, rfl, q1⟩ := hA i hlti
       obtain ⟨adl, rfl, q2⟩ := hD i (by omega)
       have hgo := hG.ok _ (getD_mem gs zGat i hlti)
       have hli := okD_at hl i hlti
       have hst : ((edgesL gs l).take (i + 1)).foldl comeS d0 = comeS (((edgesL gs l).take i).foldl comeS d0) (edgeL (gs.getD i zGat) (l.getD i 0)) := by
        rw [List.take_add_one, edges_at hll i hlti, List.foldl_append]
        rfl
       generalize ((edgesL gs l).take i).foldl comeS d0 = d at hst hdi
       generalize gs.getD i zGat = g at q1 hgo hst hli
       generalize l.getD i 0 = x at q2 hli hst
       obtain ⟨g0, g1, g2⟩ := g
       simp only at hgo
       obtain ⟨a, rfl⟩ : ∃ a : Nat, g0 = a := ⟨g0.toNat, by omega⟩
       obtain ⟨b, rfl⟩ : ∃ b : Nat, g1 = b := ⟨g1.toNat, by omega⟩
       have ha : a < k := by omega
       have hb : b < k := by omega
       have hne : a ≠ b := by omega
       have hli : g2.f0 ≤ x ∧ x ≤ g2.f1 := hli
       have hda0 := hdi a
       have hdb0 := hdi b
       with_reducible (apply xc_skip; (repeat first | apply xqT | apply xqB | apply xqS); (repeat apply xc_seq); apply xc_block; (repeat apply xc_seq); apply xcR)
       refine xo_mv rfl rfl rfl ?_
       refine xo_ia T_ rfl rfl rfl rfl rfl ⟨by omega, by omega⟩ rfl ?_
       refine xo_loadRN T_ rfl rfl rfl q1 rfl rfl ?_
       refine xo_alloc T_ rfl rfl rfl rfl (fun b12 => ?_)
       refine xo_asg rfl rfl rfl ?_
       refine xo_store T_ rfl rfl rfl rfl (by repeat first | exact mH | apply mT | apply mA) rfl rfl rfl rfl (by repeat first | exact Upd.head | apply Upd.tail | apply Upd.app) rfl ?_
       with_reducible (apply xo_nil; (repeat first | apply xqT | apply xqB | apply xqS); (repeat apply xc_seq); apply xcR)
       refine xo_mv rfl rfl rfl ?_
       refine xo_fa T_ rfl rfl rfl rfl rfl ?_
       refine xo_load0 T_ rfl rfl rfl (by repeat first | exact mH | apply mT | apply mA) rfl rfl ?_
       refine xo_ia T_ (i := (a : Int)) rfl rfl rfl rfl rfl ⟨by omega, by omega⟩ rfl ?_
       refine xo_loadI T_ (o := 0) (k := (a : Int).toNat * szN 0) (v := .int .i64 (d a)) rfl rfl rfl (by repeat first | exact mH | apply mT | apply mA) (rowD_at d ha) rfl ?_
       refine xo_neq rfl rfl rfl rfl ?_
       with_reducible (apply xo_nil; (repeat first | apply xqT | apply xqB | apply xqS); (repeat apply xc_seq))
       refine xc_meet2 (γ := Unit) (fun _ => True) (fun _ => [(3, .slice (some adl) l.length cd), (4, .pointer (some ⟨b4, 0, none⟩)), (9, .slice (some ⟨b9, 0, none⟩) k k), (11, .int .i64 (i : Int)), (12, .pointer (some ⟨b12, 0, none⟩)), (30, .int .i64 (k : Int)), (31, .int .i64 (q : Int)), (34, .slice (some ad) gs.length c), (35, .int .i64 (gs.length : Int)), (36, .int .i64 (i : Int))]) (fun _ => [(b12, true, cel (gatV (⟨(a : Int), (b : Int), g2⟩ : GatT)) 52), (b9, true, cel (rowD k (fun v => if v = b then sideB (d a) (d b) x else d v)) 3), (b4, true, cel (scnV k (some ad) gs.length c E B m c2) 25)]) ?_ (fun _ _ => ?_)
       ·with_reducible repeat apply xc_seq
        refine xc_cond rfl (fun h => ?_) (fun h => ?_)
        ·have hna : d a ≠ 1073741824 := by simpa using h
         refine xc_slots [(3, .slice (some adl) l.length cd), (4, .pointer (some ⟨b4, 0, none⟩)), (9, .slice (some ⟨b9, 0, none⟩) k k), (11, .int .i64 (i : Int)), (12, .pointer (some ⟨b12, 0, none⟩)), (30, .int .i64 (k : Int)), (31, .int .i64 (q : Int)), (34, .slice (some ad) gs.length c), (35, .int .i64 (gs.length : Int)), (36, .int .i64 (i : Int))] ⟨rfl, rfl, rfl, rfl, rfl, rfl, rfl, rfl, rfl, rfl, trivial⟩ ?_
         with_reducible (repeat apply xc_seq)
         apply xc_drawE (fun g => []) (fun (η0 : Hp) g => match g with | [] => (η0) | a0 :: _ => ([(b12, true, cel (gatV (⟨(a : Int), (b : Int), g2⟩ : GatT)) 52), (b9, true, cel (rowD k (fun v => if v = b then sideB (d a) (d b) x else d v)) 3), (b4, true, cel (scnV k (some ad) gs.length c E B m c2) 25)])) (fun _ => True) [0, 0, 0, 0, 0, 0, 0, 0, 0, 0, 0, 0, 0, 0, 0, 0, 0, 0, 0, 0, 1] [20] [[19, 18, 0, 1, 2, 3, 4, 5, 6, 7, 8, 9, 10, 11, 12, 13, 14, 15, 16, 17, 18]] (by trivial)
         apply SameLen.cons
         apply SameLen.cons
         apply SameLen.cons
         apply SameLen.cons
         apply SameLen.cons
         apply SameLen.cons
         apply SameLen.cons
         apply SameLen.cons
         apply SameLen.cons
         apply SameLen.cons
         apply SameLen.cons
         apply SameLen.cons
         apply SameLen.cons
         apply SameLen.cons
         apply SameLen.cons
         apply SameLen.cons
         apply SameLen.cons
         apply SameLen.cons
         apply SameLen.cons
         apply SameLen.cons
         apply SameLen.cons
         exact SameLen.nil
         rotate_left 21
         case hH0 => rfl
         case hmix => exact T_.mixed
         case hbind => rfl
         case hdeps => rfl
         case hdist => rfl
         case hfresh => rfl
         case hE => rfl
         case hEn => decide
         ·refine DrawE.pure 0 0 rfl (.inr (by decide)) (fun L g hg hd => Nat.zero_le _) (fun g hlo hhi hF τ => ?_) ?_
          ·rcases g with _ | ⟨a0, _ | ⟨a1, g⟩⟩ <;> first | (simp only [lenC, lenN] at hlo hhi; omega) | (refine ⟨_, rfl, ?_⟩; refine xo_mv rfl rfl rfl ?_; exact xo_fin rfl)
          refine DrawE.pure 0 0 rfl (.inr (by decide)) (fun L g hg hd => Nat.zero_le _) (fun g hlo hhi hF τ => ?_) ?_
          ·rcases g with _ | ⟨a0, _ | ⟨a1, g⟩⟩ <;> first | (simp only [lenC, lenN] at hlo hhi; omega) | (refine ⟨_, rfl, ?_⟩; refine xo_fa T_ rfl rfl rfl rfl rfl ?_; exact xo_fin rfl)
          refine DrawE.pure 0 0 rfl (.inr (by decide)) (fun L g hg hd => Nat.zero_le _) (fun g hlo hhi hF τ => ?_) ?_
          ·rcases g with _ | ⟨a0, _ | ⟨a1, g⟩⟩ <;> first | (simp only [lenC, lenN] at hlo hhi; omega) | (refine ⟨_, rfl, ?_⟩; refine xo_load0 T_ rfl rfl rfl (by repeat first | exact mH | apply mT | apply mA) rfl rfl ?_; exact xo_fin rfl)
          refine DrawE.pure 0 0 rfl (.inr (by decide)) (fun L g hg hd => Nat.zero_le _) (fun g hlo hhi hF τ => ?_) ?_
          ·rcases g with _ | ⟨a0, _ | ⟨a1, g⟩⟩ <;> first | (simp only [lenC, lenN] at hlo hhi; omega) | (refine ⟨_, rfl, ?_⟩; refine xo_mv rfl rfl rfl ?_; exact xo_fin rfl)
          refine DrawE.pure 0 0 rfl (.inr (by decide)) (fun L g hg hd => Nat.zero_le _) (fun g hlo hhi hF τ => ?_) ?_
          ·rcases g with _ | ⟨a0, _ | ⟨a1, g⟩⟩ <;> first | (simp only [lenC, lenN] at hlo hhi; omega) | (refine ⟨_, rfl, ?_⟩; refine xo_fa T_ rfl rfl rfl rfl rfl ?_; exact xo_fin rfl)
          refine DrawE.pure 0 0 rfl (.inr (by decide)) (fun L g hg hd => Nat.zero_le _) (fun g hlo hhi hF τ => ?_) ?_
          ·rcases g with _ | ⟨a0, _ | ⟨a1, g⟩⟩ <;> first | (simp only [lenC, lenN] at hlo hhi; omega) | (refine ⟨_, rfl, ?_⟩; refine xo_load0 T_ rfl rfl rfl (by repeat first | exact mH | apply mT | apply mA) rfl rfl ?_; exact xo_fin rfl)
          refine DrawE.pure 0 0 rfl (.inr (by decide)) (fun L g hg hd => Nat.zero_le _) (fun g hlo hhi hF τ => ?_) ?_
          ·rcases g with _ | ⟨a0, _ | ⟨a1, g⟩⟩ <;> first | (simp only [lenC, lenN] at hlo hhi; omega) | (refine ⟨_, rfl, ?_⟩; refine xo_ia T_ (i := (b : Int)) rfl rfl rfl rfl rfl ⟨by omega, by omega⟩ rfl ?_; exact xo_fin rfl)
          refine DrawE.pure 0 0 rfl (.inr (by decide)) (fun L g hg hd => Nat.zero_le _) (fun g hlo hhi hF τ => ?_) ?_
          ·rcases g with _ | ⟨a0, _ | ⟨a1, g⟩⟩ <;> first | (simp only [lenC, lenN] at hlo hhi; omega) | (refine ⟨_, rfl, ?_⟩; refine xo_loadI T_ (o := 0) (k := (b : Int).toNat * szN 0) (v := .int .i64 (d b)) rfl rfl rfl (by repeat first | exact mH | apply mT | apply mA) (rowD_at d hb) rfl ?_; exact xo_fin rfl)
          refine DrawE.pure 0 0 rfl (.inr (by decide)) (fun L g hg hd => Nat.zero_le _) (fun g hlo hhi hF τ => ?_) ?_
          ·rcases g with _ | ⟨a0, _ | ⟨a1, g⟩⟩ <;> first | (simp only [lenC, lenN] at hlo hhi; omega) | (refine ⟨_, rfl, ?_⟩; refine xo_mv rfl rfl rfl ?_; exact xo_fin rfl)
          refine DrawE.pure 0 0 rfl (.inr (by decide)) (fun L g hg hd => Nat.zero_le _) (fun g hlo hhi hF τ => ?_) ?_
          ·rcases g with _ | ⟨a0, _ | ⟨a1, g⟩⟩ <;> first | (simp only [lenC, lenN] at hlo hhi; omega) | (refine ⟨_, rfl, ?_⟩; refine xo_fa T_ rfl rfl rfl rfl rfl ?_; exact xo_fin rfl)
          refine DrawE.pure 0 0 rfl (.inr (by decide)) (fun L g hg hd => Nat.zero_le _) (fun g hlo hhi hF τ => ?_) ?_
          ·rcases g with _ | ⟨a0, _ | ⟨a1, g⟩⟩ <;> first | (simp only [lenC, lenN] at hlo hhi; omega) | (refine ⟨_, rfl, ?_⟩; refine xo_load0 T_ rfl rfl rfl (by repeat first | exact mH | apply mT | apply mA) rfl rfl ?_; exact xo_fin rfl)
          refine DrawE.pure 0 0 rfl (.inr (by decide)) (fun L g hg hd => Nat.zero_le _) (fun g hlo hhi hF τ => ?_) ?_
          ·rcases g with _ | ⟨a0, _ | ⟨a1, g⟩⟩ <;> first | (simp only [lenC, lenN] at hlo hhi; omega) | (refine ⟨_, rfl, ?_⟩; refine xo_ia T_ (i := (a : Int)) rfl rfl rfl rfl rfl ⟨by omega, by omega⟩ rfl ?_; exact xo_fin rfl)
          refine DrawE.pure 0 0 rfl (.inr (by decide)) (fun L g hg hd => Nat.zero_le _) (fun g hlo hhi hF τ => ?_) ?_
          ·rcases g with _ | ⟨a0, _ | ⟨a1, g⟩⟩ <;> first | (simp only [lenC, lenN] at hlo hhi; omega) | (refine ⟨_, rfl, ?_⟩; refine xo_loadI T_ (o := 0) (k := (a : Int).toNat * szN 0) (v := .int .i64 (d a)) rfl rfl rfl (by repeat first | exact mH | apply mT | apply mA) (rowD_at d ha) rfl ?_; exact xo_fin rfl)
          refine DrawE.pure 0 0 rfl (.inr (by decide)) (fun L g hg hd => Nat.zero_le _) (fun g hlo hhi hF τ => ?_) ?_
          ·rcases g with _ | ⟨a0, _ | ⟨a1, g⟩⟩ <;> first | (simp only [lenC, lenN] at hlo hhi; omega) | (refine ⟨_, rfl, ?_⟩; refine xo_mv rfl rfl rfl ?_; exact xo_fin rfl)
          refine DrawE.pure 0 0 rfl (.inr (by decide)) (fun L g hg hd => Nat.zero_le _) (fun g hlo hhi hF τ => ?_) ?_
          ·rcases g with _ | ⟨a0, _ | ⟨a1, g⟩⟩ <;> first | (simp only [lenC, lenN] at hlo hhi; omega) | (refine ⟨_, rfl, ?_⟩; refine xo_mv rfl rfl rfl ?_; exact xo_fin rfl)
          refine DrawE.pure 0 0 rfl (.inr (by decide)) (fun L g hg hd => Nat.zero_le _) (fun g hlo hhi hF τ => ?_) ?_
          ·rcases g with _ | ⟨a0, _ | ⟨a1, g⟩⟩ <;> first | (simp only [lenC, lenN] at hlo hhi; omega) | (refine ⟨_, rfl, ?_⟩; refine xo_ia T_ rfl rfl rfl rfl rfl ⟨by omega, by omega⟩ rfl ?_; exact xo_fin rfl)
          refine DrawE.pure 0 0 rfl (.inr (by decide)) (fun L g hg hd => Nat.zero_le _) (fun g hlo hhi hF τ => ?_) ?_
          ·rcases g with _ | ⟨a0, _ | ⟨a1, g⟩⟩ <;> first | (simp only [lenC, lenN] at hlo hhi; omega) | (refine ⟨_, rfl, ?_⟩; refine xo_loadR0 T_ rfl rfl rfl q2 rfl ?_; exact xo_fin rfl)
          refine DrawE.pure 0 0 rfl (.inr (by decide)) (fun L g hg hd => Nat.zero_le _) (fun g hlo hhi hF τ => ?_) ?_
          ·rcases g with _ | ⟨a0, _ | ⟨a1, g⟩⟩ <;> first | (simp only [lenC, lenN] at hlo hhi; omega) | (refine ⟨_, rfl, ?_⟩; refine xo_add rfl rfl rfl (by omega) rfl ?_; exact xo_fin rfl)
          refine DrawE.pure 0 0 rfl (.inr (by decide)) (fun L g hg hd => Nat.zero_le _) (fun g hlo hhi hF τ => ?_) ?_
          ·rcases g with _ | ⟨a0, _ | ⟨a1, g⟩⟩ <;> first | (simp only [lenC, lenN] at hlo hhi; omega) | (refine ⟨_, rfl, ?_⟩; refine xo_min rfl rfl rfl rfl ?_; exact xo_fin rfl)
          refine DrawE.pure 0 0 rfl (.inr (by decide)) (fun L g hg hd => Nat.zero_le _) (fun g hlo hhi hF τ => ?_) ?_
          ·rcases g with _ | ⟨a0, _ | ⟨a1, g⟩⟩ <;> first | (simp only [lenC, lenN] at hlo hhi; omega) | (refine ⟨_, rfl, ?_⟩; refine xo_ia T_ (i := (b : Int)) rfl rfl rfl rfl rfl ⟨by omega, by omega⟩ rfl ?_; exact xo_fin rfl)
          refine DrawE.eff 0 rfl (by decide) rfl (fun j hj => hj) (fun j g a hj => ?_) (fun L g hg hd => Nat.zero_le _) (fun g hgl hF τ => ?_) ?_
          ·rcases j with _ | _ | _ | _ | _ | _ | _ | _ | _ | _ | _ | _ | _ | _ | _ | _ | _ | _ | _ | _ | _ | j
           all_goals first | rfl | (rcases g with _ | ⟨a0, _ | ⟨a1, g⟩⟩ <;> first | rfl | exact absurd hj (by decide) | exact absurd hj (by simp [List.getD]))
          ·obtain rfl : g = [] := by
            rcases g with _ | ⟨a0, g⟩ <;> first | rfl | (exfalso; simp only [List.length_cons, List.length_nil] at hgl; omega)
           refine xo_storeI T_ (o := 0) (k := (b : Int).toNat * szN 0) (η' := [(b12, true, cel (gatV (⟨(a : Int), (b : Int), g2⟩ : GatT)) 52), (b9, true, cel (rowD k (fun v => if v = b then sideB (d a) (d b) x else d v)) 3), (b4, true, cel (scnV k (some ad) gs.length c E B m c2) 25)]) rfl rfl rfl rfl (by repeat first | exact mH | apply mT | apply mA) rfl rfl (by rw [rowD_len, show szN 0 = 1 from rfl, Int.toNat_natCast]; omega) (updT_set ((rowD_set d b (if d a + x < d b then d a + x else d b)).trans (rowD_congr fun v hv => by unfold sideB; rw [if_neg hna]))) rfl ?_
           exact xo_finE ⟨0, 0, none⟩ rfl trivial
          exact DrawE.nil
         intro g hgl hF
         obtain ⟨a0, rfl⟩ : ∃ a0, g = [a0] := by
          rcases g with _ | ⟨a0, _ | ⟨a1, g⟩⟩ <;> first | exact ⟨_, rfl⟩ | (exfalso; simp only [List.length_cons, List.length_nil] at hgl; omega)
         with_reducible (repeat first | apply xqT | apply xqB | apply xqS)
         exact xq_meet _ _ _ () trivial ⟨rfl, rfl, rfl, rfl, rfl, rfl, rfl, rfl, rfl, rfl, trivial⟩ (List.Sublist.refl _)
        ·have hna : d a = 1073741824 := by simpa using h
         with_reducible (apply xc_skip; (repeat first | apply xqT | apply xqB | apply xqS))
         have hrow : rowD k d = rowD k (fun v => if v = b then sideB (d a) (d b) x else d v) := rowD_congr fun v hv => by unfold sideB; rw [if_pos hna]; split <;> simp_all
         rw [hrow]
         exact xq_meet _ _ _ () trivial ⟨rfl, rfl, rfl, rfl, rfl, rfl, rfl, rfl, rfl, rfl, trivial⟩ (List.Sublist.refl _)
       have hd1 : InC (fun v => if v = b then sideB (d a) (d b) x else d v) := fun v => by
        have h1 := hdi a
        have h2 := hdi b
        have h3 := hdi v
        by_cases hvb : v = b
        ·simp only [hvb, if_true]
         unfold sideB
         (repeat' split) <;> omega
        ·simp only [hvb, if_false]
         exact h3
       have hst2 : comeS d (edgeL (⟨(a : Int), (b : Int), g2⟩ : GatT) x) = fun v => if v = a then sideB ((fun v => if v = b then sideB (d a) (d b) x else d v) b) ((fun v => if v = b then sideB (d a) (d b) x else d v) a) x else (fun v => if v = b then sideB (d a) (d b) x else d v) v := by
        funext v
        rw [comeS_eq d (e := edgeL (⟨(a : Int), (b : Int), g2⟩ : GatT) x) (by simpa [edgeL] using hne)]
        simp only [edgeL, Int.toNat_natCast]
        simp only [if_true, if_neg hne]
        rfl
       have hd2 := hdi.come (e := edgeL (⟨(a : Int), (b : Int), g2⟩ : GatT) x) (by simp only [edgeL]; omega) (by simpa [edgeL] using hne)
       rw [← hst] at hd2
       rw [hst2] at hst
       generalize (fun v => if v = b then sideB (d a) (d b) x else d v) = d1 at hst hd1 ⊢
       have hdb := hd1 b
       have hda := hd1 a
       with_reducible ((repeat apply xc_seq); apply xcR)
       refine xo_mv rfl rfl rfl ?_
       refine xo_fa T_ rfl rfl rfl rfl rfl ?_
       refine xo_load0 T_ rfl rfl rfl (by repeat first | exact mH | apply mT | apply mA) rfl rfl ?_
       refine xo_ia T_ (i := (b : Int)) rfl rfl rfl rfl rfl ⟨by omega, by omega⟩ rfl ?_
       refine xo_loadI T_ (o := 0) (k := (b : Int).toNat * szN 0) (v := .int .i64 (d1 b)) rfl rfl rfl (by repeat first | exact mH | apply mT | apply mA) (rowD_at d1 hb) rfl ?_
       refine xo_neq rfl rfl rfl rfl ?_
       with_reducible (apply xo_nil; (repeat first | apply xqT | apply xqB | apply xqS); (repeat apply xc_seq))
       refine xc_meetQ (γ := Unit) (fun _ => True) (fun _ => [(3, .slice (some adl) l.length cd), (4, .pointer (some ⟨b4, 0, none⟩)), (9, .slice (some ⟨b9, 0, none⟩) k k), (11, .int .i64 (i : Int)), (12, .pointer (some ⟨b12, 0, none⟩)), (30, .int .i64 (k : Int)), (31, .int .i64 (q : Int)), (34, .slice (some ad) gs.length c), (35, .int .i64 (gs.length : Int)), (36, .int .i64 (i : Int))]) (fun _ => [(b12, true, cel (gatV (⟨(a : Int), (b : Int), g2⟩ : GatT)) 52), (b9, true, cel (rowD k (((edgesL gs l).take (i + 1)).foldl comeS d0)) 3), (b4, true, cel (scnV k (some ad) gs.length c E B m c2) 25)]) ?_ (fun _ _ => ?_)
       ·rw [hst]
        with_reducible (repeat apply xc_seq)
        refine xc_cond rfl (fun h => ?_) (fun h => ?_)
        ·have hnb : d1 b ≠ 1073741824 := by simpa using h
         refine xc_slots [(3, .slice (some adl) l.length cd), (4, .pointer (some ⟨b4, 0, none⟩)), (9, .slice (some ⟨b9, 0, none⟩) k k), (11, .int .i64 (i : Int)), (12, .pointer (some ⟨b12, 0, none⟩)), (30, .int .i64 (k : Int)), (31, .int .i64 (q : Int)), (34, .slice (some ad) gs.length c), (35, .int .i64 (gs.length : Int)), (36, .int .i64 (i : Int))] ⟨rfl, rfl, rfl, rfl, rfl, rfl, rfl, rfl, rfl, rfl, trivial⟩ ?_
         with_reducible (repeat apply xc_seq)
         apply xc_drawE (fun g => []) (fun (η0 : Hp) g => match g with | [] => (η0) | a0 :: _ => ([(b12, true, cel (gatV (⟨(a : Int), (b : Int), g2⟩ : GatT)) 52), (b9, true, cel (rowD k (fun v => if v = a then sideB (d1 b) (d1 a) x else d1 v)) 3), (b4, true, cel (scnV k (some ad) gs.length c E B m c2) 25)])) (fun _ => True) [0, 0, 0, 0, 0, 0, 0, 0, 0, 0, 0, 0, 0, 0, 0, 0, 0, 0, 0, 0, 1] [20] [[19, 18, 0, 1, 2, 3, 4, 5, 6, 7, 8, 9, 10, 11, 12, 13, 14, 15, 16, 17, 18]] (by trivial)
         apply SameLen.cons
         apply SameLen.cons
         apply SameLen.cons
         apply SameLen.cons
         apply SameLen.cons
         apply SameLen.cons
         apply SameLen.cons
         apply SameLen.cons
         apply SameLen.cons
         apply SameLen.cons
         apply SameLen.cons
         apply SameLen.cons
         apply SameLen.cons
         apply SameLen.cons
         apply SameLen.cons
         apply SameLen.cons
         apply SameLen.cons
         apply SameLen.cons
         apply SameLen.cons
         apply SameLen.cons
         apply SameLen.cons
         exact SameLen.nil
         rotate_left 21
         case hH0 => rfl
         case hmix => exact T_.mixed
         case hbind => rfl
         case hdeps => rfl
         case hdist => rfl
         case hfresh => rfl
         case hE => rfl
         case hEn => decide
         ·refine DrawE.pure 0 0 rfl (.inr (by decide)) (fun L g hg hd => Nat.zero_le _) (fun g hlo hhi hF τ => ?_) ?_
          ·rcases g with _ | ⟨a0, _ | ⟨a1, g⟩⟩ <;> first | (simp only [lenC, lenN] at hlo hhi; omega) | (refine ⟨_, rfl, ?_⟩; refine xo_mv rfl rfl rfl ?_; exact xo_fin rfl)
          refine DrawE.pure 0 0 rfl (.inr (by decide)) (fun L g hg hd => Nat.zero_le _) (fun g hlo hhi hF τ => ?_) ?_
          ·rcases g with _ | ⟨a0, _ | ⟨a1, g⟩⟩ <;> first | (simp only [lenC, lenN] at hlo hhi; omega) | (refine ⟨_, rfl, ?_⟩; refine xo_fa T_ rfl rfl rfl rfl rfl ?_; exact xo_fin rfl)
          refine DrawE.pure 0 0 rfl (.inr (by decide)) (fun L g hg hd => Nat.zero_le _) (fun g hlo hhi hF τ => ?_) ?_
          ·rcases g with _ | ⟨a0, _ | ⟨a1, g⟩⟩ <;> first | (simp only [lenC, lenN] at hlo hhi; omega) | (refine ⟨_, rfl, ?_⟩; refine xo_load0 T_ rfl rfl rfl (by repeat first | exact mH | apply mT | apply mA) rfl rfl ?_; exact xo_fin rfl)
          refine DrawE.pure 0 0 rfl (.inr (by decide)) (fun L g hg hd => Nat.zero_le _) (fun g hlo hhi hF τ => ?_) ?_
          ·rcases g with _ | ⟨a0, _ | ⟨a1, g⟩⟩ <;> first | (simp only [lenC, lenN] at hlo hhi; omega) | (refine ⟨_, rfl, ?_⟩; refine xo_mv rfl rfl rfl ?_; exact xo_fin rfl)
          refine DrawE.pure 0 0 rfl (.inr (by decide)) (fun L g hg hd => Nat.zero_le _) (fun g hlo hhi hF τ => ?_) ?_
          ·rcases g with _ | ⟨a0, _ | ⟨a1, g⟩⟩ <;> first | (simp only [lenC, lenN] at hlo hhi; omega) | (refine ⟨_, rfl, ?_⟩; refine xo_fa T_ rfl rfl rfl rfl rfl ?_; exact xo_fin rfl)
          refine DrawE.pure 0 0 rfl (.inr (by decide)) (fun L g hg hd => Nat.zero_le _) (fun g hlo hhi hF τ => ?_) ?_
          ·rcases g with _ | ⟨a0, _ | ⟨a1, g⟩⟩ <;> first | (simp only [lenC, lenN] at hlo hhi; omega) | (refine ⟨_, rfl, ?_⟩; refine xo_load0 T_ rfl rfl rfl (by repeat first | exact mH | apply mT | apply mA) rfl rfl ?_; exact xo_fin rfl)
          refine DrawE.pure 0 0 rfl (.inr (by decide)) (fun L g hg hd => Nat.zero_le _) (fun g hlo hhi hF τ => ?_) ?_
          ·rcases g with _ | ⟨a0, _ | ⟨a1, g⟩⟩ <;> first | (simp only [lenC, lenN] at hlo hhi; omega) | (refine ⟨_, rfl, ?_⟩; refine xo_ia T_ (i := (a : Int)) rfl rfl rfl rfl rfl ⟨by omega, by omega⟩ rfl ?_; exact xo_fin rfl)
          refine DrawE.pure 0 0 rfl (.inr (by decide)) (fun L g hg hd => Nat.zero_le _) (fun g hlo hhi hF τ => ?_) ?_
          ·rcases g with _ | ⟨a0, _ | ⟨a1, g⟩⟩ <;> first | (simp only [lenC, lenN] at hlo hhi; omega) | (refine ⟨_, rfl, ?_⟩; refine xo_loadI T_ (o := 0) (k := (a : Int).toNat * szN 0) (v := .int .i64 (d1 a)) rfl rfl rfl (by repeat first | exact mH | apply mT | apply mA) (rowD_at d1 ha) rfl ?_; exact xo_fin rfl)
          refine DrawE.pure 0 0 rfl (.inr (by decide)) (fun L g hg hd => Nat.zero_le _) (fun g hlo hhi hF τ => ?_) ?_
          ·rcases g with _ | ⟨a0, _ | ⟨a1, g⟩⟩ <;> first | (simp only [lenC, lenN] at hlo hhi; omega) | (refine ⟨_, rfl, ?_⟩; refine xo_mv rfl rfl rfl ?_; exact xo_fin rfl)
          refine DrawE.pure 0 0 rfl (.inr (by decide)) (fun L g hg hd => Nat.zero_le _) (fun g hlo hhi hF τ => ?_) ?_
          ·rcases g with _ | ⟨a0, _ | ⟨a1, g⟩⟩ <;> first | (simp only [lenC, lenN] at hlo hhi; omega) | (refine ⟨_, rfl, ?_⟩; refine xo_fa T_ rfl rfl rfl rfl rfl ?_; exact xo_fin rfl)
          refine DrawE.pure 0 0 rfl (.inr (by decide)) (fun L g hg hd => Nat.zero_le _) (fun g hlo hhi hF τ => ?_) ?_
          ·rcases g with _ | ⟨a0, _ | ⟨a1, g⟩⟩ <;> first | (simp only [lenC, lenN] at hlo hhi; omega) | (refine ⟨_, rfl, ?_⟩; refine xo_load0 T_ rfl rfl rfl (by repeat first | exact mH | apply mT | apply mA) rfl rfl ?_; exact xo_fin rfl)
          refine DrawE.pure 0 0 rfl (.inr (by decide)) (fun L g hg hd => Nat.zero_le _) (fun g hlo hhi hF τ => ?_) ?_
          ·rcases g with _ | ⟨a0, _ | ⟨a1, g⟩⟩ <;> first | (simp only [lenC, lenN] at hlo hhi; omega) | (refine ⟨_, rfl, ?_⟩; refine xo_ia T_ (i := (b : Int)) rfl rfl rfl rfl rfl ⟨by omega, by omega⟩ rfl ?_; exact xo_fin rfl)
          refine DrawE.pure 0 0 rfl (.inr (by decide)) (fun L g hg hd => Nat.zero_le _) (fun g hlo hhi hF τ => ?_) ?_
          ·rcases g with _ | ⟨a0, _ | ⟨a1, g⟩⟩ <;> first | (simp only [lenC, lenN] at hlo hhi; omega) | (refine ⟨_, rfl, ?_⟩; refine xo_loadI T_ (o := 0) (k := (b : Int).toNat * szN 0) (v := .int .i64 (d1 b)) rfl rfl rfl (by repeat first | exact mH | apply mT | apply mA) (rowD_at d1 hb) rfl ?_; exact xo_fin rfl)
          refine DrawE.pure 0 0 rfl (.inr (by decide)) (fun L g hg hd => Nat.zero_le _) (fun g hlo hhi hF τ => ?_) ?_
          ·rcases g with _ | ⟨a0, _ | ⟨a1, g⟩⟩ <;> first | (simp only [lenC, lenN] at hlo hhi; omega) | (refine ⟨_, rfl, ?_⟩; refine xo_mv rfl rfl rfl ?_; exact xo_fin rfl)
          refine DrawE.pure 0 0 rfl (.inr (by decide)) (fun L g hg hd => Nat.zero_le _) (fun g hlo hhi hF τ => ?_) ?_
          ·rcases g with _ | ⟨a0, _ | ⟨a1, g⟩⟩ <;> first | (simp only [lenC, lenN] at hlo hhi; omega) | (refine ⟨_, rfl, ?_⟩; refine xo_mv rfl rfl rfl ?_; exact xo_fin rfl)
          refine DrawE.pure 0 0 rfl (.inr (by decide)) (fun L g hg hd => Nat.zero_le _) (fun g hlo hhi hF τ => ?_) ?_
          ·rcases g with _ | ⟨a0, _ | ⟨a1, g⟩⟩ <;> first | (simp only [lenC, lenN] at hlo hhi; omega) | (refine ⟨_, rfl, ?_⟩; refine xo_ia T_ rfl rfl rfl rfl rfl ⟨by omega, by omega⟩ rfl ?_; exact xo_fin rfl)
          refine DrawE.pure 0 0 rfl (.inr (by decide)) (fun L g hg hd => Nat.zero_le _) (fun g hlo hhi hF τ => ?_) ?_
          ·rcases g with _ | ⟨a0, _ | ⟨a1, g⟩⟩ <;> first | (simp only [lenC, lenN] at hlo hhi; omega) | (refine ⟨_, rfl, ?_⟩; refine xo_loadR0 T_ rfl rfl rfl q2 rfl ?_; exact xo_fin rfl)
          refine DrawE.pure 0 0 rfl (.inr (by decide)) (fun L g hg hd => Nat.zero_le _) (fun g hlo hhi hF τ => ?_) ?_
          ·rcases g with _ | ⟨a0, _ | ⟨a1, g⟩⟩ <;> first | (simp only [lenC, lenN] at hlo hhi; omega) | (refine ⟨_, rfl, ?_⟩; refine xo_add rfl rfl rfl (by omega) rfl ?_; exact xo_fin rfl)
          refine DrawE.pure 0 0 rfl (.inr (by decide)) (fun L g hg hd => Nat.zero_le _) (fun g hlo hhi hF τ => ?_) ?_
          ·rcases g with _ | ⟨a0, _ | ⟨a1, g⟩⟩ <;> first | (simp only [lenC, lenN] at hlo hhi; omega) | (refine ⟨_, rfl, ?_⟩; refine xo_min rfl rfl rfl rfl ?_; exact xo_fin rfl)
          refine DrawE.pure 0 0 rfl (.inr (by decide)) (fun L g hg hd => Nat.zero_le _) (fun g hlo hhi hF τ => ?_) ?_
          ·rcases g with _ | ⟨a0, _ | ⟨a1, g⟩⟩ <;> first | (simp only [lenC, lenN] at hlo hhi; omega) | (refine ⟨_, rfl, ?_⟩; refine xo_ia T_ (i := (a : Int)) rfl rfl rfl rfl rfl ⟨by omega, by omega⟩ rfl ?_; exact xo_fin rfl)
          refine DrawE.eff 0 rfl (by decide) rfl (fun j hj => hj) (fun j g a hj => ?_) (fun L g hg hd => Nat.zero_le _) (fun g hgl hF τ => ?_) ?_
          ·rcases j with _ | _ | _ | _ | _ | _ | _ | _ | _ | _ | _ | _ | _ | _ | _ | _ | _ | _ | _ | _ | _ | j
           all_goals first | rfl | (rcases g with _ | ⟨a0, _ | ⟨a1, g⟩⟩ <;> first | rfl | exact absurd hj (by decide) | exact absurd hj (by simp [List.getD]))
          ·obtain rfl : g = [] := by
            rcases g with _ | ⟨a0, g⟩ <;> first | rfl | (exfalso; simp only [List.length_cons, List.length_nil] at hgl; omega)
           refine xo_storeI T_ (o := 0) (k := (a : Int).toNat * szN 0) (η' := [(b12, true, cel (gatV (⟨(a : Int), (b : Int), g2⟩ : GatT)) 52), (b9, true, cel (rowD k (fun v => if v = a then sideB (d1 b) (d1 a) x else d1 v)) 3), (b4, true, cel (scnV k (some ad) gs.length c E B m c2) 25)]) rfl rfl rfl rfl (by repeat first | exact mH | apply mT | apply mA) rfl rfl (by rw [rowD_len, show szN 0 = 1 from rfl, Int.toNat_natCast]; omega) (updT_set ((rowD_set d1 a (if d1 b + x < d1 a then d1 b + x else d1 a)).trans (rowD_congr fun v hv => by unfold sideB; rw [if_neg hnb]))) rfl ?_
           exact xo_finE ⟨0, 0, none⟩ rfl trivial
          exact DrawE.nil
         intro g hgl hF
         obtain ⟨a0, rfl⟩ : ∃ a0, g = [a0] := by
          rcases g with _ | ⟨a0, _ | ⟨a1, g⟩⟩ <;> first | exact ⟨_, rfl⟩ | (exfalso; simp only [List.length_cons, List.length_nil] at hgl; omega)
         with_reducible (repeat first | apply xqT | apply xqB | apply xqS)
         exact xq_meet _ _ _ () trivial ⟨rfl, rfl, rfl, rfl, rfl, rfl, rfl, rfl, rfl, rfl, trivial⟩ (List.Sublist.refl _)
        ·have hnb : d1 b = 1073741824 := by simpa using h
         with_reducible (apply xc_skip; (repeat first | apply xqT | apply xqB | apply xqS))
         have hrow : rowD k d1 = rowD k (fun v => if v = a then sideB (d1 b) (d1 a) x else d1 v) := rowD_congr fun v hv => by unfold sideB; rw [if_pos hnb]; split <;> simp_all
         rw [hrow]
         exact xq_meet _ _ _ () trivial ⟨rfl, rfl, rfl, rfl, rfl, rfl, rfl, rfl, rfl, rfl, trivial⟩ (List.Sublist.refl _)
       with_reducible ((repeat first | apply xqT | apply xqB | apply xqS); (repeat apply xc_seq); apply xcR)
       refine xo_add rfl rfl rfl (by omega) rfl ?_
       refine xo_mv rfl rfl rfl ?_
       with_reducible (apply xo_nil; (repeat first | apply xqT | apply xqB | apply xqS))
       exact xq_again _ _ _ _ _ (i + 1) ⟨by omega, hd2⟩ (by omega) ⟨rfl, rfl, rfl, rfl, rfl, rfl, rfl, rfl, trivial⟩ (List.sublist_cons_self _ _)
      ·have hgi : i = gs.length := by have := of_decide_eq_false h; omega
       subst hgi
       rw [List.take_of_length_le (by rw [edges_len hll]; exact Nat.le_refl _), ← hnext] at hdi ⊢
       with_reducible (apply xc_exit; (repeat (first | apply xq_blockX | apply xq_thenE | refine xq_blockE rfl ?_ | apply xq_scopeE)); (repeat first | apply xqT | apply xqB | apply xqS); (repeat apply xc_seq); apply xcR)
       refine xo_add rfl rfl rfl (by omega) rfl ?_
       refine xo_mv rfl rfl rfl ?_
       with_reducible (apply xo_nil; (repeat first | apply xqT | apply xqB | apply xqS))
       exact xq_again _ _ _ _ _ (q + 1) ⟨by omega, hdi⟩ (by omega) ⟨rfl, rfl, rfl, rfl, rfl, trivial⟩ (List.Sublist.refl _)
    ·have hgq : q = k := by have := of_decide_eq_false h; omega
     subst hgq
     with_reducible (apply xc_exit; (repeat (first | apply xq_blockX | apply xq_thenE | refine xq_blockE rfl ?_ | apply xq_scopeE)); (repeat first | apply xqT | apply xqB | apply xqS); (repeat apply xc_seq); apply xcR)
     refine xo_mv rfl rfl rfl ?_
     refine xo_asg rfl rfl rfl ?_
     with_reducible (apply xo_nil; (repeat first | apply xqT | apply xqB | apply xqS); (repeat apply xc_seq); apply xc_ret; (repeat (first | apply xq_thenR | apply xq_blockR | apply xq_scopeR)))
     exact xq_ret1 rfl rfl fun w' hw => ⟨b9, rfl, hw.sub (by repeat (first | exact List.Sublist.refl _ | apply List.Sublist.cons_cons | apply List.Sublist.cons | exact List.nil_sublist _))⟩
theorem comes_enters : ∀ args w, (callFunc 28 args).run Tryz.prog w = .ok (.enter 28 args) w := enters_of Tryz.func28 (by kernel_rfl) rfl
def cameL (n : Nat) (gs : List GatT) (l : List Int) (room : Nat) (minute : Int) : Nat → Int := comesF (edgesL gs l) (shiftF minute (startB 1000000 room)) n
theorem edges_ok {n : Nat} {gs : List GatT} {l : List Int} (hG : GatesR n gs) (hl : okD gs l) : ∀ e ∈ edgesL gs l, (0 ≤ e.2.2 ∧ e.2.2 ≤ 60) ∧ e.1 ≠ e.2.1 := fun e he => by
 have hne := edges_ne hG l e he
 have hp := okD_pos hl (fun g hg => (hG.ok g hg).2.2.2.1) e he
 obtain ⟨i, hi, rfl⟩ := List.getElem_of_mem he
 have hll := okD_len hl
 rw [edges_len hll] at hi
 have h1 := edges_at hll i hi
 rw [List.getElem?_eq_getElem (by rw [edges_len hll]; exact hi)] at h1
 rw [Option.some.inj h1] at hp hne ⊢
 have h2 := okD_at hl i hi
 have h3 := hG.ok _ (getD_mem gs zGat i hi)
 refine ⟨⟨hp, ?_⟩, hne⟩
 simp only [edgeL]
 omega
theorem came_far {n : Nat} {gs : List GatT} {l : List Int} {room v : Nat} {minute : Int} (hn : 1 ≤ n ∧ n ≤ 6) (hG : GatesR n gs) (hl : okD gs l) (hr : room < n) (hm : 0 ≤ minute ∧ minute ≤ 600) (hv : v < n) :
  cameL n gs l room minute v = cameF minute (farM n gs l room) v ∧ (farM n gs l room v = 1073741824 ∨ (0 ≤ farM n gs l room v ∧ farM n gs l room v ≤ 300)) := by
 have h1 := (come_rounds hm (edges_ok hG hl) (by rw [edges_len (okD_len hl)]; exact hG.len) room n hn.2).1
 have h2 := far_same hn hG hl hr hv
 unfold cameL
 rw [h1]
 unfold shiftF cameF
 rcases h2 with ⟨e, h3⟩ | ⟨e, h3⟩
 ·rw [e]
  unfold dR at h3 ⊢
  rw [if_neg (by omega), if_neg (by omega)]
  exact ⟨rfl, .inr h3⟩
 ·unfold dR at h3
  rw [e, h3, if_pos rfl, if_pos rfl]
  exact ⟨rfl, .inl rfl⟩
theorem came_in {n : Nat} {gs : List GatT} {l : List Int} {room : Nat} {minute : Int} (hn : 1 ≤ n ∧ n ≤ 6) (hG : GatesR n gs) (hl : okD gs l) (hr : room < n) (hm : 0 ≤ minute ∧ minute ≤ 600) (v : Nat) (hv : v < n) : 0 ≤ cameL n gs l room minute v ∧ cameL n gs l room minute v ≤ 1073741824 := by
 obtain ⟨e, h⟩ := came_far hn hG hl hr hm hv
 rw [e]
 unfold cameF
 split <;> omega
theorem soF_congr {E : Int} {m : MarT} {a b : Nat → Int} (h2 : a m.f2.toNat = b m.f2.toNat) (h3 : a m.f3.toNat = b m.f3.toNat) : soF E m a = soF E m b := by
 unfold soF
 rw [h2, h3]
theorem so_came {n : Nat} {E : Int} {gs : List GatT} {l : List Int} {room : Nat} {minute : Int} {m : MarT} (hn : 1 ≤ n ∧ n ≤ 6) (hE : E ≤ 600) (hG : GatesR n gs) (hl : okD gs l) (hr : room < n) (hm : 0 ≤ minute ∧ minute ≤ E) (hmk : MarkR n m) :
  soF E m (cameL n gs l room minute) = true ↔ inS (saysF E (farM n gs l room) m) minute := by
 obtain ⟨⟨hk, hb, ho, hlo, hhi, hlong⟩, hroom, hother⟩ := hmk
 have h2 := came_far hn hG hl hr (minute := minute) ⟨hm.1, by omega⟩ (v := m.f2.toNat) (by omega)
 have h3 := came_far hn hG hl hr (minute := minute) ⟨hm.1, by omega⟩ (v := m.f3.toNat) (by omega)
 rw [soF_congr h2.1 h3.1]
 exact so_says hm hE hk ⟨by omega, by omega, by omega, by omega⟩ ⟨by omega, by omega⟩ h2.2 h3.2
theorem fold_mem (E z : Int) (r : Nat → Int) : ∀ (ms : List MarT) (s : SpaT), inS (ms.foldl (fun s m => comF s (saysF E r m)) s) z ↔ inS s z ∧ ∀ m ∈ ms, inS (saysF E r m) z
 | [], s => by simp
 | m :: ms, s => by
  rw [List.foldl_cons, fold_mem E z r ms, in_com, List.forall_mem_cons, and_assoc]
theorem winF_mem {E z : Int} {r : Nat → Int} {ms : List MarT} : inS (winF E r ms) z ↔ (0 ≤ z ∧ z ≤ E) ∧ ∀ m ∈ ms, inS (saysF E r m) z := fold_mem E z r ms ⟨0, E⟩
theorem win_so {n : Nat} {E : Int} {gs : List GatT} {l : List Int} {room : Nat} {minute : Int} {ms : List MarT} (hn : 1 ≤ n ∧ n ≤ 6) (hE : E ≤ 600) (hG : GatesR n gs) (hl : okD gs l) (hr : room < n) (hmk : ∀ m ∈ ms, MarkR n m) :
  inS (winF E (farM n gs l room) ms) minute ↔ (0 ≤ minute ∧ minute ≤ E) ∧ ∀ m ∈ ms, soF E m (cameL n gs l room minute) = true := by
 rw [winF_mem]
 constructor
 ·rintro ⟨h, h1⟩
  exact ⟨h, fun m hm => (so_came hn hE hG hl hr h (hmk m hm)).2 (h1 m hm)⟩
 ·rintro ⟨h, h1⟩
  exact ⟨h, fun m hm => (so_came hn hE hG hl hr h (hmk m hm)).1 (h1 m hm)⟩
def hasS (s : SpaT) (z : Int) : Bool := inF s.f0 s.f1 z
theorem hasS_iff {s : SpaT} {z : Int} : hasS s z = true ↔ inS s z := inF_iff
theorem began_find (E : Int) (R : Nat) (gs : List GatT) (room : Nat) (ms : List MarT) (z : Int) : ∀ (ls : List (List Int)) (i : Nat), ((beganFrom E R gs room ms i ls).find? fun x => inF x.2.f0 x.2.f1 z).map (·.1) = (ls.findIdx? fun l => hasS (winF E (farM R gs l room) ms) z).map (i + ·)
 | [], i => rfl
 | l :: ls, i => by
  have ih := began_find E R gs room ms z ls (i + 1)
  have hs : ∀ o : Option Nat, o.map (i + 1 + ·) = (o.map (· + 1)).map (i + ·) := fun o => by cases o <;> simp <;> omega
  unfold beganFrom
  rw [List.findIdx?_cons]
  by_cases hz : inS (winF E (farM R gs l room) ms) z
  ·have hle : (winF E (farM R gs l room) ms).f0 ≤ (winF E (farM R gs l room) ms).f1 := Int.le_trans hz.1 hz.2
   rw [if_pos hle, List.find?_cons_of_pos (by exact inF_iff.2 hz), hasS_iff.2 hz]
   rfl
  ·rw [show hasS (winF E (farM R gs l room) ms) z = false by rw [← Bool.not_eq_true, hasS_iff]; exact hz]
   simp only [Bool.false_eq_true, if_false]
   rw [← hs, ← ih]
   split
   ·rw [List.find?_cons_of_neg (by intro q; exact hz (inF_iff.1 q))]
   ·rfl
theorem truthI_eq (E : Int) (R : Nat) (gs : List GatT) (room : Nat) (ms : List MarT) (z : Int) : truthI E R gs room ms z = (allD gs).findIdx? fun l => hasS (winF E (farM R gs l room) ms) z := by
 unfold truthI beganL
 rw [began_find]
 cases (allD gs).findIdx? _ <;> simp
theorem truthL0_eq (E : Int) (R : Nat) (gs : List GatT) (room : Nat) (ms : List MarT) (z : Int) : truthL0 E R gs room ms z = ((allD gs).find? fun l => hasS (winF E (farM R gs l room) ms) z).getD [] := by
 unfold truthL0
 rw [truthI_eq]
 generalize (allD gs) = L
 induction L with
 | nil => rfl
 | cons l L ih =>
  rw [List.findIdx?_cons, List.find?_cons]
  cases hasS (winF E (farM R gs l room) ms) z
  ·simp only [Bool.false_eq_true, if_false]
   rw [← ih]
   cases List.findIdx? _ L <;> rfl
  ·rfl
theorem truthI_some (E : Int) (R : Nat) (gs : List GatT) (room : Nat) (ms : List MarT) (z : Int) : (truthI E R gs room ms z).isSome = toldF (beganL E R gs room ms) z := by
 unfold truthI
 rw [Option.isSome_map, List.isSome_find?]
 rfl
theorem find_mem {α : Type} {p : α → Bool} {L : List α} {d : α} (h : (L.find? p).isSome = true) : (L.find? p).getD d ∈ L ∧ p ((L.find? p).getD d) = true := by
 obtain ⟨x, hx⟩ := Option.isSome_iff_exists.1 h
 rw [hx]
 exact ⟨List.mem_of_find?_eq_some hx, List.find?_some hx⟩
theorem truth_is {R E : Int} {gs : List GatT} {ms : List MarT} {room z : Int} (hsc : sceneF R E gs ms = true) (hr : roomOK R room = true) :
  (truthC R E gs ms room z = 0 ∧ truthL R E gs ms room z ∈ allD gs ∧ inS (winF E (farM R.toNat gs (truthL R E gs ms room z) room.toNat) ms) z) ∨ (truthC R E gs ms room z = 91 ∧ truthL R E gs ms room z = [] ∧ ∀ l ∈ allD gs, ¬ inS (winF E (farM R.toNat gs l room.toNat) ms) z) := by
 have hI : (truthI E R.toNat gs room.toNat ms z).isSome = ((allD gs).find? fun l => hasS (winF E (farM R.toNat gs l room.toNat) ms) z).isSome := by
  rw [truthI_eq, List.findIdx?_isSome, List.isSome_find?]
 have hC : truthC R E gs ms room z = if (truthI E R.toNat gs room.toNat ms z).isSome = true then 0 else 91 := by rw [truthC, if_pos hsc, if_pos hr]
 have hL : truthL R E gs ms room z = truthL0 E R.toNat gs room.toNat ms z := by rw [truthL, if_pos ⟨hsc, hr⟩]
 rw [hC, hL, hI, truthL0_eq]
 by_cases h : ((allD gs).find? fun l => hasS (winF E (farM R.toNat gs l room.toNat) ms) z).isSome = true
 ·obtain ⟨h1, h2⟩ := find_mem (d := []) h
  exact .inl ⟨if_pos h, h1, hasS_iff.1 h2⟩
 ·right
  rw [if_neg h]
  rw [Bool.not_eq_true, Option.isSome_eq_false_iff, Option.isNone_iff_eq_none] at h
  rw [h]
  exact ⟨rfl, rfl, fun l hl q => List.find?_eq_none.1 h l hl (hasS_iff.2 q)⟩
theorem spans_few (l : List Int) : (spansOf l).length ≤ l.length := by
 have key : ∀ (l : List Int) (acc : List SpaT), (l.foldl grpS acc).length ≤ acc.length + l.length := by
  intro l
  induction l with
  | nil => intro acc; simp
  | cons x l ih =>
   intro acc
   have h1 := ih (grpS acc x)
   have h2 : (grpS acc x).length ≤ acc.length + 1 := by
    unfold grpS
    split
    ·rw [List.length_set]; omega
    ·rw [List.length_append]; simp
   simp only [List.foldl_cons, List.length_cons]
   omega
 simpa [spansOf] using key l []
theorem minutes_few {R E : Int} {gs : List GatT} {ms : List MarT} {room : Int} (hE : 0 ≤ E ∧ E ≤ 600) : (minutesL R E gs ms room).length ≤ 601 := by
 rw [minutesL]
 split
 ·have h1 := spans_few (intsN (toldL E (beganL E R.toNat gs room.toNat ms)))
  have h2 := toldL_len E (beganL E R.toNat gs room.toNat ms)
  have h3 : (intsN (toldL E (beganL E R.toNat gs room.toNat ms))).length = (toldL E (beganL E R.toNat gs room.toNat ms)).length := by simp [intsN]
  omega
 ·simp
theorem inside_truth {R E : Int} {gs : List GatT} {ms : List MarT} {room z : Int} (hsc : sceneF R E gs ms = true) (hr : roomOK R room = true) :
  insideF (minutesL R E gs ms room) z (minutesL R E gs ms room).length = decide (truthC R E gs ms room z = 0) := by
 have hC : minutesC R E gs ms room = 0 := by simp [minutesC, hsc, hr]
 have hT : truthC R E gs ms room z = if toldF (beganL E R.toNat gs room.toNat ms) z = true then 0 else 91 := by rw [truthC, if_pos hsc, if_pos hr, truthI_some]
 have hS := spans_ok (told_ints (E := E) (xs := beganL E R.toNat gs room.toNat ms))
 have hin : ∀ x ∈ beganL E R.toNat gs room.toNat ms, 0 ≤ x.2.f0 ∧ x.2.f1 ≤ E := fun x hx => by
  rw [(beganL_mem.1 hx).2.1]
  exact winF_in _ _ _
 rw [hT, minutesL, if_pos hC, insideF, List.take_length, Bool.eq_iff_iff, List.any_eq_true, decide_eq_true_eq]
 constructor
 ·rintro ⟨s, hs, h⟩
  rw [Bool.and_eq_true, decide_eq_true_eq, decide_eq_true_eq] at h
  have := told_mem.1 ((hS.sound s hs).2 z h.1 h.2)
  rw [if_pos this.2.2]
 ·intro h
  have ht : toldF (beganL E R.toNat gs room.toNat ms) z = true := by
   by_cases q : toldF (beganL E R.toNat gs room.toNat ms) z = true
   ·exact q
   ·rw [if_neg q] at h; cases h
  obtain ⟨x, hx, h1, h2⟩ := toldF_iff.1 ht
  have := hin x hx
  obtain ⟨s, hs, h3, h4⟩ := hS.cover z (told_mem.2 ⟨by omega, by omega, ht⟩)
  exact ⟨s, hs, by rw [Bool.and_eq_true, decide_eq_true_eq, decide_eq_true_eq]; exact ⟨h3, h4⟩⟩
theorem RO.fldZ {w : World} {X : Nat → Prop} {b k : Nat} {cs : List Value} {v : Value} (h : RO w X ⟨b, 0, none⟩ cs) (hj : cs[k]? = some v) : RO w X ⟨b, 0 + k, none⟩ [v] := by
 have := RO.fld h hj
 rwa [Addr.add_lit] at this
theorem atsAt_row {w : World} {b n : Nat} {d : Nat → Int} (h : BlIn [(b, true, cel (rowD n d) 3)] w) : AtsAt w (some ⟨b, 0, none⟩) n d := by
 obtain ⟨o, h1, h2⟩ := h _ List.mem_cons_self
 rw [show o = _ from h2] at h1
 intro k hk
 rw [List.length_map, List.length_range] at hk
 refine ⟨_, rfl, ro1 ?_⟩
 rw [Addr.add_lit, cell_of_row w b _ _ _ _ h1]
 have := rowD_at d hk
 rw [show ((List.range n).map d).getD k 0 = d k by simp [List.getD_eq_getElem?_getD, hk]]
 simpa using this
theorem upL_mem : ∀ (n : Nat) (lo x : Int), x ∈ upL lo n ↔ lo ≤ x ∧ x < lo + n
 | 0, lo, x => by simp [upL]
 | n + 1, lo, x => by
  rw [upL, List.mem_cons, upL_mem n (lo + 1) x]
  omega
theorem okD_all : ∀ {gs : List GatT} {l : List Int}, okD gs l → l ∈ allD gs
 | [], [], _ => by simp [allD]
 | g :: gs, x :: l, h => by
  rw [allD, List.mem_flatMap]
  have h1 := h.1
  exact ⟨x, (upL_mem _ _ _).2 ⟨h1.1, by omega⟩, List.mem_map.2 ⟨l, okD_all h.2, rfl⟩⟩
 | [], _ :: _, h => h.elim
 | _ :: _, [], h => h.elim
def FirstD (d l : List Int) : Prop := ∀ k, k < d.length → d.take k = l.take k → d.getD k 0 ≠ l.getD k 0 → d.getD k 0 < l.getD k 0
theorem FirstD.refl (d : List Int) : FirstD d d := fun k _ _ h => absurd rfl h
theorem FirstD.cons {x : Int} {a b : List Int} (h : FirstD a b) : FirstD (x :: a) (x :: b) := fun k hk ht hne => by
 cases k with
 | zero => exact absurd rfl hne
 | succ k =>
  simp only [List.length_cons, List.take_succ_cons, List.cons.injEq, true_and, List.getD_cons_succ] at hk ht hne ⊢
  exact h k (by omega) ht hne
theorem FirstD.less {x y : Int} {a b : List Int} (h : x < y) : FirstD (x :: a) (y :: b) := fun k hk ht hne => by
 cases k with
 | zero => simpa using h
 | succ k =>
  simp only [List.take_succ_cons, List.cons.injEq] at ht
  omega
theorem upL_pair : ∀ (n : Nat) (lo : Int), (upL lo n).Pairwise (· < ·)
 | 0, lo => List.Pairwise.nil
 | n + 1, lo => List.Pairwise.cons (fun x hx => by have := (upL_mem n (lo + 1) x).1 hx; omega) (upL_pair n (lo + 1))
theorem allD_pair : ∀ gs : List GatT, (allD gs).Pairwise FirstD
 | [] => List.pairwise_singleton _ _
 | g :: gs => by
  rw [allD, List.pairwise_flatMap]
  refine ⟨fun x _ => List.Pairwise.map _ (fun a b h => h.cons) (allD_pair gs), (upL_pair _ _).imp fun h => ?_⟩
  intro a ha b hb
  obtain ⟨a', _, rfl⟩ := List.mem_map.1 ha
  obtain ⟨b', _, rfl⟩ := List.mem_map.1 hb
  exact FirstD.less h
theorem find_first {α : Type} {Q : α → α → Prop} (hr : ∀ a, Q a a) {p : α → Bool} {z : α} : ∀ {L : List α}, L.Pairwise Q → ∀ {x : α}, x ∈ L → p x = true → Q ((L.find? p).getD z) x
 | [], _, x, hx, _ => by cases hx
 | y :: L, hP, x, hx, hp => by
  rw [List.find?_cons]
  cases hy : p y
  ·rcases List.mem_cons.1 hx with rfl | hx
   ·rw [hp] at hy; cases hy
   ·exact find_first hr (List.pairwise_cons.1 hP).2 hx hp
  ·rcases List.mem_cons.1 hx with rfl | hx
   ·exact hr _
   ·exact (List.pairwise_cons.1 hP).1 x hx
def realL (n : Nat) (E : Int) (gs : List GatT) (ms : List MarT) (l : List Int) (room : Nat) (minute : Int) : List MarT := ms.filter fun m => soF E m (cameL n gs l room minute)
structure RealT (R E : Int) (gs : List GatT) (ms : List MarT) (l : List Int) (room minute : Int) : Prop where
 scene : sceneF R E gs ms = true
 truth : truthC R E gs ms room minute = 0
 len : (truthL R E gs ms room minute).length = l.length
 first : FirstD (truthL R E gs ms room minute) l
 minutes : minutesC R E gs ms room = 0
 inside : insideF (minutesL R E gs ms room) minute (minutesL R E gs ms room).length = true
 check : checkF R E gs ms = 0
 against : againstL R E gs ms = []
 why : whyC R E gs ms room = 8
 named : (namedC R E gs ms = 0 ∧ namedV R E gs ms = room) ∨ namedC R E gs ms = 6
theorem real_told {n : Nat} {E : Int} {gs : List GatT} {ms : List MarT} {l : List Int} {room : Nat} {minute : Int} (hsc : sceneF n E gs ms = true) (hl : okD gs l) (hr : room < n) (hm : 0 ≤ minute ∧ minute ≤ E) : RealT n E gs (realL n E gs ms l room minute) l room minute := by
 obtain ⟨hn, hE, hG, _, _⟩ := sceneF_ok hsc
 have hsc' : sceneF n E gs (realL n E gs ms l room minute) = true := scene_sub hsc List.filter_sublist
 obtain ⟨hS, hmk⟩ := sane_of (R := n) rfl hsc'
 have hro : roomOK n room = true := inF_iff.2 ⟨by omega, by omega⟩
 have hw : inS (winF E (farM n gs l room) (realL n E gs ms l room minute)) minute := (win_so ⟨by omega, by omega⟩ hE.2 hG hl hr hmk).2 ⟨hm, fun m hm => (List.mem_filter.1 hm).2⟩
 have hcan : canF E n gs room (realL n E gs ms l room minute) = true := can_iff.2 ⟨l, okD_all hl, Int.le_trans hw.1 hw.2⟩
 have ht := truth_is (room := room) (z := minute) hsc' hro
 rw [Int.toNat_natCast, Int.toNat_natCast] at ht
 have hL : truthL n E gs (realL n E gs ms l room minute) room minute = ((allD gs).find? fun l' => hasS (winF E (farM n gs l' room) (realL n E gs ms l room minute)) minute).getD [] := by
  rw [truthL, if_pos ⟨hsc', hro⟩, truthL0_eq, Int.toNat_natCast, Int.toNat_natCast]
 have hT : truthC n E gs (realL n E gs ms l room minute) room minute = 0 ∧ truthL n E gs (realL n E gs ms l room minute) room minute ∈ allD gs := by
  rcases ht with ⟨h1, h2, _⟩ | ⟨_, _, h3⟩
  ·exact ⟨h1, h2⟩
  ·exact absurd hw (h3 l (okD_all hl))
 have hmem : room ∈ roomsR n E gs (realL n E gs ms l room minute) := by
  rw [roomsR, if_pos hsc', Int.toNat_natCast]
  exact List.mem_filter.2 ⟨List.mem_range.2 hr, hcan⟩
 have h1 : (roomsR n E gs (realL n E gs ms l room minute)).length ≠ 0 := fun q => by rw [List.length_eq_zero_iff] at q; rw [q] at hmem; cases hmem
 have hnc : namedC n E gs (realL n E gs ms l room minute) = if 1 < (roomsR n E gs (realL n E gs ms l room minute)).length then 6 else 0 := by rw [namedC, if_pos hsc', if_neg h1]
 refine ⟨hsc', hT.1, by rw [okD_len (allD_ok _ hT.2), okD_len hl], ?_, by simp [minutesC, hsc', hro], by rw [inside_truth hsc' hro, hT.1]; rfl, by rw [checkF, if_pos hsc'], ?_, by rw [whyC, if_pos hsc', if_pos hro, Int.toNat_natCast, Int.toNat_natCast, if_pos hcan], ?_⟩
 ·rw [hL]
  exact find_first FirstD.refl (allD_pair gs) (okD_all hl) (hasS_iff.2 hw)
 ·have h2 : (roomsN E (n : Int).toNat gs (realL n E gs ms l room minute)).length ≠ 0 := by rw [roomsR, if_pos hsc'] at h1; exact h1
  rw [againstL, if_neg (fun q => h2 q.2)]
 ·by_cases h2 : 1 < (roomsR n E gs (realL n E gs ms l room minute)).length
  ·exact .inr (by rw [hnc, if_pos h2])
  ·rw [if_neg h2] at hnc
   refine .inl ⟨hnc, ?_⟩
   rw [namedV, if_pos hnc]
   generalize roomsR n E gs (realL n E gs ms l room minute) = L at hmem h1 h2
   match L, h1, h2, hmem with
   | [], h1, _, _ => exact absurd rfl h1
   | [x], _, _, hmem => rw [List.mem_singleton.1 hmem]; rfl
   | _ :: _ :: _, _, h2, _ => exact absurd (by simp) h2
def chooseF (by_ : List Int) (i : Nat) : Int := if by_.length = 0 then 0 else by_.getD (i % by_.length) 0
def delF (gs : List GatT) (by_ : List Int) (i : Nat) : Int := (gs.getD i zGat).f2.f0 + chooseF by_ i % ((gs.getD i zGat).f2.f1 - (gs.getD i zGat).f2.f0 + 1)
def delK (gs : List GatT) (by_ : List Int) (k : Nat) : List Int := (List.range k).map (delF gs by_)
theorem delK_len (gs : List GatT) (by_ : List Int) (k : Nat) : (delK gs by_ k).length = k := by simp [delK]
theorem delK_succ (gs : List GatT) (by_ : List Int) (k : Nat) : delK gs by_ (k + 1) = delK gs by_ k ++ [delF gs by_ k] := by simp [delK, List.range_succ]
theorem okD_of : ∀ {gs : List GatT} {l : List Int}, l.length = gs.length → (∀ i, i < gs.length → (gs.getD i zGat).f2.f0 ≤ l.getD i 0 ∧ l.getD i 0 ≤ (gs.getD i zGat).f2.f1) → okD gs l
 | [], [], _, _ => trivial
 | [], _ :: _, h, _ => by simp at h
 | _ :: _, [], h, _ => by simp at h
 | g :: gs, x :: l, h, k => ⟨by simpa using k 0 (by simp), okD_of (by simpa using h) fun i hi => by simpa using k (i + 1) (by simpa using hi)⟩
theorem delK_ok {n : Nat} {gs : List GatT} (hG : GatesR n gs) (by_ : List Int) : okD gs (delK gs by_ gs.length) := okD_of (delK_len _ _ _) fun i hi => by
 have h1 : (delK gs by_ gs.length).getD i 0 = delF gs by_ i := by simp [delK, List.getD_eq_getElem?_getD, hi]
 have h2 := hG.ok _ (getD_mem gs zGat i hi)
 rw [h1, delF]
 have h3 := Int.emod_nonneg (chooseF by_ i) (show (gs.getD i zGat).f2.f1 - (gs.getD i zGat).f2.f0 + 1 ≠ 0 by omega)
 have h4 := Int.emod_lt_of_pos (chooseF by_ i) (show 0 < (gs.getD i zGat).f2.f1 - (gs.getD i zGat).f2.f0 + 1 by omega)
 omega
abbrev WordsAt (w : World) (A : Option Addr) (xs : List Int) : Prop := RowOf (fun x : Int => [Value.int .u32 x]) 0 0 w A xs
theorem chooseF_in {by_ : List Int} (h : ∀ x ∈ by_, 0 ≤ x ∧ x ≤ 4294967295) (i : Nat) : 0 ≤ chooseF by_ i ∧ chooseF by_ i ≤ 4294967295 := by
 unfold chooseF
 split
 ·omega
 ·rename_i h0
  exact h _ (getD_mem by_ 0 _ (Nat.mod_lt _ (by omega)))
theorem choose_calls (D : Option Addr) (cd : Nat) (by_ : List Int) (i : Nat) (w : World) (hD : WordsAt w D by_) (hb : ∀ x ∈ by_, 0 ≤ x ∧ x ≤ 4294967295) (hi : i ≤ 100) (hl : by_.length ≤ 9223372036854775807) :
  Calls Tryz.prog 27 #[.slice D by_.length cd, .int .i64 (i : Int)] w fun e w' => e = .returned (.int .i64 (chooseF by_ i)) ∧ Below w.heap.size w w' := by
 refine x_calls (X := XNone) Tryz.func27 rfl rfl rfl ?_
 with_reducible ((repeat apply xc_seq); apply xcR)
 refine xo_asg rfl rfl rfl ?_
 with_reducible (apply xo_nil; (repeat first | apply xqT | apply xqB | apply xqS); (repeat apply xc_seq); apply xcR)
 refine xo_mv rfl rfl rfl ?_
 refine xo_len T_ rfl rfl rfl rfl ?_
 refine xo_eql rfl rfl rfl rfl ?_
 with_reducible (apply xo_nil; (repeat first | apply xqT | apply xqB | apply xqS); (repeat apply xc_seq))
 refine xc_cond rfl (fun h => ?_) (fun h => ?_)
 ·have h0 : by_.length = 0 := by have := of_decide_eq_true h; omega
  with_reducible ((repeat apply xc_seq); apply xcR)
  refine xo_asg rfl rfl rfl ?_
  with_reducible (apply xo_nil; (repeat first | apply xqT | apply xqB | apply xqS); (repeat apply xc_seq); apply xc_ret; (repeat (first | apply xq_thenR | apply xq_blockR | apply xq_scopeR)))
  exact xq_ret1 rfl rfl fun w' hw => ⟨by rw [chooseF, if_pos h0], hw.kx.below⟩
 ·have h0 : ¬ by_.length = 0 := by have := of_decide_eq_false h; omega
  have hlt : i % by_.length < by_.length := Nat.mod_lt _ (by omega)
  have hx := hb _ (getD_mem by_ 0 _ hlt)
  have hcf : chooseF by_ i = by_.getD (i % by_.length) 0 := by rw [chooseF, if_neg h0]
  have hem : (i : Int) % (by_.length : Int) = ((i % by_.length : Nat) : Int) := (Int.natCast_emod i by_.length).symm
  obtain ⟨ad, rfl, q1⟩ := hD _ hlt
  generalize by_.getD (i % by_.length) 0 = x at hx q1 hcf
  rw [← hem] at q1
  with_reducible (apply xc_skip; (repeat first | apply xqT | apply xqB | apply xqS); (repeat apply xc_seq); apply xcR)
  refine xo_mv rfl rfl rfl ?_
  refine xo_mv rfl rfl rfl ?_
  refine xo_mv rfl rfl rfl ?_
  refine xo_len T_ rfl rfl rfl rfl ?_
  refine xo_rem rfl rfl rfl (by omega) (by omega) rfl ?_
  refine xo_ia T_ rfl rfl rfl rfl rfl ⟨by omega, by omega⟩ rfl ?_
  refine xo_loadR0 T_ rfl rfl rfl q1 rfl ?_
  refine xo_conv T_ rfl rfl rfl rfl (IntWalk.i64_in _ ⟨by omega, by omega⟩) rfl ?_
  refine xo_asg rfl rfl rfl ?_
  with_reducible (apply xo_nil; (repeat first | apply xqT | apply xqB | apply xqS); (repeat apply xc_seq); apply xc_ret; (repeat (first | apply xq_thenR | apply xq_blockR | apply xq_scopeR)))
  exact xq_ret1 rfl rfl fun w' hw => ⟨by rw [hcf], hw.kx.below⟩
theorem choose_enters : ∀ args w, (callFunc 27 args).run Tryz.prog w = .ok (.enter 27 args) w := enters_of Tryz.func27 (by kernel_rfl) rfl
end Go.Proofs.YtommeljlfkmpjaaGreatDoor
namespace Go.Proofs.YtommeljlfkmpjaaGreatDoor
open Go.RowKit
def lastB (ops : List Oper) : Bool := match ops.getLast? with
 | some o => (List.range (ops.length - 1)).all fun q => (depOf o).contains q
 | none => true
theorem lastB_get {ops : List Oper} (h : lastB ops = true) {i : Nat} (hle : ops.length - 1 < ops.length) (hi : i < ops.length - 1) : i ∈ depOf (ops[ops.length - 1]) := by
 unfold lastB at h
 rw [List.getLast?_eq_getElem?, List.getElem?_eq_getElem hle] at h
 have := List.all_eq_true.1 h i (List.mem_range.2 hi)
 simpa using this
theorem nth_some {α : Type} : ∀ {l : List α} {j : Nat} (h : j < l.length), nth j l = some l[j]
 | x :: l, 0, _ => rfl
 | x :: l, j + 1, h => by simpa [nth] using nth_some (l := l) (j := j) (by simpa using h)
theorem flat_cL {ops : List Oper} {vs : List Value} {σ : Slots} {k : Nat} : ∀ L : List Nat, (∀ j ∈ L, nthD j ops ≠ some k) → slot k (flatS ops vs L σ) = slot k σ
 | [], _ => rfl
 | i :: L, hk => by
  unfold flatS
  rw [slot_app]
  cases hd : slot k (dstv ops vs i) with
  | some v => exact absurd (slot_dstv.1 hd).1 (hk i List.mem_cons_self)
  | none => exact flat_cL L fun j hj => hk j (List.mem_cons_of_mem _ hj)
section
variable {P : Program} {ro : Option Nat} {n N : Nat} {ds : List Deferred} {w0 : World} {X : Nat → Prop} {Q : Exit → Act → World → Prop} {σ : Slots} {η : Hp}
theorem xc_drawGL {γ : Type} {id : Nat} {ops : List Oper} (vs : γ → List Value) (H : γ → Hp) (Ok : List Nat → γ → Prop) (g0 : γ) (hOk0 : Ok [] g0) (hH0 : H g0 = η) (hlv : ∀ g, (vs g).length = ops.length) (hmix : P.follows .mixedOrders = true) (hbind : true = true) (hdeps : depsB 0 ops = true) (hdist : distB (dstsOf_ ops) = true) (hfresh : freshB σ (dstsOf_ ops.dropLast) = true) (hlast : lastB ops = true)
  (hop : DrawG P ro n N ds w0 X ops vs H Ok σ 0 ops) (hQ : ∀ L g, Ok L g → (∀ j, j < ops.length → j ∈ L) → XQ N ds w0 X Q .normal (flatS ops (vs g) (List.range ops.length) σ) (H g)) : XC P ro n N ds w0 X Q σ η (.region id ops.toArray true) := by
 have hdis := fun i j k => distB_get ops i j k hdist
 have hfr : ∀ j d, j + 1 < ops.length → nthD j ops = some d → slot d σ = none := fun j d hj h => by
  rw [nthD_eq] at h
  obtain ⟨o, ho, ho2⟩ := Option.bind_eq_some_iff.1 h
  refine freshB_get _ d hfresh (List.mem_filterMap.2 ⟨o, List.mem_of_getElem? (i := j) ?_, ho2⟩)
  rw [List.getElem?_dropLast, if_pos (by omega)]
  exact ho
 have hnl9 : ∀ j d, nthD j ops = some d → j < ops.length := fun j d h => by
  rw [nthD_eq] at h
  obtain ⟨o, ho, ho2⟩ := Option.bind_eq_some_iff.1 h
  exact (List.getElem?_eq_some_iff.1 ho).1
 -- those of some are those of more, if the last is in both or in none
 have hmore : ∀ (g : γ) (L M : List Nat), (∀ j ∈ L, j ∈ M) → (ops.length - 1 ∈ M → ops.length - 1 ∈ L) → ∀ k u, slot k (flatS ops (vs g) L σ) = some u → slot k (flatS ops (vs g) M σ) = some u := by
  intro g L M h hlm k u hk
  rcases flat_a L hk with ⟨j, hj, h1, h2⟩ | h1
  ·exact flat_b hdis h1 h2 M (h j hj)
  ·by_cases hex : ∃ j ∈ M, nthD j ops = some k
   ·obtain ⟨j, hj, hjk⟩ := hex
    have hjl := hnl9 j k hjk
    by_cases hjl2 : j + 1 < ops.length
    ·rw [hfr j k hjl2 hjk] at h1; cases h1
    ·have e : j = ops.length - 1 := by omega
     have hjL : j ∈ L := by rw [e]; exact hlm (e ▸ hj)
     have hv : j < (vs g).length := by rw [hlv]; exact hjl
     obtain ⟨x, hx⟩ : ∃ x, nth j (vs g) = some x := ⟨(vs g)[j], nth_some hv⟩
     have h3 := flat_b (σ := σ) hdis hjk hx L hjL
     rw [hk] at h3
     rw [Option.some.inj h3]
     exact flat_b hdis hjk hx M hj
   ·rw [flat_cL M fun j hj q => hex ⟨j, hj, q⟩]
    exact h1
 intro a w ha hw
 refine wpIn_region_any hmix ?_
 have key : ∀ (fuel : Nat) (L : List Nat) (listed : Array Bool) (a : Act) (w : World), listed.size = ops.length → (∀ j, listed.getD j false = true ↔ j ∈ L) → (∀ j ∈ L, j < ops.length) → ((List.range ops.length).filter fun j => !listed.getD j false).length ≤ fuel → (∀ j ∈ L, ∀ o, ops[j]? = some o → ∀ q ∈ depOf o, q ∈ L) → ∀ g, Ok L g → SOK N ds (flatS ops (vs g) L σ) a → WOK w0 X (H g) w →
   wpAnyIn (wideR ro) n P .any ops.toArray Q fuel listed a w := by
  intro fuel
  induction fuel with
  | zero =>
   intro L listed a w hsz hL hLb hcnt hC g hOk ha hw
   have hall : ∀ j, j < ops.length → j ∈ L := by
    intro j hj
    have h0 := List.length_eq_zero_iff.1 (Nat.le_zero.1 hcnt)
    rw [List.filter_eq_nil_iff] at h0
    have := h0 j (List.mem_range.2 hj)
    exact (hL j).1 (by simpa using this)
   refine ⟨?_, hQ L g hOk hall a w (ha.le (hmore g _ _ (fun j hj => hall j (List.mem_range.1 hj)) (fun q => List.mem_range.2 (hLb _ q)))) hw⟩
   apply List.eq_nil_iff_forall_not_mem.2
   intro j hj
   obtain ⟨h1, o, h2, _⟩ := mem_ready.1 hj
   have hlt : j < ops.length := by have := (Array.getElem?_eq_some_iff.1 h2).1; simpa using this
   have h3 := (hL j).2 (hall j hlt)
   rw [Array.getD_eq_getD_getElem?] at h1 h3
   rw [Array.getElem?_eq_getElem (by rw [hsz]; exact hlt)] at h1 h3
   simp at h1 h3
   rw [h1] at h3
   cases h3
  | succ fuel ih =>
   intro L listed a w hsz hL hLb hcnt hC g hOk ha hw
   refine ⟨fun hnil => ?_, fun i hi => ?_⟩
   ·-- nothing is ready: all are listed
    have hall : ∀ k j, j ≤ k → j < ops.length → j ∈ L := by
     intro k
     induction k with
     | zero =>
      intro j hj hlt
      by_cases hm : j ∈ L
      ·exact hm
      ·exfalso
       have : j ∈ Region.ready .any ops.toArray listed := by
        refine mem_ready.2 ⟨?_, ops[j], by simp [List.getElem?_eq_getElem hlt], ?_⟩
        ·have h3 : listed.getD j false ≠ true := fun q => hm ((hL j).1 q)
         rw [Array.getD_eq_getD_getElem?, Array.getElem?_eq_getElem (by rw [hsz]; exact hlt)] at h3 ⊢
         simpa using h3
        ·intro e he hbd
         have h4 := depsB_get ops 0 j ops[j] hdeps (List.getElem?_eq_getElem hlt) e.on (List.mem_map.2 ⟨e, List.mem_filter.2 ⟨by simpa using he, hbd⟩, rfl⟩)
         omega
       rw [hnil] at this
       cases this
     | succ k ihk =>
      intro j hj hlt
      by_cases hjk : j ≤ k
      ·exact ihk j hjk hlt
      by_cases hm : j ∈ L
      ·exact hm
      ·exfalso
       have : j ∈ Region.ready .any ops.toArray listed := by
        refine mem_ready.2 ⟨?_, ops[j], by simp [List.getElem?_eq_getElem hlt], ?_⟩
        ·have h3 : listed.getD j false ≠ true := fun q => hm ((hL j).1 q)
         rw [Array.getD_eq_getD_getElem?, Array.getElem?_eq_getElem (by rw [hsz]; exact hlt)] at h3 ⊢
         simpa using h3
        ·intro e he hbd
         have h4 := depsB_get ops 0 j ops[j] hdeps (List.getElem?_eq_getElem hlt) e.on (List.mem_map.2 ⟨e, List.mem_filter.2 ⟨by simpa using he, hbd⟩, rfl⟩)
         exact (hL e.on).2 (ihk e.on (by omega) (by omega))
       rw [hnil] at this
       cases this
    exact hQ L g hOk (fun j hj => hall j j (Nat.le_refl _) hj) a w (ha.le (hmore g _ _ (fun j hj => hall j j (Nat.le_refl _) (List.mem_range.1 hj)) (fun q => List.mem_range.2 (hLb _ q)))) hw
   ·obtain ⟨h1, o, h2, h3⟩ := mem_ready.1 hi
    have hlt : i < ops.length := by have := (Array.getElem?_eq_some_iff.1 h2).1; simpa using this
    have ho : ops[i]? = some o := by simpa using h2
    have hnl : ¬ i ∈ L := fun q => by
     have h4 := (hL i).2 q
     rw [Array.getD_eq_getD_getElem?, Array.getElem?_eq_getElem (by rw [hsz]; exact hlt)] at h1 h4
     simp at h1 h4
     rw [h1] at h4
     cases h4
    have hdL : ∀ j ∈ depOf o, j ∈ L := by
     intro j hj
     obtain ⟨e, he, rfl⟩ := List.mem_map.1 hj
     obtain ⟨he, hb⟩ := List.mem_filter.1 he
     exact (hL e.on).1 (h3 e (by simpa using he) hb)
    have hlL : ¬ ops.length - 1 ∈ L := fun q => by
     have hle : ops.length - 1 < ops.length := by omega
     by_cases e : i = ops.length - 1
     ·exact hnl (e ▸ q)
     ·exact hnl (hC _ q _ (List.getElem?_eq_getElem hle) i (lastB_get hlast hle (by omega)))
    have hcons := hmore g (depOf o) L hdL (fun q => absurd q hlL)
    have hs : SOK N ds (flatS ops (vs g) (depOf o) σ ++ flatS ops (vs g) L σ) a := ha.le fun k u hk => by
     rw [slot_app] at hk
     cases hd : slot k (flatS ops (vs g) (depOf o) σ) with
     | some x => rw [hd] at hk; cases hk; exact hcons k _ hd
     | none => rw [hd] at hk; exact hk
    have hrun := drawG_get ops 0 i o hop ho L g hOk (by rwa [Nat.zero_add]) hdL (flatS ops (vs g) L σ) a w hs hw
    rw [Nat.zero_add] at hrun
    have hnext : ∀ a' w', GPost N ds w0 X ops vs H Ok i L g o.dst (flatS ops (vs g) (depOf o) σ ++ flatS ops (vs g) L σ) a' w' → wpAnyIn (wideR ro) n P .any ops.toArray Q fuel (listed.setIfInBounds i true) a' w' := by
     rintro a' w' ⟨g', hOk', hsame, ⟨v, hv, ha'⟩, hw'⟩
     have hflat : flatS ops (vs g') L σ = flatS ops (vs g) L σ := by
      clear hC hlL hOk hOk' ih hs hrun ha hw ha' hw' hL hLb hnl hdL hcons hcnt
      induction L with
      | nil => rfl
      | cons j L ihL =>
       unfold flatS
       rw [ihL (fun j hj => hsame j (List.mem_cons_of_mem _ hj))]
       congr 1
       unfold dstv
       rw [hsame j (List.mem_cons_self ..)]
     refine ih (i :: L) _ a' w' (by simp [hsz]) ?_ ?_ ?_ (fun j hj oj hoj q hq => ?_) g' hOk' (ha'.le ?_) hw'
     ·intro j
      rw [Array.getD_eq_getD_getElem?]
      by_cases e : i = j
      ·subst e
       rw [Array.getElem?_setIfInBounds_self, if_pos (by rw [hsz]; exact hlt)]
       simp
      ·rw [Array.getElem?_setIfInBounds_ne e, ← Array.getD_eq_getD_getElem?, hL j]
       simp [show ¬ j = i from fun q => e q.symm]
     ·intro j hj
      rcases List.mem_cons.1 hj with rfl | hj
      ·exact hlt
      ·exact hLb j hj
     ·have : ((List.range ops.length).filter fun j => !(listed.setIfInBounds i true).getD j false).length < ((List.range ops.length).filter fun j => !listed.getD j false).length := by
       refine filter_less (i := i) ?_ (List.mem_range.2 hlt) ?_ ?_
       ·intro j hj hq
        by_cases e : i = j
        ·subst e
         rw [Array.getD_eq_getD_getElem?, Array.getElem?_setIfInBounds_self, if_pos (by rw [hsz]; exact hlt)] at hq
         simp at hq
        ·rw [Array.getD_eq_getD_getElem?, Array.getElem?_setIfInBounds_ne e, ← Array.getD_eq_getD_getElem?] at hq
         exact hq
       ·have h4 : listed.getD i false ≠ true := fun q => hnl ((hL i).1 q)
        simpa using h4
       ·rw [Array.getD_eq_getD_getElem?, Array.getElem?_setIfInBounds_self, if_pos (by rw [hsz]; exact hlt)]
        simp
      omega
     ·rcases List.mem_cons.1 hj with rfl | hj
      ·rw [ho] at hoj
       obtain rfl := Option.some.inj hoj
       exact List.mem_cons_of_mem _ (hdL q hq)
      ·exact List.mem_cons_of_mem _ (hC j hj oj hoj q hq)
     ·intro k u hk
      unfold flatS at hk
      rw [slot_app] at hk
      cases hd : slot k (dstv ops (vs g') i) with
      | some x =>
       rw [hd] at hk
       cases hk
       obtain ⟨h5, h6⟩ := slot_dstv.1 hd
       rw [hv] at h6
       cases h6
       rw [nthD_eq, ho] at h5
       simp only [Option.bind_some] at h5
       rw [h5]
       unfold putS slot
       simp
      | none =>
       rw [hd] at hk
       rw [hflat] at hk
       have h7 : slot k (flatS ops (vs g) (depOf o) σ ++ flatS ops (vs g) L σ) = some u := by
        rw [slot_app]
        cases hd2 : slot k (flatS ops (vs g) (depOf o) σ) with
        | some x => have hk' : slot k (flatS ops (vs g) L σ) = some u := hk; have := hcons k x hd2; rw [hk'] at this; exact this.symm
        | none => exact hk
       cases hdo : o.dst with
       | none => exact h7
       | some d =>
        unfold putS slot
        have hne : Nat.beq d k = false := by
         cases hb : Nat.beq d k with
         | false => rfl
         | true =>
          exfalso
          have e := Nat.eq_of_beq_eq_true hb
          subst e
          rw [slot_dstv.2 ⟨by rw [nthD_eq, ho]; exact hdo, hv⟩] at hd
          cases hd
        simp only [hne, cond_false]
        exact h7
    unfold wpOpIn
    simp only [h2]
    unfold wpListIn at hrun
    split at hrun
    ·rename_i hw1
     rw [if_pos hw1]
     exact wpIn_swapK (Oper.wpIn_mono (fun a' w' h => hnext a' w' h) hrun)
    ·rename_i hw1
     rw [if_neg hw1]
     exact ⟨fun _ _ => trivial, hnext _ _ hrun.2⟩
 refine key _ [] _ a w.drew (by simp) (fun j => ?_) (fun j hj => by cases hj) ?_ (fun j hj => by cases hj) g0 hOk0 ha (by rw [hH0]; exact hw.drew)
 ·constructor
  ·intro h
   rw [Array.getD_eq_getD_getElem?, Array.getElem?_replicate] at h
   split at h <;> simp at h
  ·intro h
   cases h
 ·have := List.length_filter_le (fun j => !(Array.replicate ops.toArray.size false).getD j false) (List.range ops.length)
  simpa using this
end
section
variable {P : Program} {ro : Option Nat} {n N : Nat} {ds : List Deferred} {w0 : World} {X : Nat → Prop} {Q : Exit → Act → World → Prop} {σ : Slots} {η : Hp} {ops : List Oper} {vs : List GV → List Value} {H : List GV → Hp} {nd E : List Nat} {U : List (List Nat)} {F : List GV → Prop}
theorem xc_drawEL {id : Nat} (ws : List GV → List (Nat × Value)) (Hf : Hp → List GV → Hp) (F : List GV → Prop) (nd E : List Nat) (U : List (List Nat)) (hF0 : F []) {cs : List Value} (hlv : SameLen cs ops) (hH0 : Hf η [] = η) (hmix : P.follows .mixedOrders = true) (hbind : true = true) (hdeps : depsB 0 ops = true) (hdist : distB (dstsOf_ ops) = true) (hfresh : freshB σ (dstsOf_ ops.dropLast) = true) (hlast : lastB ops = true)
  (hE : E.all (fun e => Nat.blt e ops.length && decide (nd.getD e 0 = E.idxOf e + 1)) = true) (hEn : E.Nodup)
  (hop : DrawG P ro n N ds w0 X ops (fun g => ovr 0 (ws g) cs) (Hf η) (okN F nd E U) σ 0 ops) (hQ : ∀ g, g.length = E.length → F g → XQ N ds w0 X Q .normal (flatS ops (ovr 0 (ws g) cs) (List.range ops.length) σ) (Hf η g)) : XC P ro n N ds w0 X Q σ η (.region id ops.toArray true) := by
 refine xc_drawGL (fun g => ovr 0 (ws g) cs) (Hf η) (okN F nd E U) [] ⟨Nat.zero_le _, by simp, by simp, hF0⟩ hH0 (fun g => (ovr_len ..).trans hlv.len) hmix hbind hdeps hdist hfresh hlast hop fun L g hg hall => hQ g ?_ hg.2.2.2
 refine Nat.le_antisymm hg.1 ?_
 by_cases he : E.length = 0
 ·omega
 ·have hlt : E.length - 1 < E.length := by omega
  have h1 := List.all_eq_true.1 hE _ (List.getElem_mem hlt)
  rw [Bool.and_eq_true, decide_eq_true_eq, Nat.blt_eq] at h1
  have h2 := hg.2.1 _ (hall _ h1.1)
  rw [h1.2] at h2
  have h3 : E.idxOf E[E.length - 1] = E.length - 1 := hEn.idxOf_getElem _ hlt
  omega
end
end Go.Proofs.YtommeljlfkmpjaaGreatDoor
namespace Go.Proofs.YtommeljlfkmpjaaGreatDoor
open Go.RowKit Go.Proofs.YtommeljlfkmpjaaGreatDoorW.PrintWords
theorem marks_R {w : World} {r : RowR} {ls : List MarT} (hl : ls.length ≤ 1000000) (h : BlIn (hpR 56 7 r ls.length (marL ls)) w) (h0 : r = none → ls.length = 0) : Kd.C marK w (valA r) ls.length ls := by
 cases r with
 | none =>
  have := List.eq_nil_of_length_eq_zero (h0 rfl)
  subst this
  exact Kd.C_nil _ _
 | some p => exact marks_C (cap := p.2) hl h
theorem u16_so {n : Int} (h : (Lit.int .u16 n).wf = true) : 0 ≤ n ∧ n ≤ 65535 := by
 have h' : (decide (0 ≤ n) && decide (n ≤ 65535)) = true := h
 simpa using h'
theorem u32_so {n : Int} (h : (Lit.int .u32 n).wf = true) : 0 ≤ n ∧ n ≤ 4294967295 := by
 have h' : (decide (0 ≤ n) && decide (n ≤ 4294967295)) = true := h
 simpa using h'
theorem words_row {w : World} {A : Option Addr} {n : Nat} {xs : List Int} (h : Kd.C (Kd.int .u32) w A n xs) (hn : n = xs.length) : WordsAt w A xs := fun k hk => by
 obtain ⟨ad, cs, e, _, hK, hR⟩ := at_of h 0 k (by omega)
 have hK : cs = [.int .u32 (xs.getD k 0)] := hK
 subst hK
 exact ⟨ad, e, hR⟩
set_option maxHeartbeats 24000000 in
theorem originSo_law (R E : Int) (A B D : Option Addr) (c c2 cd : Nat) (gs : List GatT) (ms : List MarT) (by_ : List Int) (which clock : Int) (w : World) (hA : Kd.C gatK w A gs.length gs) (hB : Kd.C marK w B ms.length ms) (hD : WordsAt w D by_) (hk : BytesK ms) (hby : ∀ x ∈ by_, 0 ≤ x ∧ x ≤ 4294967295) (hbl : by_.length ≤ 9223372036854775807) (hwh : 0 ≤ which ∧ which ≤ 255) (hcl : 0 ≤ clock ∧ clock ≤ 65535) (hglob : GlobO w) :
  Calls Tryz.prog 5 #[.agg (scnV R A gs.length c E B ms.length c2).toArray, .int .u8 which, .int .u16 clock, .slice D by_.length cd] w fun e w' => e = .returned (.bool true) ∧ Below w.heap.size w w' := by
 have hgr4 := gat_row hA
 have hmr7 := mar_row hB
 have hs : SceneAt w A B gs ms := ⟨hA, hB, hk, hglob⟩
 refine x_calls (X := XNone) Tryz.func5 rfl rfl rfl ?_
 with_reducible ((repeat apply xc_seq); apply xcR)
 refine xo_box rfl rfl rfl rfl (fun b4 => ?_)
 refine xo_asg rfl rfl rfl ?_
 with_reducible (apply xo_nil; (repeat first | apply xqT | apply xqB | apply xqS); (repeat apply xc_seq); apply xcR)
 refine xo_callB (fs := []) (cs := []) rfl rfl rfl alive_enters rfl (fun w1 hw1 => alive_calls w1 (hglob.below hw1.kx.below)) ?_
 refine xo_asg rfl rfl rfl ?_
 with_reducible (apply xo_nil; (repeat first | apply xqT | apply xqB | apply xqS); (repeat apply xc_seq); apply xcR)
 refine xo_mv rfl rfl rfl ?_
 refine xo_notOp rfl rfl rfl ?_
 with_reducible (apply xo_nil; (repeat first | apply xqT | apply xqB | apply xqS); (repeat apply xc_seq))
 refine xc_condF rfl ?_
 with_reducible (apply xc_skip; (repeat first | apply xqT | apply xqB | apply xqS))
 cases hsc : sceneF R E gs ms
 ·with_reducible repeat apply xc_seq
  with_reducible apply xcR
  refine xo_loadN T_ rfl rfl rfl (by repeat first | exact mH | apply mT | apply mA) rfl rfl ?_
  refine xo_callB (fs := []) (cs := []) rfl rfl rfl ready_enters rfl (fun w1 hw1 => ready_calls R E A B c c2 gs ms w1 (hgr4.below hw1.kx.below) (hmr7.below hw1.kx.below)) ?_
  refine xo_as (i := 34) rfl (congrArg Value.bool hsc) ?_
  refine xo_notOp rfl rfl rfl ?_
  with_reducible (apply xo_nil; (repeat first | apply xqT | apply xqB | apply xqS); (repeat apply xc_seq))
  refine xc_condT rfl ?_
  with_reducible ((repeat apply xc_seq); apply xcR)
  refine xo_mv rfl rfl rfl ?_
  refine xo_asg rfl rfl rfl ?_
  with_reducible (apply xo_nil; (repeat first | apply xqT | apply xqB | apply xqS); (repeat apply xc_seq); apply xc_ret; (repeat (first | apply xq_thenR | apply xq_blockR | apply xq_scopeR)))
  exact xq_ret1 rfl rfl fun w' hw => ⟨rfl, hw.kx.below⟩
 obtain ⟨hR6, hE6, hG, hm8, _⟩ := sceneF_ok hsc
 have hg6 := hG.len
 with_reducible ((repeat apply xc_seq); apply xcR)
 refine xo_loadN T_ rfl rfl rfl (by repeat first | exact mH | apply mT | apply mA) rfl rfl ?_
 refine xo_callB (fs := []) (cs := []) rfl rfl rfl ready_enters rfl (fun w1 hw1 => ready_calls R E A B c c2 gs ms w1 (hgr4.below hw1.kx.below) (hmr7.below hw1.kx.below)) ?_
 refine xo_as (i := 34) rfl (congrArg Value.bool hsc) ?_
 refine xo_notOp rfl rfl rfl ?_
 with_reducible (apply xo_nil; (repeat first | apply xqT | apply xqB | apply xqS); (repeat apply xc_seq))
 refine xc_condF rfl ?_
 with_reducible (apply xc_skip; (repeat first | apply xqT | apply xqB | apply xqS))
 obtain ⟨n, rfl, hn1, hn6⟩ := nat_of hR6
 have hrm : 0 ≤ which % (n : Int) ∧ which % (n : Int) < n := ⟨Int.emod_nonneg _ (by omega), Int.emod_lt_of_pos _ (by omega)⟩
 have hat : 0 ≤ clock % (E + 1) ∧ clock % (E + 1) < E + 1 := ⟨Int.emod_nonneg _ (by omega), Int.emod_lt_of_pos _ (by omega)⟩
 refine xc_slots [(1, .int .u8 which), (2, .int .u16 clock), (3, .slice D by_.length cd), (4, .pointer (some ⟨b4, 0, none⟩)), (9, .bool true)] ⟨rfl, rfl, rfl, rfl, rfl, trivial⟩ ?_
 with_reducible (repeat apply xc_seq)
 apply xc_drawN
 ·exact T_.mixed
 ·rfl
 ·rfl
 ·rfl
 ·rfl
 ·apply DrawOps.cons
  ·intro τ
   refine xo_mv rfl rfl rfl ?_
   exact xo_fin rfl
  apply DrawOps.cons
  ·intro τ
   refine xo_conv T_ rfl rfl rfl rfl (IntWalk.i64_in _ ⟨by omega, by omega⟩) rfl ?_
   exact xo_fin rfl
  apply DrawOps.cons
  ·intro τ
   refine xo_fa T_ rfl rfl rfl rfl rfl ?_
   exact xo_fin rfl
  apply DrawOps.cons
  ·intro τ
   refine xo_load0 T_ rfl rfl rfl (by repeat first | exact mH | apply mT | apply mA) rfl rfl ?_
   exact xo_fin rfl
  apply DrawOps.cons
  ·intro τ
   refine xo_rem rfl rfl rfl (by omega) (by omega) rfl ?_
   exact xo_fin rfl
  apply DrawOps.cons
  ·intro τ
   refine xo_mv rfl rfl rfl ?_
   exact xo_fin rfl
  apply DrawOps.cons
  ·intro τ
   refine xo_conv T_ rfl rfl rfl rfl (IntWalk.i64_in _ ⟨by omega, by omega⟩) rfl ?_
   exact xo_fin rfl
  apply DrawOps.cons
  ·intro τ
   refine xo_fa T_ rfl rfl rfl rfl rfl ?_
   exact xo_fin rfl
  apply DrawOps.cons
  ·intro τ
   refine xo_load0 T_ rfl rfl rfl (by repeat first | exact mH | apply mT | apply mA) rfl rfl ?_
   exact xo_fin rfl
  apply DrawOps.cons
  ·intro τ
   refine xo_add rfl rfl rfl (by omega) rfl ?_
   exact xo_fin rfl
  apply DrawOps.cons
  ·intro τ
   refine xo_rem rfl rfl rfl (by omega) (by omega) rfl ?_
   exact xo_fin rfl
  apply DrawOps.cons
  ·intro τ
   refine xo_asg rfl rfl rfl ?_
   exact xo_fin rfl
  apply DrawOps.cons
  ·intro τ
   refine xo_asg rfl rfl rfl ?_
   exact xo_fin rfl
  exact DrawOps.nil
 ·rfl
 with_reducible (repeat first | apply xqT | apply xqB | apply xqS)
 generalize clock % (E + 1) = at_ at hat
 generalize which % (n : Int) = room at hrm
 obtain ⟨room, rfl⟩ : ∃ r : Nat, room = r := ⟨room.toNat, by omega⟩
 have hrn : room < n := by omega
 refine xc_slots [(3, .slice D by_.length cd), (4, .pointer (some ⟨b4, 0, none⟩)), (9, .bool true), (10, .int .i64 (room : Int)), (11, .int .i64 at_)] ⟨rfl, rfl, rfl, rfl, rfl, trivial⟩ ?_
 with_reducible ((repeat apply xc_seq); apply xcR)
 refine xo_asg rfl rfl rfl ?_
 with_reducible (apply xo_nil; (repeat first | apply xqT | apply xqB | apply xqS); (repeat apply xc_seq); apply xcR)
 refine xo_fa T_ rfl rfl rfl rfl rfl ?_
 refine xo_load0 T_ rfl rfl rfl (by repeat first | exact mH | apply mT | apply mA) rfl rfl ?_
 refine xo_len T_ rfl rfl rfl rfl ?_
 refine xo_mv rfl rfl rfl ?_
 with_reducible (apply xo_nil; (repeat first | apply xqT | apply xqB | apply xqS); (repeat apply xc_seq); apply xc_block)
 refine xc_loop (γ := Nat × RowR) (fun q => q.1 ≤ gs.length ∧ (q.2 = none → (delK gs by_ q.1).length = 0)) (fun q => [(3, .slice D by_.length cd), (4, .pointer (some ⟨b4, 0, none⟩)), (9, .bool true), (10, .int .i64 (room : Int)), (11, .int .i64 at_), (12, valR q.2 (delK gs by_ q.1).length), (49, .slice A gs.length c), (50, .int .i64 (gs.length : Int)), (51, .int .i64 (q.1 : Int))])
  (fun q => hpR 3 1 q.2 (delK gs by_ q.1).length ((delK gs by_ q.1).map (.int .i64)) ++ [(b4, true, cel (scnV n A gs.length c E B ms.length c2) 25)]) (fun q => gs.length - q.1) (0, none) ⟨Nat.zero_le _, fun _ => rfl⟩ ⟨rfl, rfl, rfl, rfl, rfl, rfl, rfl, rfl, rfl, trivial⟩ (by repeat (first | exact List.Sublist.refl _ | apply List.Sublist.cons_cons | apply List.Sublist.cons | exact List.nil_sublist _)) ?_
 rintro ⟨k, rd⟩ ⟨hk1, hrr⟩
 simp only at hk1 hrr
 with_reducible ((repeat apply xc_seq); apply xcR)
 refine xo_lss rfl rfl rfl rfl ?_
 with_reducible (apply xo_nil; (repeat first | apply xqT | apply xqB | apply xqS); (repeat apply xc_seq))
 refine xc_cond rfl (fun h => ?_) (fun h => ?_)
 ·have hlt : k < gs.length := by have := of_decide_eq_true h; omega
  have hdk := delK_succ gs by_ k
  have hlen := delK_len gs by_ k
  have hgo := hG.ok _ (getD_mem gs zGat k hlt)
  have hcf := chooseF_in hby k
  obtain ⟨ad, rfl, q1⟩ := hgr4 k hlt
  unfold delF at hdk
  generalize delK gs by_ k = xs at hrr hdk hlen ⊢
  generalize gs.getD k zGat = gt at hgo q1 hdk
  have hmo := Int.emod_nonneg (chooseF by_ k) (show gt.f2.f1 - gt.f2.f0 + 1 ≠ 0 by omega)
  have hmp := Int.emod_lt_of_pos (chooseF by_ k) (show 0 < gt.f2.f1 - gt.f2.f0 + 1 by omega)
  with_reducible (apply xc_skip; (repeat first | apply xqT | apply xqB | apply xqS); (repeat apply xc_seq); apply xc_block; (repeat apply xc_seq); apply xcR)
  refine xo_mv rfl rfl rfl ?_
  refine xo_ia T_ rfl rfl rfl rfl rfl ⟨by omega, by omega⟩ rfl ?_
  refine xo_loadRN T_ rfl rfl rfl q1 rfl rfl ?_
  refine xo_alloc T_ rfl rfl rfl rfl (fun b14 => ?_)
  refine xo_asg rfl rfl rfl ?_
  refine xo_store T_ rfl rfl rfl rfl (by repeat first | exact mH | apply mT | apply mA) rfl rfl rfl rfl (by repeat first | exact Upd.head | apply Upd.tail | apply Upd.app) rfl ?_
  with_reducible (apply xo_nil; (repeat first | apply xqT | apply xqB | apply xqS))
  refine xc_slots [(3, .slice D by_.length cd), (4, .pointer (some ⟨b4, 0, none⟩)), (9, .bool true), (10, .int .i64 (room : Int)), (11, .int .i64 at_), (12, valR rd xs.length), (13, .int .i64 (k : Int)), (14, .pointer (some ⟨b14, 0, none⟩)), (49, .slice (some ad) gs.length c), (50, .int .i64 (gs.length : Int)), (51, .int .i64 (k : Int))] ⟨rfl, rfl, rfl, rfl, rfl, rfl, rfl, rfl, rfl, rfl, rfl, trivial⟩ ?_
  refine xc_perm (η' := hpR 3 1 rd xs.length (xs.map (.int .i64)) ++ [(b4, true, cel (scnV n (some ad) gs.length c E B ms.length c2) 25), (b14, true, cel (gatV gt) 52)]) ((List.perm_append_comm (l₁ := [_]) (l₂ := hpR 3 1 rd xs.length (xs.map (.int .i64)) ++ [(b4, true, cel (scnV n (some ad) gs.length c E B ms.length c2) 25)])).trans (List.Perm.of_eq (List.append_assoc _ _ _))) ?_
  with_reducible (repeat apply xc_seq)
  apply xc_drawEL (fun g => [(17, .slice (some ⟨(g.getD 0 gv0).b, 0, none⟩) 1 1), (18, .slice (some ⟨(g.getD 1 gv0).b, 0, none⟩) (xs.length + 1) (g.getD 1 gv0).c), (19, .slice (some ⟨(g.getD 1 gv0).b, 0, none⟩) (xs.length + 1) (g.getD 1 gv0).c)]) (fun (η0 : Hp) g => match g with | [] => (η0) | a0 :: [] => ((a0.b, true, cel [.int .i64 (gt.f2.f0 + chooseF by_ k % (gt.f2.f1 - gt.f2.f0 + 1))] 3) :: η0) | a0 :: a1 :: _ => ((a1.b, true, orow 3 1 (xs.length + 1) a1.c (xs.map (.int .i64) ++ [.int .i64 (gt.f2.f0 + chooseF by_ k % (gt.f2.f1 - gt.f2.f0 + 1))])) :: [(b4, true, cel (scnV n (some ad) gs.length c E B ms.length c2) 25), (b14, true, cel (gatV gt) 52)])) (fun _ => True) [0, 0, 0, 0, 0, 0, 0, 0, 0, 0, 0, 0, 0, 0, 0, 0, 0, 1, 2, 2] [17, 18] [[16], [0, 17, 6]] (by trivial)
  apply SameLen.cons
  apply SameLen.cons
  apply SameLen.cons
  apply SameLen.cons
  apply SameLen.cons
  apply SameLen.cons
  apply SameLen.cons
  apply SameLen.cons
  apply SameLen.cons
  apply SameLen.cons
  apply SameLen.cons
  apply SameLen.cons
  apply SameLen.cons
  apply SameLen.cons
  apply SameLen.cons
  apply SameLen.cons
  apply SameLen.cons
  apply SameLen.cons (c := undef)
  apply SameLen.cons (c := undef)
  apply SameLen.cons (c := undef)
  exact SameLen.nil
  rotate_left 17
  case hH0 => rfl
  case hmix => exact T_.mixed
  case hbind => rfl
  case hdeps => rfl
  case hdist => rfl
  case hfresh => rfl
  case hlast => rfl
  case hE => rfl
  case hEn => decide
  ·refine DrawE.pure 0 1 rfl (.inr (by decide)) (fun L g hg hd => Nat.zero_le _) (fun g hlo hhi hF τ => ?_) ?_
   ·rcases g with _ | ⟨a0, _ | ⟨a1, _ | ⟨a2, g⟩⟩⟩ <;> first | (simp only [lenC, lenN] at hlo hhi; omega) | (refine ⟨_, rfl, ?_⟩; refine xo_mv rfl rfl rfl ?_; exact xo_fin rfl)
   refine DrawE.pure 0 2 rfl (.inl rfl) (fun L g hg hd => Nat.zero_le _) (fun g hlo hhi hF τ => ?_) ?_
   ·rcases g with _ | ⟨a0, _ | ⟨a1, _ | ⟨a2, g⟩⟩⟩ <;> first | (simp only [lenC, lenN] at hlo hhi; omega) | (refine ⟨_, rfl, ?_⟩; refine xo_fa T_ rfl rfl rfl rfl rfl ?_; exact xo_fin rfl)
   refine DrawE.pure 0 2 rfl (.inl rfl) (fun L g hg hd => Nat.zero_le _) (fun g hlo hhi hF τ => ?_) ?_
   ·rcases g with _ | ⟨a0, _ | ⟨a1, _ | ⟨a2, g⟩⟩⟩ <;> first | (simp only [lenC, lenN] at hlo hhi; omega) | (refine ⟨_, rfl, ?_⟩; refine xo_fa T_ rfl rfl rfl rfl rfl ?_; exact xo_fin rfl)
   refine DrawE.pure 0 2 rfl (.inl rfl) (fun L g hg hd => Nat.zero_le _) (fun g hlo hhi hF τ => ?_) ?_
   ·rcases g with _ | ⟨a0, _ | ⟨a1, _ | ⟨a2, g⟩⟩⟩ <;> first | (simp only [lenC, lenN] at hlo hhi; omega) | (refine ⟨_, rfl, ?_⟩; refine xo_load0 T_ rfl rfl rfl (by repeat first | exact mH | apply mT | apply mA) rfl rfl ?_; exact xo_fin rfl)
   refine DrawE.pure 0 2 rfl (.inl rfl) (fun L g hg hd => Nat.zero_le _) (fun g hlo hhi hF τ => ?_) ?_
   ·rcases g with _ | ⟨a0, _ | ⟨a1, _ | ⟨a2, g⟩⟩⟩ <;> first | (simp only [lenC, lenN] at hlo hhi; omega) | (refine ⟨_, rfl, ?_⟩; refine xo_mv rfl rfl rfl ?_; exact xo_fin rfl)
   refine DrawE.pure 0 2 rfl (.inl rfl) (fun L g hg hd => Nat.zero_le _) (fun g hlo hhi hF τ => ?_) ?_
   ·rcases g with _ | ⟨a0, _ | ⟨a1, _ | ⟨a2, g⟩⟩⟩ <;> first | (simp only [lenC, lenN] at hlo hhi; omega) | (refine ⟨_, rfl, ?_⟩; refine xo_mv rfl rfl rfl ?_; exact xo_fin rfl)
   refine DrawE.pure 0 1 rfl (.inr (by decide)) (fun L g hg hd => Nat.zero_le _) (fun g hlo hhi hF τ => ?_) ?_
   ·rcases g with _ | ⟨a0, _ | ⟨a1, _ | ⟨a2, g⟩⟩⟩ <;> first | (simp only [lenC, lenN] at hlo hhi; omega) | (refine ⟨_, rfl, ?_⟩; refine xo_callB (fs := []) (cs := []) rfl rfl rfl choose_enters rfl (fun w1 hw1 => choose_calls D cd by_ k w1 (RowOf.below hD hw1.kx.below) hby (by omega) hbl) ?_; exact xo_fin rfl)
   refine DrawE.pure 0 2 rfl (.inl rfl) (fun L g hg hd => Nat.zero_le _) (fun g hlo hhi hF τ => ?_) ?_
   ·rcases g with _ | ⟨a0, _ | ⟨a1, _ | ⟨a2, g⟩⟩⟩ <;> first | (simp only [lenC, lenN] at hlo hhi; omega) | (refine ⟨_, rfl, ?_⟩; refine xo_fa T_ rfl rfl rfl rfl rfl ?_; exact xo_fin rfl)
   refine DrawE.pure 0 2 rfl (.inl rfl) (fun L g hg hd => Nat.zero_le _) (fun g hlo hhi hF τ => ?_) ?_
   ·rcases g with _ | ⟨a0, _ | ⟨a1, _ | ⟨a2, g⟩⟩⟩ <;> first | (simp only [lenC, lenN] at hlo hhi; omega) | (refine ⟨_, rfl, ?_⟩; refine xo_fa T_ rfl rfl rfl rfl rfl ?_; exact xo_fin rfl)
   refine DrawE.pure 0 2 rfl (.inl rfl) (fun L g hg hd => Nat.zero_le _) (fun g hlo hhi hF τ => ?_) ?_
   ·rcases g with _ | ⟨a0, _ | ⟨a1, _ | ⟨a2, g⟩⟩⟩ <;> first | (simp only [lenC, lenN] at hlo hhi; omega) | (refine ⟨_, rfl, ?_⟩; refine xo_load0 T_ rfl rfl rfl (by repeat first | exact mH | apply mT | apply mA) rfl rfl ?_; exact xo_fin rfl)
   refine DrawE.pure 0 2 rfl (.inl rfl) (fun L g hg hd => Nat.zero_le _) (fun g hlo hhi hF τ => ?_) ?_
   ·rcases g with _ | ⟨a0, _ | ⟨a1, _ | ⟨a2, g⟩⟩⟩ <;> first | (simp only [lenC, lenN] at hlo hhi; omega) | (refine ⟨_, rfl, ?_⟩; refine xo_fa T_ rfl rfl rfl rfl rfl ?_; exact xo_fin rfl)
   refine DrawE.pure 0 2 rfl (.inl rfl) (fun L g hg hd => Nat.zero_le _) (fun g hlo hhi hF τ => ?_) ?_
   ·rcases g with _ | ⟨a0, _ | ⟨a1, _ | ⟨a2, g⟩⟩⟩ <;> first | (simp only [lenC, lenN] at hlo hhi; omega) | (refine ⟨_, rfl, ?_⟩; refine xo_fa T_ rfl rfl rfl rfl rfl ?_; exact xo_fin rfl)
   refine DrawE.pure 0 2 rfl (.inl rfl) (fun L g hg hd => Nat.zero_le _) (fun g hlo hhi hF τ => ?_) ?_
   ·rcases g with _ | ⟨a0, _ | ⟨a1, _ | ⟨a2, g⟩⟩⟩ <;> first | (simp only [lenC, lenN] at hlo hhi; omega) | (refine ⟨_, rfl, ?_⟩; refine xo_load0 T_ rfl rfl rfl (by repeat first | exact mH | apply mT | apply mA) rfl rfl ?_; exact xo_fin rfl)
   refine DrawE.pure 0 2 rfl (.inl rfl) (fun L g hg hd => Nat.zero_le _) (fun g hlo hhi hF τ => ?_) ?_
   ·rcases g with _ | ⟨a0, _ | ⟨a1, _ | ⟨a2, g⟩⟩⟩ <;> first | (simp only [lenC, lenN] at hlo hhi; omega) | (refine ⟨_, rfl, ?_⟩; refine xo_sub rfl rfl rfl (by omega) rfl ?_; exact xo_fin rfl)
   refine DrawE.pure 0 2 rfl (.inl rfl) (fun L g hg hd => Nat.zero_le _) (fun g hlo hhi hF τ => ?_) ?_
   ·rcases g with _ | ⟨a0, _ | ⟨a1, _ | ⟨a2, g⟩⟩⟩ <;> first | (simp only [lenC, lenN] at hlo hhi; omega) | (refine ⟨_, rfl, ?_⟩; refine xo_add rfl rfl rfl (by omega) rfl ?_; exact xo_fin rfl)
   refine DrawE.pure 0 2 rfl (.inl rfl) (fun L g hg hd => Nat.zero_le _) (fun g hlo hhi hF τ => ?_) ?_
   ·rcases g with _ | ⟨a0, _ | ⟨a1, _ | ⟨a2, g⟩⟩⟩ <;> first | (simp only [lenC, lenN] at hlo hhi; omega) | (refine ⟨_, rfl, ?_⟩; refine xo_rem rfl rfl rfl (by omega) (by omega) rfl ?_; exact xo_fin rfl)
   refine DrawE.pure 0 0 rfl (.inr (by decide)) (fun L g hg hd => Nat.zero_le _) (fun g hlo hhi hF τ => ?_) ?_
   ·rcases g with _ | ⟨a0, _ | ⟨a1, _ | ⟨a2, g⟩⟩⟩ <;> first | (simp only [lenC, lenN] at hlo hhi; omega) | (refine ⟨_, rfl, ?_⟩; refine xo_add rfl rfl rfl (by omega) rfl ?_; exact xo_fin rfl)
   refine DrawE.eff 0 rfl (by decide) rfl (fun j hj => hj) (fun j g a hj => ?_) (fun L g hg hd => Nat.zero_le _) (fun g hgl hF τ => ?_) ?_
   ·rcases j with _ | _ | _ | _ | _ | _ | _ | _ | _ | _ | _ | _ | _ | _ | _ | _ | _ | _ | _ | _ | j
    all_goals first | rfl | (rcases g with _ | ⟨a0, _ | ⟨a1, _ | ⟨a2, g⟩⟩⟩ <;> first | rfl | exact absurd hj (by decide) | exact absurd hj (by simp [List.getD]))
   ·obtain rfl : g = [] := by
     rcases g with _ | ⟨a0, g⟩ <;> first | rfl | (exfalso; simp only [List.length_cons, List.length_nil] at hgl; omega)
    refine xo_bs1 T_ rfl rfl rfl rfl rfl rfl rfl rfl (fun b84 => ?_)
    exact xo_finE ⟨b84, 0, none⟩ rfl trivial
   refine DrawE.eff 1 rfl (by decide) rfl (fun j hj => hj) (fun j g a hj => ?_) (fun L g hg hd => hg.2.1 17 (hd 17 (by decide))) (fun g hgl hF τ => ?_) ?_
   ·rcases j with _ | _ | _ | _ | _ | _ | _ | _ | _ | _ | _ | _ | _ | _ | _ | _ | _ | _ | _ | _ | j
    all_goals first | rfl | (rcases g with _ | ⟨a0, _ | ⟨a1, _ | ⟨a2, g⟩⟩⟩ <;> first | rfl | exact absurd hj (by decide) | exact absurd hj (by simp [List.getD]))
   ·obtain ⟨a0, rfl⟩ : ∃ a0, g = [a0] := by
     rcases g with _ | ⟨a0, _ | ⟨a1, _ | ⟨a2, g⟩⟩⟩ <;> first | exact ⟨_, rfl⟩ | rfl | (exfalso; simp only [List.length_cons, List.length_nil] at hgl; omega)
    refine xo_app TR_ (r := rd) (m := xs.length) (xs := xs.map (.int .i64)) (η0 := [(b4, true, cel (scnV n (some ad) gs.length c E B ms.length c2) 25), (b14, true, cel (gatV gt) 52)]) rfl rfl rfl rfl rfl rfl rfl rfl (by rw [List.length_map, Nat.mul_one]) rfl rfl hrr (by omega) rfl rfl (fun r99 hr99 => ?_)
    rcases r99 with _ | ⟨b99, k99⟩
    ·exact absurd rfl hr99
    exact xo_finE ⟨b99, k99, none⟩ rfl trivial
   refine DrawE.pure 2 2 rfl (.inl rfl) (fun L g hg hd => hg.2.1 18 (hd 18 (by decide))) (fun g hlo hhi hF τ => ?_) ?_
   ·rcases g with _ | ⟨a0, _ | ⟨a1, _ | ⟨a2, g⟩⟩⟩ <;> first | (simp only [lenC, lenN] at hlo hhi; omega) | (refine ⟨_, rfl, ?_⟩; refine xo_asg rfl rfl rfl ?_; exact xo_fin rfl)
   exact DrawE.nil
  intro g hgl hF
  obtain ⟨a0, a1, rfl⟩ : ∃ a0 a1, g = [a0, a1] := by
   rcases g with _ | ⟨a0, _ | ⟨a1, _ | ⟨a2, g⟩⟩⟩ <;> first | exact ⟨_, _, rfl⟩ | (exfalso; simp only [List.length_cons, List.length_nil] at hgl; omega)
  with_reducible (repeat first | apply xqT | apply xqB | apply xqS)
  refine xc_slots [(3, .slice D by_.length cd), (4, .pointer (some ⟨b4, 0, none⟩)), (9, .bool true), (10, .int .i64 (room : Int)), (11, .int .i64 at_), (12, .slice (some ⟨a1.b, 0, none⟩) (xs.length + 1) a1.c), (49, .slice (some ad) gs.length c), (50, .int .i64 (gs.length : Int)), (51, .int .i64 (k : Int))] ⟨rfl, rfl, rfl, rfl, rfl, rfl, rfl, rfl, rfl, trivial⟩ ?_
  with_reducible ((repeat apply xc_seq); apply xcR)
  refine xo_add rfl rfl rfl (by omega) rfl ?_
  refine xo_mv rfl rfl rfl ?_
  with_reducible (apply xo_nil; (repeat first | apply xqT | apply xqB | apply xqS))
  exact xq_again _ _ _ _ _ (k + 1, some (a1.b, a1.c)) ⟨hlt, fun q => by cases q⟩ (by simp only; omega) ⟨rfl, rfl, rfl, rfl, rfl, by rw [hdk, List.length_append]; rfl, rfl, rfl, rfl, trivial⟩ (by rw [hdk, List.length_append, List.map_append]; exact List.Sublist.cons_cons _ (List.Sublist.cons_cons _ (List.nil_sublist _)))
 have hge : k = gs.length := by have := of_decide_eq_false h; omega
 subst hge
 with_reducible (apply xc_exit; (repeat (first | apply xq_blockX | apply xq_thenE | refine xq_blockE rfl ?_ | apply xq_scopeE)); (repeat first | apply xqT | apply xqB | apply xqS))
 have hl : okD gs (delK gs by_ gs.length) := delK_ok hG by_
 have hrd : rd = none → (delK gs by_ gs.length).length = 0 := hrr
 generalize delK gs by_ gs.length = l at hl hrd ⊢
 clear hrr hk1
 refine xc_slots [(4, .pointer (some ⟨b4, 0, none⟩)), (9, .bool true), (10, .int .i64 (room : Int)), (11, .int .i64 at_), (12, .slice (valA rd) l.length (valC rd))] ⟨rfl, rfl, rfl, rfl, congrArg some (valR_eq hrd), trivial⟩ ?_
 with_reducible ((repeat apply xc_seq); apply xcR)
 refine xo_loadN T_ rfl rfl rfl (by repeat first | exact mH | apply mT | apply mA) rfl rfl ?_
 refine xo_alloc T_ rfl rfl rfl rfl (fun b15 => ?_)
 refine xo_store T_ rfl rfl rfl rfl (by repeat first | exact mH | apply mT | apply mA) rfl rfl rfl rfl (by repeat first | exact Upd.head | apply Upd.tail | apply Upd.app) rfl ?_
 with_reducible (apply xo_nil; (repeat first | apply xqT | apply xqB | apply xqS); (repeat apply xc_seq); apply xcR)
 refine xo_fa T_ rfl rfl rfl rfl rfl ?_
 refine xo_store T_ rfl rfl rfl rfl (by repeat first | exact mH | apply mT | apply mA) rfl rfl rfl rfl (by repeat first | exact Upd.head | apply Upd.tail | apply Upd.app) rfl ?_
 with_reducible (apply xo_nil; (repeat first | apply xqT | apply xqB | apply xqS); (repeat apply xc_seq); apply xcR)
 refine xo_loadN T_ rfl rfl rfl (by repeat first | exact mH | apply mT | apply mA) rfl rfl ?_
 refine xo_mv rfl rfl rfl ?_
 refine xo_mv rfl rfl rfl ?_
 refine xo_mv rfl rfl rfl ?_
 refine xo_call (fs := []) (cs := []) rfl rfl rfl comes_enters rfl (fun w1 hw1 => (comes_calls n E A B (valA rd) c ms.length c2 (valC rd) gs l room at_ w1 ⟨hn1, hn6⟩ hG hl (hgr4.below hw1.kx.below) (intsAt_row (hw1.bl_of (fun e he => by repeat (first | exact he | exact List.mem_append_left _ he | apply List.mem_append_right | apply List.Mem.tail))) hrd) hrn ⟨hat.1, by omega⟩).mono ?_)
 rintro e w2 ⟨b82, rfl, hz⟩
 refine ⟨_, _, rfl, hw1.join hz (fun e he => by rw [List.mem_singleton.1 he]), ?_⟩
 clear hz hw1
 refine xo_asg rfl rfl rfl ?_
 with_reducible (apply xo_nil; (repeat first | apply xqT | apply xqB | apply xqS); (repeat apply xc_seq); apply xcR)
 refine xo_fa T_ rfl rfl rfl rfl rfl ?_
 refine xo_load0 T_ rfl rfl rfl (by repeat first | exact mH | apply mT | apply mA) rfl rfl ?_
 refine xo_len T_ rfl rfl rfl rfl ?_
 refine xo_mv rfl rfl rfl ?_
 with_reducible (apply xo_nil; (repeat first | apply xqT | apply xqB | apply xqS))
 have hci := came_in ⟨hn1, hn6⟩ hG hl hrn (minute := at_) ⟨hat.1, by omega⟩
 obtain ⟨hSa, hmkR⟩ := sane_of (R := n) rfl hsc
 with_reducible ((repeat apply xc_seq); apply xc_block)
 refine xc_loop (γ := Nat × RowR) (fun q => q.1 ≤ ms.length ∧ (q.2 = none → ((ms.take q.1).filter (fun m => soF E m (cameL n gs l room at_))).length = 0)) (fun q => [(4, .pointer (some ⟨b4, 0, none⟩)), (9, .bool true), (10, .int .i64 (room : Int)), (11, .int .i64 at_), (12, .slice (valA rd) l.length (valC rd)), (15, .pointer (some ⟨b15, 0, none⟩)), (16, .slice (some ⟨b82, 0, none⟩) n n), (84, .slice B ms.length c2), (85, .int .i64 (ms.length : Int)), (86, .int .i64 (q.1 : Int))])
  (fun q => hpR 56 7 q.2 ((ms.take q.1).filter (fun m => soF E m (cameL n gs l room at_))).length (marL ((ms.take q.1).filter (fun m => soF E m (cameL n gs l room at_)))) ++ ((b82, true, cel (rowD n (cameL n gs l room at_)) 3) :: (b15, true, cel [.int .i64 (n : Int), .slice A gs.length c, .int .i64 E, valR q.2 ((ms.take q.1).filter (fun m => soF E m (cameL n gs l room at_))).length] 25) :: (hpR 3 1 rd l.length (l.map (.int .i64)) ++ [(b4, true, cel (scnV n A gs.length c E B ms.length c2) 25)]))) (fun q => ms.length - q.1) (0, none) ⟨Nat.zero_le _, fun _ => rfl⟩ ⟨rfl, rfl, rfl, rfl, rfl, rfl, rfl, rfl, rfl, rfl, trivial⟩ (List.Sublist.refl _) ?_
 rintro ⟨k, rr⟩ ⟨hk1, hrr⟩
 simp only at hk1 hrr
 with_reducible ((repeat apply xc_seq); apply xcR)
 refine xo_lss rfl rfl rfl rfl ?_
 with_reducible (apply xo_nil; (repeat first | apply xqT | apply xqB | apply xqS); (repeat apply xc_seq))
 refine xc_cond rfl (fun h => ?_) (fun h => ?_)
 ·have hlt : k < ms.length := by have := of_decide_eq_true h; omega
  have hst : ((ms.take (k + 1)).filter (fun m => soF E m (cameL n gs l room at_))) = if soF E (ms.getD k zMar) (cameL n gs l room at_) = true then ((ms.take k).filter (fun m => soF E m (cameL n gs l room at_))) ++ [ms.getD k zMar] else ((ms.take k).filter (fun m => soF E m (cameL n gs l room at_))) := by
   rw [take_get zMar hlt, List.filter_append, List.filter_cons, List.filter_nil]
   split <;> simp
  have hfl : ((ms.take k).filter (fun m => soF E m (cameL n gs l room at_))).length ≤ 8 := Nat.le_trans (List.length_filter_le _ _) (by rw [List.length_take]; omega)
  have hmi := hmkR _ (getD_mem ms zMar k hlt)
  obtain ⟨ad, rfl, q1⟩ := hmr7 k hlt
  generalize ((ms.take k).filter (fun m => soF E m (cameL n gs l room at_))) = ls at hst hrr hfl ⊢
  generalize ms.getD k zMar = m at hst hmi q1
  with_reducible (apply xc_skip; (repeat first | apply xqT | apply xqB | apply xqS); (repeat apply xc_seq); apply xc_block)
  cases hso : soF E m (cameL n gs l room at_)
  ·rw [hso, if_neg Bool.false_ne_true] at hst
   with_reducible ((repeat apply xc_seq); apply xcR)
   refine xo_ia T_ rfl rfl rfl rfl rfl ⟨by omega, by omega⟩ rfl ?_
   refine xo_loadRN T_ rfl rfl rfl q1 rfl rfl ?_
   refine xo_alloc T_ rfl rfl rfl rfl (fun b18 => ?_)
   refine xo_store T_ rfl rfl rfl rfl (by repeat first | exact mH | apply mT | apply mA) rfl rfl rfl rfl (by repeat first | exact Upd.head | apply Upd.tail | apply Upd.app) rfl ?_
   with_reducible (apply xo_nil; (repeat first | apply xqT | apply xqB | apply xqS); (repeat apply xc_seq); apply xcR)
   refine xo_loadN T_ rfl rfl rfl (by repeat first | exact mH | apply mT | apply mA) rfl rfl ?_
   refine xo_loadN T_ rfl rfl rfl (by repeat first | exact mH | apply mT | apply mA) rfl rfl ?_
   refine xo_mv rfl rfl rfl ?_
   refine xo_callB (fs := []) (cs := []) rfl rfl rfl so_enters rfl (fun w1 hw1 => so_calls n E A (some ad) (some ⟨b82, 0, none⟩) c c2 n n gs.length ms.length m (cameL n gs l room at_) w1 (atsAt_row (hw1.bl_of fun e he => by rw [List.mem_singleton.1 he]; exact (by repeat first | exact mH | apply mT | apply mA))) hmi.room hmi.other hE6 (hci _ (by have := hmi.room; omega))) ?_
   refine xo_as (i := 93) rfl (congrArg Value.bool hso) ?_
   with_reducible (apply xo_nil; (repeat first | apply xqT | apply xqB | apply xqS); (repeat apply xc_seq))
   refine xc_condF rfl ?_
   with_reducible (apply xc_skip; (repeat first | apply xqT | apply xqB | apply xqS); (repeat apply xc_seq); apply xcR)
   refine xo_add rfl rfl rfl (by omega) rfl ?_
   refine xo_mv rfl rfl rfl ?_
   with_reducible (apply xo_nil; (repeat first | apply xqT | apply xqB | apply xqS))
   exact xq_again _ _ _ _ _ (k + 1, rr) ⟨hlt, fun q => by rw [hst]; exact hrr q⟩ (by simp only; omega) ⟨rfl, rfl, rfl, rfl, rfl, rfl, rfl, rfl, rfl, rfl, trivial⟩ (by rw [hst]; exact List.sublist_cons_self _ _)
  ·rw [hso, if_pos rfl] at hst
   with_reducible ((repeat apply xc_seq); apply xcR)
   refine xo_ia T_ rfl rfl rfl rfl rfl ⟨by omega, by omega⟩ rfl ?_
   refine xo_loadRN T_ rfl rfl rfl q1 rfl rfl ?_
   refine xo_alloc T_ rfl rfl rfl rfl (fun b18 => ?_)
   refine xo_store T_ rfl rfl rfl rfl (by repeat first | exact mH | apply mT | apply mA) rfl rfl rfl rfl (by repeat first | exact Upd.head | apply Upd.tail | apply Upd.app) rfl ?_
   with_reducible (apply xo_nil; (repeat first | apply xqT | apply xqB | apply xqS); (repeat apply xc_seq); apply xcR)
   refine xo_loadN T_ rfl rfl rfl (by repeat first | exact mH | apply mT | apply mA) rfl rfl ?_
   refine xo_loadN T_ rfl rfl rfl (by repeat first | exact mH | apply mT | apply mA) rfl rfl ?_
   refine xo_mv rfl rfl rfl ?_
   refine xo_callB (fs := []) (cs := []) rfl rfl rfl so_enters rfl (fun w1 hw1 => so_calls n E A (some ad) (some ⟨b82, 0, none⟩) c c2 n n gs.length ms.length m (cameL n gs l room at_) w1 (atsAt_row (hw1.bl_of fun e he => by rw [List.mem_singleton.1 he]; exact (by repeat first | exact mH | apply mT | apply mA))) hmi.room hmi.other hE6 (hci _ (by have := hmi.room; omega))) ?_
   refine xo_as (i := 93) rfl (congrArg Value.bool hso) ?_
   with_reducible (apply xo_nil; (repeat first | apply xqT | apply xqB | apply xqS); (repeat apply xc_seq))
   refine xc_condT rfl ?_
   with_reducible ((repeat apply xc_seq); apply xcR)
   refine xo_fa T_ rfl rfl rfl rfl rfl ?_
   refine xo_load0 T_ rfl rfl rfl (by repeat first | exact mH | apply mT | apply mA) rfl rfl ?_
   refine xo_loadN T_ rfl rfl rfl (by repeat first | exact mH | apply mT | apply mA) rfl rfl ?_
   refine xo_bsG T_ 7 rfl rfl rfl rfl rfl rfl rfl rfl rfl rfl (fun b97 => ?_)
   refine xo_less (η' := (b97, true, cel (marV m) 56) :: (hpR 56 7 rr ls.length (marL ls) ++ ((b82, true, cel (rowD n (cameL n gs l room at_)) 3) :: (b15, true, cel [.int .i64 (n : Int), .slice A gs.length c, .int .i64 E, valR rr ls.length] 25) :: (hpR 3 1 rd l.length (l.map (.int .i64)) ++ [(b4, true, cel (scnV n A gs.length c E (some ad) ms.length c2) 25)])))) (List.Sublist.cons_cons _ (List.sublist_cons_self _ _)) ?_
   refine xo_app TR_ rfl rfl rfl rfl rfl rfl rfl rfl (marL_len ls) rfl rfl hrr (by omega) rfl rfl (fun r' hr' => ?_)
   rcases r' with _ | ⟨rb, rc⟩
   ·exact absurd rfl hr'
   refine xo_fa T_ rfl rfl rfl rfl rfl ?_
   refine xo_store T_ rfl rfl rfl rfl (by repeat first | exact mH | apply mT | apply mA) rfl rfl rfl rfl (by repeat first | exact Upd.head | apply Upd.tail | apply Upd.app) rfl ?_
   with_reducible (apply xo_nil; (repeat first | apply xqT | apply xqB | apply xqS); (repeat apply xc_seq); apply xcR)
   refine xo_add rfl rfl rfl (by omega) rfl ?_
   refine xo_mv rfl rfl rfl ?_
   with_reducible (apply xo_nil; (repeat first | apply xqT | apply xqB | apply xqS))
   exact xq_again _ _ _ _ _ (k + 1, some (rb, rc)) ⟨hlt, fun q => by cases q⟩ (by simp only; omega) ⟨rfl, rfl, rfl, rfl, rfl, rfl, rfl, rfl, rfl, rfl, trivial⟩ (by rw [hst, List.length_append, marL_app]; exact List.Sublist.refl _)
 have hge : k = ms.length := by have := of_decide_eq_false h; omega
 subst hge
 with_reducible (apply xc_exit; (repeat (first | apply xq_blockX | apply xq_thenE | refine xq_blockE rfl ?_ | apply xq_scopeE)); (repeat first | apply xqT | apply xqB | apply xqS))
 rw [List.take_length] at hrr ⊢
 have hT := real_told hsc hl hrn (minute := at_) ⟨hat.1, by omega⟩
 have hbM : BytesK (realL n E gs ms l room at_) := fun m hm => hk m (List.mem_filter.1 hm).1
 have hM8 : (realL n E gs ms l room at_).length ≤ 8 := Nat.le_trans (List.length_filter_le _ _) hm8
 change rr = none → (realL n E gs ms l room at_).length = 0 at hrr
 change XC _ _ _ _ _ _ _ _ _ (hpR 56 7 rr (realL n E gs ms l room at_).length (marL (realL n E gs ms l room at_)) ++ ((b82, true, cel (rowD n (cameL n gs l room at_)) 3) :: (b15, true, cel [.int .i64 (n : Int), .slice A gs.length c, .int .i64 E, valR rr (realL n E gs ms l room at_).length] 25) :: (hpR 3 1 rd l.length (l.map (.int .i64)) ++ [(b4, true, cel (scnV n A gs.length c E B ms.length c2) 25)]))) _
 generalize realL n E gs ms l room at_ = M at hT hbM hM8 hrr ⊢
 rw [valR_eq hrr]
 have hsr : ∀ {η : Hp} {w1 : World}, WOK w XNone η w1 → BlIn (hpR 56 7 rr M.length (marL M)) w1 → SceneAt w1 A (valA rr) gs M := fun {η w1} hw1 m1 =>
  ⟨Kd.C_below hA hw1.kx.below, marks_R (by omega) m1 hrr, hbM, hglob.below hw1.kx.below⟩
 with_reducible ((repeat apply xc_seq); apply xcR)
 refine xo_loadN T_ rfl rfl rfl (by repeat first | exact mH | apply mT | apply mA) rfl rfl ?_
 refine xo_mv rfl rfl rfl ?_
 refine xo_call (fs := []) (cs := []) rfl rfl rfl Minutes_enters rfl (fun w1 hw1 => (Minutes_calls n E A (valA rr) c (valC rr) gs M room w1 (hsr hw1 (hw1.bl_of (fun e he => by repeat (first | exact he | exact List.mem_append_left _ he | apply List.mem_append_right | apply List.Mem.tail))))).mono ?_)
 rw [hT.minutes]
 rintro e w2 ⟨r19, rfl, hrw, hb⟩
 have hh19 := hrw.1
 refine ⟨_, _, rfl, hw1.rowZ hb hrw, ?_⟩
 clear hrw hb hw1
 refine xo_mv rfl rfl rfl ?_
 refine xo_ext rfl rfl rfl rfl ?_
 refine xo_ext rfl rfl rfl rfl ?_
 refine xo_asg rfl rfl rfl ?_
 refine xo_asg rfl rfl rfl ?_
 with_reducible (apply xo_nil; (repeat first | apply xqT | apply xqB | apply xqS); (repeat apply xc_seq); apply xcR)
 refine xo_loadN T_ rfl rfl rfl (by repeat first | exact mH | apply mT | apply mA) rfl rfl ?_
 refine xo_mv rfl rfl rfl ?_
 refine xo_mv rfl rfl rfl ?_
 refine xo_call (fs := []) (cs := []) rfl rfl rfl Truth_enters rfl (fun w1 hw1 => (Truth_calls n E A (valA rr) c (valC rr) gs M room at_ w1 (hsr hw1 (hw1.bl_of (fun e he => by repeat (first | exact he | exact List.mem_append_left _ he | apply List.mem_append_right | apply List.Mem.tail))))).mono ?_)
 rw [hT.truth]
 rintro e w2 ⟨r21, rfl, hrw, hb⟩
 have hh21 := hrw.1
 refine ⟨_, _, rfl, hw1.row hb hrw, ?_⟩
 clear hrw hb hw1
 refine xo_mv rfl rfl rfl ?_
 refine xo_ext rfl rfl rfl rfl ?_
 refine xo_ext rfl rfl rfl rfl ?_
 refine xo_asg rfl rfl rfl ?_
 refine xo_asg rfl rfl rfl ?_
 with_reducible (apply xo_nil; (repeat first | apply xqT | apply xqB | apply xqS); (repeat apply xc_seq); apply xcR)
 refine xo_loadN T_ rfl rfl rfl (by repeat first | exact mH | apply mT | apply mA) rfl rfl ?_
 refine xo_call (fs := []) (cs := []) rfl rfl rfl Against_enters rfl (fun w1 hw1 => (Against_calls n E A (valA rr) c (valC rr) gs M w1 (hsr hw1 (hw1.bl_of (fun e he => by repeat (first | exact he | exact List.mem_append_left _ he | apply List.mem_append_right | apply List.Mem.tail))))).mono ?_)
 rw [hT.check, hT.against]
 rintro e w2 ⟨r23, rfl, hrw, hb⟩
 have hh23 := hrw.1
 refine ⟨_, _, rfl, hw1.row hb hrw, ?_⟩
 clear hrw hb hw1
 refine xo_mv rfl rfl rfl ?_
 refine xo_ext rfl rfl rfl rfl ?_
 refine xo_ext rfl rfl rfl rfl ?_
 refine xo_asg rfl rfl rfl ?_
 refine xo_asg rfl rfl rfl ?_
 with_reducible (apply xo_nil; (repeat first | apply xqT | apply xqB | apply xqS); (repeat apply xc_seq); apply xcR)
 refine xo_loadN T_ rfl rfl rfl (by repeat first | exact mH | apply mT | apply mA) rfl rfl ?_
 refine xo_callB (fs := []) (cs := []) rfl rfl rfl Named_enters rfl (fun w1 hw1 => Named_calls n E A (valA rr) c (valC rr) gs M w1 (hsr hw1 (hw1.bl_of (fun e he => by repeat (first | exact he | exact List.mem_append_left _ he | apply List.mem_append_right | apply List.Mem.tail))))) ?_
 refine xo_mv rfl rfl rfl ?_
 refine xo_ext rfl rfl rfl rfl ?_
 refine xo_ext rfl rfl rfl rfl ?_
 refine xo_asg rfl rfl rfl ?_
 refine xo_asg rfl rfl rfl ?_
 with_reducible (apply xo_nil; (repeat first | apply xqT | apply xqB | apply xqS))
 have hh19 : r19 = none → (minutesL n E gs M room).length = 0 := hh19
 have hh21 : r21 = none → (truthL n E gs M room at_).length = 0 := fun q => by rw [hh21 q]; rfl
 have hh23 : r23 = none → ([] : List Int).length = 0 := fun _ => rfl
 refine xc_slots [(9, .bool true), (10, .int .i64 (room : Int)), (11, .int .i64 at_), (12, .slice (valA rd) l.length (valC rd)), (15, .pointer (some ⟨b15, 0, none⟩)), (19, .slice (valA r19) (minutesL n E gs M room).length (valC r19)), (20, .int .i64 0), (21, .slice (valA r21) (truthL n E gs M room at_).length (valC r21)), (22, .int .i64 0), (23, .slice (valA r23) 0 (valC r23)), (24, .int .i64 0), (25, .int .i64 (namedV n E gs M)), (26, .int .i64 (namedC n E gs M))] ⟨rfl, rfl, rfl, rfl, rfl, congrArg some (valR_eq hh19), rfl, congrArg some (valR_eq hh21), rfl, congrArg some (valR_eq hh23), rfl, rfl, rfl, trivial⟩ ?_
 refine xc_anew fun w3 hw3 => ?_
 have h19 : SpansAt w3 (valA r19) (minutesL n E gs M room) := spansAt_row (hw3.bl_of (fun e he => by repeat (first | exact he | exact List.mem_append_left _ he | apply List.mem_append_right | apply List.Mem.tail))) hh19
 have h21 : IntsAt w3 (valA r21) (truthL n E gs M room at_) := intsAt_row (hw3.bl_of (fun e he => by repeat (first | exact he | exact List.mem_append_left _ he | apply List.mem_append_right | apply List.Mem.tail))) hh21
 have h12 : IntsAt w3 (valA rd) l := intsAt_row (hw3.bl_of (fun e he => by repeat (first | exact he | exact List.mem_append_left _ he | apply List.mem_append_right | apply List.Mem.tail))) hrd
 have h15 : RO w3 XNone ⟨b15, 0, none⟩ (scnV n A gs.length c E (valA rr) M.length (valC rr)) := hw3.ro (wr := true) (t := 25) (by repeat first | exact mH | apply mT | apply mA)
 have hs3 : SceneAt w3 A (valA rr) gs M := hsr hw3 (hw3.bl_of (fun e he => by repeat (first | exact he | exact List.mem_append_left _ he | apply List.mem_append_right | apply List.Mem.tail)))
 have hblw := hw3.kx.below
 have hl19 : (minutesL n E gs M room).length ≤ 601 := minutes_few hE6
 have k2 : (!insideF (minutesL n E gs M room) at_ (minutesL n E gs M room).length) = false := by rw [hT.inside]; rfl
 have k3 : (!decide (((truthL n E gs M room at_).length : Int) = (l.length : Int))) = false := by rw [hT.len]; simp
 have hnm := hT.named
 have hwy := hT.why
 have hfd := hT.first
 have hln := hT.len
 have hl6 := okD_len hl
 generalize namedV n E gs M = nv at hnm ⊢
 generalize namedC n E gs M = nc at hnm ⊢
 generalize minutesL n E gs M room = L at h19 hl19 k2 ⊢
 generalize truthL n E gs M room at_ = d at h21 k3 hfd hln ⊢
 generalize valA r19 = A19 at h19 ⊢
 generalize valC r19 = c19
 generalize valA r21 = A21 at h21 ⊢
 generalize valC r21 = c21
 generalize valA rd = A12 at h12 ⊢
 generalize valC rd = c12
 with_reducible ((repeat apply xc_seq); apply xcR)
 refine xo_mv rfl rfl rfl ?_
 refine xo_neq rfl rfl rfl rfl ?_
 refine xo_mv rfl rfl rfl ?_
 (first | refine xo_not rfl rfl ?_ | refine xo_mv rfl rfl rfl ?_)
 (first | refine xo_not rfl rfl ?_ | refine xo_neq rfl rfl rfl rfl ?_)
 first | refine xo_pickT rfl rfl rfl rfl ?_ | refine xo_pickF rfl rfl rfl rfl ?_
 refine xo_mv rfl rfl rfl ?_
 (first | refine xo_not rfl rfl ?_ | refine xo_mv rfl rfl rfl ?_)
 (first | refine xo_not rfl rfl ?_ | refine xo_neq rfl rfl rfl rfl ?_)
 first | refine xo_pickT rfl rfl rfl rfl ?_ | refine xo_pickF rfl rfl rfl rfl ?_
 refine xo_mv rfl rfl rfl ?_
 (first | refine xo_not rfl rfl ?_ | refine xo_mv rfl rfl rfl ?_)
 (first | refine xo_not rfl rfl ?_ | refine xo_len T_ rfl rfl rfl rfl ?_)
 (first | refine xo_not rfl rfl ?_ | refine xo_neq rfl rfl rfl rfl ?_)
 first | refine xo_pickT rfl rfl rfl rfl ?_ | refine xo_pickF rfl rfl rfl rfl ?_
 refine xo_mv rfl rfl rfl ?_
 (first | refine xo_not rfl rfl ?_ | refine xo_mv rfl rfl rfl ?_)
 (first | refine xo_not rfl rfl ?_ | refine xo_mv rfl rfl rfl ?_)
 (first | refine xo_not rfl rfl ?_ | refine xo_callB (fs := []) (cs := []) rfl rfl rfl inside_enters rfl (fun w1 hw1 => inside_calls A19 c19 L at_ w1 (RowOf.below h19 hw1.kx.below) (by omega)) ?_)
 (first | refine xo_not rfl rfl ?_ | refine xo_notOp rfl rfl rfl ?_)
 refine xo_as (i := 143) rfl (congrArg Value.bool k2) ?_
 first | refine xo_pickT rfl rfl rfl rfl ?_ | refine xo_pickF rfl rfl rfl rfl ?_
 refine xo_mv rfl rfl rfl ?_
 (first | refine xo_not rfl rfl ?_ | refine xo_mv rfl rfl rfl ?_)
 (first | refine xo_not rfl rfl ?_ | refine xo_len T_ rfl rfl rfl rfl ?_)
 (first | refine xo_not rfl rfl ?_ | refine xo_mv rfl rfl rfl ?_)
 (first | refine xo_not rfl rfl ?_ | refine xo_len T_ rfl rfl rfl rfl ?_)
 (first | refine xo_not rfl rfl ?_ | refine xo_neq rfl rfl rfl rfl ?_)
 refine xo_as (i := 150) rfl (congrArg Value.bool k3) ?_
 first | refine xo_pickT rfl rfl rfl rfl ?_ | refine xo_pickF rfl rfl rfl rfl ?_
 with_reducible (apply xo_nil; (repeat first | apply xqT | apply xqB | apply xqS); (repeat apply xc_seq))
 refine xc_condF rfl ?_
 with_reducible (apply xc_skip; (repeat first | apply xqT | apply xqB | apply xqS); (repeat apply xc_seq); apply xcR)
 refine xo_mv rfl rfl rfl ?_
 refine xo_len T_ rfl rfl rfl rfl ?_
 refine xo_mv rfl rfl rfl ?_
 with_reducible (apply xo_nil; (repeat first | apply xqT | apply xqB | apply xqS); (repeat apply xc_seq))
 refine xc_meet2 (γ := Unit) (fun _ => True) (fun _ => [(9, .bool true), (10, .int .i64 (room : Int)), (15, .pointer (some ⟨b15, 0, none⟩)), (25, .int .i64 nv), (26, .int .i64 nc)]) (fun _ => []) ?_ (fun _ _ => ?_)
 ·with_reducible repeat apply xc_seq
  with_reducible apply xc_block
  refine xc_loop (γ := Nat) (fun k => k ≤ d.length ∧ d.take k = l.take k) (fun k => [(9, .bool true), (10, .int .i64 (room : Int)), (12, .slice A12 l.length c12), (15, .pointer (some ⟨b15, 0, none⟩)), (21, .slice A21 d.length c21), (25, .int .i64 nv), (26, .int .i64 nc), (152, .slice A21 d.length c21), (153, .int .i64 (d.length : Int)), (154, .int .i64 (k : Int))]) (fun _ => []) (fun k => d.length - k) 0 ⟨Nat.zero_le _, rfl⟩ ⟨rfl, rfl, rfl, rfl, rfl, rfl, rfl, rfl, rfl, rfl, trivial⟩ (List.nil_sublist _) ?_
  rintro k ⟨hk1, htk⟩
  with_reducible ((repeat apply xc_seq); apply xcR)
  refine xo_lss rfl rfl rfl rfl ?_
  with_reducible (apply xo_nil; (repeat first | apply xqT | apply xqB | apply xqS); (repeat apply xc_seq))
  refine xc_cond rfl (fun h => ?_) (fun h => ?_)
  ·have hlt : k < d.length := by have := of_decide_eq_true h; omega
   have hlt2 : k < l.length := by omega
   obtain ⟨ad, rfl, q1⟩ := h21 k hlt
   obtain ⟨ad2, rfl, q2⟩ := h12 k hlt2
   have hf := hfd k hlt htk
   have htd := take_get 0 hlt
   have htl := take_get 0 hlt2
   generalize d.getD k 0 = x at q1 hf htd
   generalize l.getD k 0 = y at q2 hf htl
   with_reducible (apply xc_skip; (repeat first | apply xqT | apply xqB | apply xqS); (repeat apply xc_seq); apply xc_block; (repeat apply xc_seq); apply xcR)
   refine xo_mv rfl rfl rfl ?_
   refine xo_asg rfl rfl rfl ?_
   with_reducible (apply xo_nil; (repeat first | apply xqT | apply xqB | apply xqS))
   refine xc_slots [(9, .bool true), (10, .int .i64 (room : Int)), (12, .slice (some ad2) l.length c12), (15, .pointer (some ⟨b15, 0, none⟩)), (21, .slice (some ad) d.length c21), (25, .int .i64 nv), (26, .int .i64 nc), (27, .int .i64 (k : Int)), (152, .slice (some ad) d.length c21), (153, .int .i64 (d.length : Int)), (154, .int .i64 (k : Int))] ⟨rfl, rfl, rfl, rfl, rfl, rfl, rfl, rfl, rfl, rfl, rfl, trivial⟩ ?_
   cases hxy : (!decide (x = y))
   ·have hxy' : x = y := by simpa using hxy
    with_reducible (repeat apply xc_seq)
    apply xc_drawN
    ·exact T_.mixed
    ·rfl
    ·rfl
    ·rfl
    ·rfl
    ·apply DrawOps.cons
     ·intro τ
      refine xo_mv rfl rfl rfl ?_
      exact xo_fin rfl
     apply DrawOps.cons
     ·intro τ
      refine xo_mv rfl rfl rfl ?_
      exact xo_fin rfl
     apply DrawOps.cons
     ·intro τ
      refine xo_ia T_ rfl rfl rfl rfl rfl ⟨by omega, by omega⟩ rfl ?_
      exact xo_fin rfl
     apply DrawOps.cons
     ·intro τ
      refine xo_loadR0 T_ rfl rfl rfl q1 rfl ?_
      exact xo_fin rfl
     apply DrawOps.cons
     ·intro τ
      refine xo_mv rfl rfl rfl ?_
      exact xo_fin rfl
     apply DrawOps.cons
     ·intro τ
      refine xo_mv rfl rfl rfl ?_
      exact xo_fin rfl
     apply DrawOps.cons
     ·intro τ
      refine xo_ia T_ rfl rfl rfl rfl rfl ⟨by omega, by omega⟩ rfl ?_
      exact xo_fin rfl
     apply DrawOps.cons
     ·intro τ
      refine xo_loadR0 T_ rfl rfl rfl q2 rfl ?_
      exact xo_fin rfl
     apply DrawOps.cons
     ·intro τ
      refine xo_neq rfl rfl rfl rfl ?_
      first
       | exact xo_fin (congrArg Value.bool hxy)
       | exact xo_fin rfl
     exact DrawOps.nil
    ·rfl
    with_reducible ((repeat first | apply xqT | apply xqB | apply xqS); (repeat apply xc_seq))
    refine xc_condF rfl ?_
    with_reducible (apply xc_skip; (repeat first | apply xqT | apply xqB | apply xqS); (repeat apply xc_seq); apply xcR)
    refine xo_add rfl rfl rfl (by omega) rfl ?_
    refine xo_mv rfl rfl rfl ?_
    with_reducible (apply xo_nil; (repeat first | apply xqT | apply xqB | apply xqS))
    exact xq_again _ _ _ _ _ (k + 1) ⟨hlt, by rw [htd, htl, htk, hxy']⟩ (by omega) ⟨rfl, rfl, rfl, rfl, rfl, rfl, rfl, rfl, rfl, rfl, trivial⟩ (List.nil_sublist _)
   ·have hxy' : x ≠ y := by simpa using hxy
    have hf := hf hxy'
    have hgt : decide (y < x) = false := decide_eq_false (by omega)
    with_reducible (repeat apply xc_seq)
    apply xc_drawN
    ·exact T_.mixed
    ·rfl
    ·rfl
    ·rfl
    ·rfl
    ·apply DrawOps.cons
     ·intro τ
      refine xo_mv rfl rfl rfl ?_
      exact xo_fin rfl
     apply DrawOps.cons
     ·intro τ
      refine xo_mv rfl rfl rfl ?_
      exact xo_fin rfl
     apply DrawOps.cons
     ·intro τ
      refine xo_ia T_ rfl rfl rfl rfl rfl ⟨by omega, by omega⟩ rfl ?_
      exact xo_fin rfl
     apply DrawOps.cons
     ·intro τ
      refine xo_loadR0 T_ rfl rfl rfl q1 rfl ?_
      exact xo_fin rfl
     apply DrawOps.cons
     ·intro τ
      refine xo_mv rfl rfl rfl ?_
      exact xo_fin rfl
     apply DrawOps.cons
     ·intro τ
      refine xo_mv rfl rfl rfl ?_
      exact xo_fin rfl
     apply DrawOps.cons
     ·intro τ
      refine xo_ia T_ rfl rfl rfl rfl rfl ⟨by omega, by omega⟩ rfl ?_
      exact xo_fin rfl
     apply DrawOps.cons
     ·intro τ
      refine xo_loadR0 T_ rfl rfl rfl q2 rfl ?_
      exact xo_fin rfl
     apply DrawOps.cons
     ·intro τ
      refine xo_neq rfl rfl rfl rfl ?_
      first
       | exact xo_fin (congrArg Value.bool hxy)
       | exact xo_fin rfl
     exact DrawOps.nil
    ·rfl
    with_reducible ((repeat first | apply xqT | apply xqB | apply xqS); (repeat apply xc_seq))
    refine xc_condT rfl ?_
    refine xc_slots [(9, .bool true), (10, .int .i64 (room : Int)), (12, .slice (some ad2) l.length c12), (15, .pointer (some ⟨b15, 0, none⟩)), (21, .slice (some ad) d.length c21), (25, .int .i64 nv), (26, .int .i64 nc), (27, .int .i64 (k : Int))] ⟨rfl, rfl, rfl, rfl, rfl, rfl, rfl, rfl, trivial⟩ ?_
    with_reducible (repeat apply xc_seq)
    apply xc_drawN
    ·exact T_.mixed
    ·rfl
    ·rfl
    ·rfl
    ·rfl
    ·apply DrawOps.cons
     ·intro τ
      refine xo_mv rfl rfl rfl ?_
      exact xo_fin rfl
     apply DrawOps.cons
     ·intro τ
      refine xo_mv rfl rfl rfl ?_
      exact xo_fin rfl
     apply DrawOps.cons
     ·intro τ
      refine xo_ia T_ rfl rfl rfl rfl rfl ⟨by omega, by omega⟩ rfl ?_
      exact xo_fin rfl
     apply DrawOps.cons
     ·intro τ
      refine xo_loadR0 T_ rfl rfl rfl q1 rfl ?_
      exact xo_fin rfl
     apply DrawOps.cons
     ·intro τ
      refine xo_mv rfl rfl rfl ?_
      exact xo_fin rfl
     apply DrawOps.cons
     ·intro τ
      refine xo_mv rfl rfl rfl ?_
      exact xo_fin rfl
     apply DrawOps.cons
     ·intro τ
      refine xo_ia T_ rfl rfl rfl rfl rfl ⟨by omega, by omega⟩ rfl ?_
      exact xo_fin rfl
     apply DrawOps.cons
     ·intro τ
      refine xo_loadR0 T_ rfl rfl rfl q2 rfl ?_
      exact xo_fin rfl
     apply DrawOps.cons
     ·intro τ
      refine xo_gtr rfl rfl rfl rfl ?_
      first
       | exact xo_fin (congrArg Value.bool hgt)
       | exact xo_fin rfl
     exact DrawOps.nil
    ·rfl
    with_reducible ((repeat first | apply xqT | apply xqB | apply xqS); (repeat apply xc_seq))
    refine xc_condF rfl ?_
    with_reducible (apply xc_skip; (repeat first | apply xqT | apply xqB | apply xqS); apply xc_exit; (repeat (first | apply xq_blockX | apply xq_thenE | refine xq_blockE rfl ?_ | apply xq_scopeE)); (repeat first | apply xqT | apply xqB | apply xqS))
    exact xq_meet _ _ _ () trivial ⟨rfl, rfl, rfl, rfl, rfl, trivial⟩ (List.nil_sublist _)
  ·with_reducible apply xc_exit
   with_reducible ((repeat (first | apply xq_blockX | apply xq_thenE | refine xq_blockE rfl ?_ | apply xq_scopeE)); (repeat first | apply xqT | apply xqB | apply xqS))
   exact xq_meet _ _ _ () trivial ⟨rfl, rfl, rfl, rfl, rfl, trivial⟩ (List.nil_sublist _)
 with_reducible ((repeat apply xc_seq); apply xcR)
 refine xo_loadRN T_ rfl rfl rfl h15 rfl rfl ?_
 refine xo_mv rfl rfl rfl ?_
 refine xo_call (fs := []) (cs := []) rfl rfl rfl Why_enters rfl (fun w1 hw1 => (Why_calls n E A (valA rr) c (valC rr) gs M room w1 (hs3.below hw1.kx.below)).mono ?_)
 rw [hwy]
 rintro e w2 ⟨r28, rfl, hrw, hb⟩
 refine ⟨_, _, rfl, hw1.row hb hrw, ?_⟩
 clear hrw hb hw1
 refine xo_mv rfl rfl rfl ?_
 refine xo_ext rfl rfl rfl rfl ?_
 refine xo_ext rfl rfl rfl rfl ?_
 refine xo_asg rfl rfl rfl ?_
 refine xo_asg rfl rfl rfl ?_
 with_reducible (apply xo_nil; (repeat first | apply xqT | apply xqB | apply xqS))
 have k4 : decide ((room : Int) = (room : Int)) = true := decide_eq_true rfl
 rcases hnm with ⟨rfl, rfl⟩ | rfl
 ·with_reducible repeat apply xc_seq
  with_reducible apply xcR
  refine xo_mv rfl rfl rfl ?_
  refine xo_mv rfl rfl rfl ?_
  (first | refine xo_not rfl rfl ?_ | refine xo_mv rfl rfl rfl ?_)
  (first | refine xo_not rfl rfl ?_ | refine xo_eql rfl rfl rfl rfl ?_)
  first | refine xo_pickT rfl rfl rfl rfl ?_ | refine xo_pickF rfl rfl rfl rfl ?_
  refine xo_mv rfl rfl rfl ?_
  (first | refine xo_not rfl rfl ?_ | refine xo_mv rfl rfl rfl ?_)
  (first | refine xo_not rfl rfl ?_ | refine xo_eql rfl rfl rfl rfl ?_)
  (first | refine xo_not rfl rfl ?_ | refine xo_mv rfl rfl rfl ?_)
  (first | refine xo_not rfl rfl ?_ | refine xo_mv rfl rfl rfl ?_)
  (first | refine xo_not rfl rfl ?_ | refine xo_mv rfl rfl rfl ?_)
  (first | refine xo_not rfl rfl ?_ | refine xo_eql rfl rfl rfl rfl ?_)
  refine xo_as (i := 193) rfl (congrArg Value.bool k4) ?_
  (first | refine xo_not rfl rfl ?_ | (first | refine xo_pickT rfl rfl rfl rfl ?_ | refine xo_pickF rfl rfl rfl rfl ?_))
  (first | refine xo_not rfl rfl ?_ | refine xo_mv rfl rfl rfl ?_)
  (first | refine xo_not rfl rfl ?_ | refine xo_mv rfl rfl rfl ?_)
  (first | refine xo_not rfl rfl ?_ | refine xo_eql rfl rfl rfl rfl ?_)
  (first | refine xo_not rfl rfl ?_ | (first | refine xo_pickT rfl rfl rfl rfl ?_ | refine xo_pickF rfl rfl rfl rfl ?_))
  first | refine xo_pickT rfl rfl rfl rfl ?_ | refine xo_pickF rfl rfl rfl rfl ?_
  refine xo_asg rfl rfl rfl ?_
  with_reducible (apply xo_nil; (repeat first | apply xqT | apply xqB | apply xqS); (repeat apply xc_seq); apply xc_ret; (repeat (first | apply xq_thenR | apply xq_blockR | apply xq_scopeR)))
  exact xq_ret1 rfl rfl fun w' hw => ⟨rfl, below_step hblw hw.kx.below⟩
 ·with_reducible repeat apply xc_seq
  with_reducible apply xcR
  refine xo_mv rfl rfl rfl ?_
  refine xo_mv rfl rfl rfl ?_
  (first | refine xo_not rfl rfl ?_ | refine xo_mv rfl rfl rfl ?_)
  (first | refine xo_not rfl rfl ?_ | refine xo_eql rfl rfl rfl rfl ?_)
  first | refine xo_pickT rfl rfl rfl rfl ?_ | refine xo_pickF rfl rfl rfl rfl ?_
  refine xo_mv rfl rfl rfl ?_
  (first | refine xo_not rfl rfl ?_ | refine xo_mv rfl rfl rfl ?_)
  (first | refine xo_not rfl rfl ?_ | refine xo_eql rfl rfl rfl rfl ?_)
  (first | refine xo_not rfl rfl ?_ | refine xo_mv rfl rfl rfl ?_)
  (first | refine xo_not rfl rfl ?_ | refine xo_mv rfl rfl rfl ?_)
  (first | refine xo_not rfl rfl ?_ | refine xo_mv rfl rfl rfl ?_)
  (first | refine xo_not rfl rfl ?_ | refine xo_eql rfl rfl rfl rfl ?_)
  (first | refine xo_not rfl rfl ?_ | (first | refine xo_pickT rfl rfl rfl rfl ?_ | refine xo_pickF rfl rfl rfl rfl ?_))
  (first | refine xo_not rfl rfl ?_ | refine xo_mv rfl rfl rfl ?_)
  (first | refine xo_not rfl rfl ?_ | refine xo_mv rfl rfl rfl ?_)
  (first | refine xo_not rfl rfl ?_ | refine xo_eql rfl rfl rfl rfl ?_)
  (first | refine xo_not rfl rfl ?_ | (first | refine xo_pickT rfl rfl rfl rfl ?_ | refine xo_pickF rfl rfl rfl rfl ?_))
  first | refine xo_pickT rfl rfl rfl rfl ?_ | refine xo_pickF rfl rfl rfl rfl ?_
  refine xo_asg rfl rfl rfl ?_
  with_reducible (apply xo_nil; (repeat first | apply xqT | apply xqB | apply xqS); (repeat apply xc_seq); apply xc_ret; (repeat (first | apply xq_thenR | apply xq_blockR | apply xq_scopeR)))
  exact xq_ret1 rfl rfl fun w' hw => ⟨rfl, below_step hblw hw.kx.below⟩
end Go.Proofs.YtommeljlfkmpjaaGreatDoor
namespace Go.Proofs.YtommeljlfkmpjaaGreatDoor
open Go.ChangeShapes Go.WideShapes Go.RowKit
def laidL : List (String × DataW Unit) := [("cottonpad/origin.nowhere", Rows.laid_cottonpad_origin_nowhere)]
theorem gNow : Tryz.prog.globalNamed "cottonpad/origin.nowhere" = some 0 := by kernel_rfl
theorem tNow : (Tryz.prog.globals[0]?).map (·.type) = some 45 := by kernel_rfl
theorem door_met (os : Os) (args : Array Value) : laidMetH Tryz.prog laidL ((World.doorLaid Tryz.prog 400 os).forCall (fun _ _ => 0) ⟨#[], args, []⟩).memory :=
 laidMetH_of_parts3 (fuel := 8) (laidMet_of_run' 8 (by kernel_rfl) (by kernel_rfl)) (by kernel_rfl) (by kernel_rfl)
theorem trod_pair {P : Program} {H : Type} {enc : TypeId × Value → H} {w : World} {fuel : Nat} {bb : Bool} {t ta tb : TypeId} {f g : Field} {a b : Value} {d : DataW H} {ps : List MemPlace}
  (ht : P.underlying t = some (.struct #[f, g])) (h1 : f.type = ta) (h2 : f.offset = 0) (h3 : g.type = tb) (h4 : g.offset = 1) (hA : P.cellsOf ta = 1) (hB : P.cellsOf tb = 1)
  (h : DataW.trod enc P w 0 (fun _ => true) bb (fuel + 1) t [a, b] = some (d, ps)) :
  ∃ x y, DataW.trod enc P w 0 (fun _ => true) bb fuel ta [a] = some x ∧ DataW.trod enc P w 0 (fun _ => true) bb fuel tb [b] = some y ∧ d = .agg [x.1, y.1] := by
 unfold DataW.trod at h
 rw [ht] at h
 simp only [List.length_cons, List.length_nil] at h
 split at h
 ·simp only [List.mapM_cons, List.mapM_nil, h1, h2, h3, h4, hA, hB, List.drop_zero, List.take_succ_cons, List.take_zero, List.drop_succ_cons, Option.map_eq_some_iff] at h
  obtain ⟨xs, h, e⟩ := h
  cases hx : DataW.trod enc P w 0 (fun _ => true) bb fuel ta [a] with
  | none => simp [hx] at h
  | some x =>
   cases hy : DataW.trod enc P w 0 (fun _ => true) bb fuel tb [b] with
   | none => simp [hx, hy] at h
   | some y =>
    simp [hx, hy] at h
    subst h
    simp at e
    exact ⟨x, y, rfl, rfl, e.1.symm⟩
 ·simp at h
theorem trod_lenS {P : Program} {H : Type} {enc : TypeId × Value → H} {w : World} {fuel : Nat} {bb : Bool} {t : TypeId} {fs : Array Field} {l : List Value} {x : DataW H × List MemPlace}
  (ht : P.underlying t = some (.struct fs)) (h : DataW.trod enc P w 0 (fun _ => true) bb fuel t l = some x) : l.length = P.cellsOf t := by
 cases fuel with
 | zero => simp [DataW.trod] at h
 | succ m =>
  by_cases hl : l.length = P.cellsOf t
  ·exact hl
  ·exfalso
   unfold DataW.trod at h
   rw [ht] at h
   simp [hl] at h
theorem trod_int {P : Program} {H : Type} {enc : TypeId × Value → H} {w : World} {fuel : Nat} {bb : Bool} {t : TypeId} {k : IntKind} {a : Value} {n : Int} {ps : List MemPlace} (hu : P.underlying t = some (.int k))
  (h : DataW.trod enc P w 0 (fun _ => true) bb fuel t [a] = some (.lit (.int .i64 n), ps)) : a = .int .i64 n := by
 cases fuel with
 | zero => simp [DataW.trod] at h
 | succ fuel =>
  unfold DataW.trod at h
  rw [hu] at h
  split at h <;> simp_all
set_option maxRecDepth 100000 in
theorem glob_of_laid {W : World} (h : laidMetH Tryz.prog laidL W) : GlobO W := by
 have h' : laidMet Tryz.prog laidL W := h
 obtain ⟨ps, ⟨g, t, cs, fuel, p, q, hg, ht, hv, hd, _, _⟩, _, _⟩ := h'
 obtain rfl := Option.some.inj (gNow.symm.trans hg)
 obtain rfl := Option.some.inj (tNow.symm.trans ht)
 have hd' : DataW.trod (fun _ => ()) Tryz.prog W 0 (fun _ => true) false fuel 45 cs.toList = some (.agg [.lit (.int .i64 1073741824), .lit (.int .i64 (-1073741824))], p) := hd
 have hlen : cs.toList.length = 2 := (trod_lenS Tryz.underlying45 hd').trans (by kernel_rfl)
 obtain ⟨l⟩ := cs
 match l, hlen with
 | [a, b], _ =>
  cases fuel with
  | zero => simp [DataW.trod] at hd'
  | succ n =>
   obtain ⟨x, y, hx, hy, e⟩ := trod_pair (ta := 3) (tb := 3) Tryz.underlying45 rfl rfl rfl rfl (by kernel_rfl) (by kernel_rfl) hd'
   simp only [DataW.agg.injEq, List.cons.injEq, and_true] at e
   obtain ⟨x1, x2⟩ := x
   obtain ⟨y1, y2⟩ := y
   simp only at e
   obtain ⟨rfl, rfl⟩ := e
   obtain rfl := trod_int Tryz.underlying3 hx
   obtain rfl := trod_int Tryz.underlying3 hy
   unfold World.var? at hv
   rw [gNow] at hv
   simp only [Option.bind_some] at hv
   cases hh : W.heap[0]? with
   | none => simp [hh] at hv
   | some o =>
    cases o <;> simp [hh] at hv
    subst hv
    refine ro_of fun j v hj => ?_
    rw [Addr.add_lit, Nat.zero_add]
    unfold World.cell?
    rw [hh]
    have hj' : ([.int .i64 1073741824, .int .i64 (-1073741824)] : List Value)[j]? = some v := hj
    simpa using hj'
end Go.Proofs.YtommeljlfkmpjaaGreatDoor
