/- law09.OriginLater: the walk. / The variable origin.nowhere, as the rows' condition lays it -/
import Derived.Test.YtommeljlfkmpjaaGreatDoorPkLawOriginLater11
import Derived.Test.YtommeljlfkmpjaaGreatDoorRows
import Derived.Test.YtommeljlfkmpjaaGreatDoorPkLawOriginLater4
import Derived.LaidLaws
import Derived.LaidHandle
import Derived.LaidMore
import Derived.ChangeVars
import Derived.ChangeShapes
set_option linter.unusedVariables false
set_option linter.unusedSimpArgs false
namespace Go.Proofs.YtommeljlfkmpjaaGreatDoor
open Go.RowKit Go.Proofs.YtommeljlfkmpjaaGreatDoorW.PrintWords
theorem u16_la {n : Int} (h : (Lit.int .u16 n).wf = true) : 0 ≤ n ∧ n ≤ 65535 := by
 have h' : (decide (0 ≤ n) && decide (n ≤ 65535)) = true := h
 simpa using h'
set_option maxHeartbeats 32000000 in
theorem originLater_law (R E : Int) (A B : Option Addr) (c c2 : Nat) (gs : List GatT) (ms : List MarT) (which clock later turn : Int) (w : World) (hA : Kd.C gatK w A gs.length gs) (hB : Kd.C marK w B ms.length ms) (hcap : gs.length ≤ c) (hk : BytesK ms) (hwh : 0 ≤ which ∧ which ≤ 255) (hcl : 0 ≤ clock ∧ clock ≤ 65535) (hla : 0 ≤ later ∧ later ≤ 65535) (htu : 0 ≤ turn ∧ turn ≤ 255) (hglob : GlobO w) :
  Calls Tryz.prog 10 #[.agg (scnV R A gs.length c E B ms.length c2).toArray, .int .u8 which, .int .u16 clock, .int .u16 later, .int .u8 turn] w fun e w' => e = .returned (.bool true) ∧ Below w.heap.size w w' := by
 have hgr4 := gat_row hA
 have hmr7 := mar_row hB
 have hs : SceneAt w A B gs ms := ⟨hA, hB, hk, hglob⟩
 refine x_calls (X := XNone) Tryz.func10 rfl rfl rfl ?_
 with_reducible ((repeat apply xc_seq); apply xcR)
 refine xo_box rfl rfl rfl rfl (fun b5 => ?_)
 refine xoA ?_
 with_reducible (apply xo_nil; (repeat first | apply xqT | apply xqB | apply xqS); (repeat apply xc_seq); apply xcR)
 refine xo_callB (fs := []) (cs := []) rfl rfl rfl alive_enters rfl (fun w1 hw1 => alive_calls w1 (hglob.below hw1.kx.below)) ?_
 refine xoA ?_
 with_reducible (apply xo_nil; (repeat first | apply xqT | apply xqB | apply xqS); (repeat apply xc_seq); apply xcR)
 refine xoM ?_
 refine xo_notOp rfl rfl rfl ?_
 with_reducible (apply xo_nil; (repeat first | apply xqT | apply xqB | apply xqS); (repeat apply xc_seq))
 refine xc_condF rfl ?_
 with_reducible (apply xc_skip; (repeat first | apply xqT | apply xqB | apply xqS))
 cases hsc : sceneF R E gs ms
 ·with_reducible repeat apply xc_seq
  with_reducible apply xcR
  refine xo_loadN T_ rfl rfl rfl (by repeat first | exact mH | apply mT | apply mA) rfl rfl ?_
  refine xo_callB (fs := []) (cs := []) rfl rfl rfl ready_enters rfl (fun w1 hw1 => ready_calls R E A B c c2 gs ms w1 (hgr4.below hw1.kx.below) (hmr7.below hw1.kx.below)) ?_
  refine xo_as (i := 36) rfl (congrArg Value.bool hsc) ?_
  refine xo_notOp rfl rfl rfl ?_
  with_reducible (apply xo_nil; (repeat first | apply xqT | apply xqB | apply xqS); (repeat apply xc_seq))
  refine xc_condT rfl ?_
  with_reducible ((repeat apply xc_seq); apply xcR)
  refine xoM ?_
  refine xoA ?_
  with_reducible (apply xo_nil; (repeat first | apply xqT | apply xqB | apply xqS); (repeat apply xc_seq); apply xc_ret; (repeat (first | apply xq_thenR | apply xq_blockR | apply xq_scopeR)))
  exact xq_ret1 rfl rfl fun w' hw => ⟨rfl, hw.kx.below⟩
 obtain ⟨hR6, hE6, hG, hm8, _⟩ := sceneF_ok hsc
 have hg6 := hG.len
 with_reducible ((repeat apply xc_seq); apply xcR)
 refine xo_loadN T_ rfl rfl rfl (by repeat first | exact mH | apply mT | apply mA) rfl rfl ?_
 refine xo_callB (fs := []) (cs := []) rfl rfl rfl ready_enters rfl (fun w1 hw1 => ready_calls R E A B c c2 gs ms w1 (hgr4.below hw1.kx.below) (hmr7.below hw1.kx.below)) ?_
 refine xo_as (i := 36) rfl (congrArg Value.bool hsc) ?_
 refine xo_notOp rfl rfl rfl ?_
 with_reducible (apply xo_nil; (repeat first | apply xqT | apply xqB | apply xqS); (repeat apply xc_seq))
 refine xc_condF rfl ?_
 with_reducible (apply xc_skip; (repeat first | apply xqT | apply xqB | apply xqS))
 obtain ⟨n, rfl, hn1, hn6⟩ := nat_of hR6
 obtain ⟨hSa, hmkR⟩ := sane_of (R := n) rfl hsc
 have hrm : 0 ≤ which % (n : Int) ∧ which % (n : Int) < n := ⟨Int.emod_nonneg _ (by omega), Int.emod_lt_of_pos _ (by omega)⟩
 have hat : 0 ≤ clock % (E + 1) ∧ clock % (E + 1) < E + 1 := ⟨Int.emod_nonneg _ (by omega), Int.emod_lt_of_pos _ (by omega)⟩
 have hnn : 0 ≤ later % (600 - E + 1) ∧ later % (600 - E + 1) < 600 - E + 1 := ⟨Int.emod_nonneg _ (by omega), Int.emod_lt_of_pos _ (by omega)⟩
 refine xc_slots [(1, .int .u8 which), (2, .int .u16 clock), (3, .int .u16 later), (4, .int .u8 turn), (5, .pointer (some ⟨b5, 0, none⟩)), (11, .bool true)] ⟨rfl, rfl, rfl, rfl, rfl, rfl, trivial⟩ ?_
 with_reducible (repeat apply xc_seq)
 apply xc_drawN
 ·exact T_.mixed
 ·rfl
 ·rfl
 ·rfl
 ·rfl
 ·apply DrawOps.cons
  ·intro τ
   refine xoM ?_
   exact xoF
  apply DrawOps.cons
  ·intro τ
   refine xo_conv T_ rfl rfl rfl rfl (IntWalk.i64_in _ ⟨by omega, by omega⟩) rfl ?_
   exact xoF
  apply DrawOps.cons
  ·intro τ
   refine xo_fa T_ rfl rfl rfl rfl rfl ?_
   exact xoF
  apply DrawOps.cons
  ·intro τ
   refine xo_load0 T_ rfl rfl rfl (by repeat first | exact mH | apply mT | apply mA) rfl rfl ?_
   exact xoF
  apply DrawOps.cons
  ·intro τ
   refine xo_rem rfl rfl rfl (by omega) (by omega) rfl ?_
   exact xoF
  apply DrawOps.cons
  ·intro τ
   refine xoM ?_
   exact xoF
  apply DrawOps.cons
  ·intro τ
   refine xo_conv T_ rfl rfl rfl rfl (IntWalk.i64_in _ ⟨by omega, by omega⟩) rfl ?_
   exact xoF
  apply DrawOps.cons
  ·intro τ
   refine xo_fa T_ rfl rfl rfl rfl rfl ?_
   exact xoF
  apply DrawOps.cons
  ·intro τ
   refine xo_load0 T_ rfl rfl rfl (by repeat first | exact mH | apply mT | apply mA) rfl rfl ?_
   exact xoF
  apply DrawOps.cons
  ·intro τ
   refine xo_add rfl rfl rfl (by omega) rfl ?_
   exact xoF
  apply DrawOps.cons
  ·intro τ
   refine xo_rem rfl rfl rfl (by omega) (by omega) rfl ?_
   exact xoF
  apply DrawOps.cons
  ·intro τ
   refine xoM ?_
   exact xoF
  apply DrawOps.cons
  ·intro τ
   refine xo_conv T_ rfl rfl rfl rfl (IntWalk.i64_in _ ⟨by omega, by omega⟩) rfl ?_
   exact xoF
  apply DrawOps.cons
  ·intro τ
   refine xo_fa T_ rfl rfl rfl rfl rfl ?_
   exact xoF
  apply DrawOps.cons
  ·intro τ
   refine xo_load0 T_ rfl rfl rfl (by repeat first | exact mH | apply mT | apply mA) rfl rfl ?_
   exact xoF
  apply DrawOps.cons
  ·intro τ
   refine xo_sub rfl rfl rfl (by omega) rfl ?_
   exact xoF
  apply DrawOps.cons
  ·intro τ
   refine xo_add rfl rfl rfl (by omega) rfl ?_
   exact xoF
  apply DrawOps.cons
  ·intro τ
   refine xo_rem rfl rfl rfl (by omega) (by omega) rfl ?_
   exact xoF
  apply DrawOps.cons
  ·intro τ
   refine xoA ?_
   exact xoF
  apply DrawOps.cons
  ·intro τ
   refine xoA ?_
   exact xoF
  apply DrawOps.cons
  ·intro τ
   refine xoA ?_
   exact xoF
  exact DrawOps.nil
 ·rfl
 with_reducible (repeat first | apply xqT | apply xqB | apply xqS)
 generalize later % (600 - E + 1) = nn at hnn
 generalize clock % (E + 1) = at_ at hat
 generalize which % (n : Int) = room at hrm
 obtain ⟨room, rfl⟩ : ∃ r : Nat, room = r := ⟨room.toNat, by omega⟩
 have hrn : room < n := by omega
 have hrOK : roomOK n (room : Int) = true := inF_iff.2 ⟨by omega, by omega⟩
 refine xc_slots [(4, .int .u8 turn), (5, .pointer (some ⟨b5, 0, none⟩)), (11, .bool true), (12, .int .i64 (room : Int)), (13, .int .i64 at_), (14, .int .i64 nn)] ⟨rfl, rfl, rfl, rfl, rfl, rfl, trivial⟩ ?_
 with_reducible ((repeat apply xc_seq); apply xcR)
 refine xo_loadN T_ rfl rfl rfl (by repeat first | exact mH | apply mT | apply mA) rfl rfl ?_
 refine xo_call (fs := []) (cs := []) rfl rfl rfl twin_enters rfl (fun w1 hw1 => (twin_calls n E A B c c2 gs ms w1 (hgr4.below hw1.kx.below) (hmr7.below hw1.kx.below) (C_none hA) (C_none hB) (by omega) (by omega)).mono ?_)
 rintro e w2 ⟨dg, lg, dm, lm, rfl, hz⟩
 refine ⟨_, _, rfl, hw1.join hz (fun e he => by simp only [List.mem_cons, List.not_mem_nil, or_false] at he; rcases he with rfl | rfl <;> rfl), ?_⟩
 clear hz hw1
 refine xo_alloc T_ rfl rfl rfl rfl (fun b15 => ?_)
 refine xo_store T_ rfl rfl rfl rfl (by repeat first | exact mH | apply mT | apply mA) rfl rfl rfl rfl (by repeat first | exact Upd.head | apply Upd.tail | apply Upd.app) rfl ?_
 with_reducible (apply xo_nil; (repeat first | apply xqT | apply xqB | apply xqS))
 refine xc_sub (η' := [(b15, true, cel (scnV n (some ⟨dg, 0, none⟩) gs.length lg E (some ⟨dm, 0, none⟩) ms.length lm) 25), (dm, true, orow 56 7 ms.length lm (marL ms)), (dg, true, orow 52 4 gs.length lg (gatL gs)), (b5, true, cel (scnV n A gs.length c E B ms.length c2) 25)]) (List.Sublist.refl _) ?_
 with_reducible ((repeat apply xc_seq); apply xcR)
 refine xo_fa T_ rfl rfl rfl rfl rfl ?_
 refine xo_load0 T_ rfl rfl rfl (by repeat first | exact mH | apply mT | apply mA) rfl rfl ?_
 refine xoM ?_
 refine xo_add rfl rfl rfl (by omega) rfl ?_
 refine xo_fa T_ rfl rfl rfl rfl rfl ?_
 refine xo_store T_ rfl rfl rfl rfl (by repeat first | exact mH | apply mT | apply mA) rfl rfl rfl rfl (by repeat first | exact Upd.head | apply Upd.tail | apply Upd.app) rfl ?_
 with_reducible (apply xo_nil; (repeat first | apply xqT | apply xqB | apply xqS); (repeat apply xc_seq); apply xcR)
 refine xo_fa T_ rfl rfl rfl rfl rfl ?_
 refine xo_load0 T_ rfl rfl rfl (by repeat first | exact mH | apply mT | apply mA) rfl rfl ?_
 refine xo_len T_ rfl rfl rfl rfl ?_
 refine xoM ?_
 with_reducible (apply xo_nil; (repeat first | apply xqT | apply xqB | apply xqS))
 have hl0 : laterL nn ms 0 = ms := by simp [laterL]
 with_reducible ((repeat apply xc_seq); apply xc_block)
 refine xc_loop (γ := Nat) (fun k => k ≤ ms.length) (fun k => [(4, .int .u8 turn), (5, .pointer (some ⟨b5, 0, none⟩)), (11, .bool true), (12, .int .i64 (room : Int)), (13, .int .i64 at_), (14, .int .i64 nn), (15, .pointer (some ⟨b15, 0, none⟩)), (65, .slice (some ⟨dm, 0, none⟩) ms.length lm), (66, .int .i64 (ms.length : Int)), (67, .int .i64 (k : Int))])
  (fun k => [(b15, true, cel (scnV n (some ⟨dg, 0, none⟩) gs.length lg (E + nn) (some ⟨dm, 0, none⟩) ms.length lm) 25), (dm, true, orow 56 7 ms.length lm (marL (laterL nn ms k))), (dg, true, orow 52 4 gs.length lg (gatL gs)), (b5, true, cel (scnV n A gs.length c E B ms.length c2) 25)]) (fun k => ms.length - k) 0 (Nat.zero_le _) ⟨rfl, rfl, rfl, rfl, rfl, rfl, rfl, rfl, rfl, rfl, trivial⟩ (by rw [hl0]; exact List.Sublist.refl _) ?_
 intro k hkl
 with_reducible ((repeat apply xc_seq); apply xcR)
 refine xo_lss rfl rfl rfl rfl ?_
 with_reducible (apply xo_nil; (repeat first | apply xqT | apply xqB | apply xqS); (repeat apply xc_seq))
 refine xc_cond rfl (fun h => ?_) (fun h => ?_)
 ·have hlt : k < ms.length := by have := of_decide_eq_true h; omega
  have hll := laterL_len nn ms (k := k) (by omega)
  have hget := laterL_get nn ms hlt
  have hby := hk _ (getD_mem ms zMar k hlt)
  have hmo := (hmkR _ (getD_mem ms zMar k hlt)).ok
  have a1 := marL_at (laterL nn ms k) k 1 (by omega) (by omega)
  have a4 := marL_at (laterL nn ms k) k 4 (by omega) (by omega)
  have a5 := marL_at (laterL nn ms k) k 5 (by omega) (by omega)
  rw [hget] at a1 a4 a5
  with_reducible (apply xc_skip; (repeat first | apply xqT | apply xqB | apply xqS); (repeat apply xc_seq); apply xc_block; (repeat apply xc_seq); apply xcR)
  refine xoM ?_
  refine xoA ?_
  with_reducible (apply xo_nil; (repeat first | apply xqT | apply xqB | apply xqS); (repeat apply xc_seq); apply xcR)
  refine xo_fa T_ rfl rfl rfl rfl rfl ?_
  refine xo_load0 T_ rfl rfl rfl (by repeat first | exact mH | apply mT | apply mA) rfl rfl ?_
  refine xoM ?_
  refine xo_ia T_ rfl rfl rfl rfl rfl ⟨by omega, by omega⟩ rfl ?_
  refine xoA ?_
  with_reducible (apply xo_nil; (repeat first | apply xqT | apply xqB | apply xqS); (repeat apply xc_seq); apply xcR)
  refine xoM ?_
  refine xo_nilck rfl rfl rfl ?_
  refine xo_faR T_ rfl rfl rfl rfl rfl ?_
  refine xo_loadZ T_ (b := dm) (k := k * 7 + 1) (v := .int .u8 (ms.getD k zMar).f1) rfl rfl rfl (ad_m2 dm k 1) (by repeat first | exact mH | apply mT | apply mA) a1 rfl ?_
  refine xo_leq rfl rfl rfl rfl ?_
  with_reducible (apply xo_nil; (repeat first | apply xqT | apply xqB | apply xqS); (repeat apply xc_seq))
  refine xc_cond rfl (fun h => ?_) (fun h => ?_)
  ·have h3 : (ms.getD k zMar).f1 ≤ 3 := of_decide_eq_true h
   have hlo := hmo.lo
   have hhi := hmo.hi
   have hseg := marL_span (laterL nn ms k) ⟨(ms.getD k zMar).f4.f0 + nn, (ms.getD k zMar).f4.f1 + nn⟩ (k := k) (by omega)
   rw [hget] at hseg
   have hnx := laterL_succ nn ms hlt
   rw [show laterM nn (ms.getD k zMar) = ⟨(ms.getD k zMar).f0, (ms.getD k zMar).f1, (ms.getD k zMar).f2, (ms.getD k zMar).f3, ⟨(ms.getD k zMar).f4.f0 + nn, (ms.getD k zMar).f4.f1 + nn⟩, (ms.getD k zMar).f5⟩ by rw [laterM, if_pos h3]] at hnx
   rw [← hnx] at hseg
   refine xc_slots [(4, .int .u8 turn), (5, .pointer (some ⟨b5, 0, none⟩)), (11, .bool true), (12, .int .i64 (room : Int)), (13, .int .i64 at_), (14, .int .i64 nn), (15, .pointer (some ⟨b15, 0, none⟩)), (16, .int .i64 (k : Int)), (17, .pointer (some ((⟨dm, 0, none⟩ : Addr).add ((k : Int).toNat * szN 7)))), (65, .slice (some ⟨dm, 0, none⟩) ms.length lm), (66, .int .i64 (ms.length : Int)), (67, .int .i64 (k : Int))] ⟨rfl, rfl, rfl, rfl, rfl, rfl, rfl, rfl, rfl, rfl, rfl, rfl, trivial⟩ ?_
   with_reducible (repeat apply xc_seq)
   apply xc_drawE (fun g => []) (fun (η0 : Hp) g => match g with | [] => (η0) | a0 :: _ => ([(b15, true, cel (scnV n (some ⟨dg, 0, none⟩) gs.length lg (E + nn) (some ⟨dm, 0, none⟩) ms.length lm) 25), (dm, true, orow 56 7 ms.length lm (marL (laterL nn ms (k + 1)))), (dg, true, orow 52 4 gs.length lg (gatL gs)), (b5, true, cel (scnV n A gs.length c E B ms.length c2) 25)])) (fun _ => True) [0, 0, 0, 0, 0, 0, 0, 0, 0, 0, 0, 0, 0, 0, 0, 0, 0, 0, 1] [18] [[17, 15, 15, 0, 1, 2, 3, 4, 5, 6, 7, 8, 9, 10, 11, 12, 13, 14, 15]] (by trivial)
   apply SameLen.cons
   apply SameLen.cons
   apply SameLen.cons
   apply SameLen.cons
   apply SameLen.cons
   apply SameLen.cons
   apply SameLen.cons
   apply SameLen.cons
   apply SameLen.cons
   apply SameLen.cons
   apply SameLen.cons
   apply SameLen.cons
   apply SameLen.cons
   apply SameLen.cons
   apply SameLen.cons
   apply SameLen.cons
   apply SameLen.cons
   apply SameLen.cons
   apply SameLen.cons
   exact SameLen.nil
   rotate_left 19
   case hH0 => rfl
   case hmix => exact T_.mixed
   case hbind => rfl
   case hdeps => rfl
   case hdist => rfl
   case hfresh => rfl
   case hE => rfl
   case hEn => decide
   ·refine DrawE.pure 0 0 rfl (.inr (by decide)) (fun L g hg hd => Nat.zero_le _) (fun g hlo hhi hF τ => ?_) ?_
    ·rcases g with _ | ⟨a0, _ | ⟨a1, g⟩⟩ <;> first | (simp only [lenC, lenN] at hlo hhi; omega) | (refine ⟨_, rfl, ?_⟩; refine xoM ?_; exact xoF)
    refine DrawE.pure 0 0 rfl (.inr (by decide)) (fun L g hg hd => Nat.zero_le _) (fun g hlo hhi hF τ => ?_) ?_
    ·rcases g with _ | ⟨a0, _ | ⟨a1, g⟩⟩ <;> first | (simp only [lenC, lenN] at hlo hhi; omega) | (refine ⟨_, rfl, ?_⟩; refine xoM ?_; exact xoF)
    refine DrawE.pure 0 0 rfl (.inr (by decide)) (fun L g hg hd => Nat.zero_le _) (fun g hlo hhi hF τ => ?_) ?_
    ·rcases g with _ | ⟨a0, _ | ⟨a1, g⟩⟩ <;> first | (simp only [lenC, lenN] at hlo hhi; omega) | (refine ⟨_, rfl, ?_⟩; refine xo_nilck rfl rfl rfl ?_; exact xoF)
    refine DrawE.pure 0 0 rfl (.inr (by decide)) (fun L g hg hd => Nat.zero_le _) (fun g hlo hhi hF τ => ?_) ?_
    ·rcases g with _ | ⟨a0, _ | ⟨a1, g⟩⟩ <;> first | (simp only [lenC, lenN] at hlo hhi; omega) | (refine ⟨_, rfl, ?_⟩; refine xo_faR T_ rfl rfl rfl rfl rfl ?_; exact xoF)
    refine DrawE.pure 0 0 rfl (.inr (by decide)) (fun L g hg hd => Nat.zero_le _) (fun g hlo hhi hF τ => ?_) ?_
    ·rcases g with _ | ⟨a0, _ | ⟨a1, g⟩⟩ <;> first | (simp only [lenC, lenN] at hlo hhi; omega) | (refine ⟨_, rfl, ?_⟩; refine xo_faR T_ rfl rfl rfl rfl rfl ?_; exact xoF)
    refine DrawE.pure 0 0 rfl (.inr (by decide)) (fun L g hg hd => Nat.zero_le _) (fun g hlo hhi hF τ => ?_) ?_
    ·rcases g with _ | ⟨a0, _ | ⟨a1, g⟩⟩ <;> first | (simp only [lenC, lenN] at hlo hhi; omega) | (refine ⟨_, rfl, ?_⟩; refine xo_loadZ T_ (b := dm) (k := k * 7 + (4 + 0)) (v := .int .i64 (ms.getD k zMar).f4.f0) rfl rfl rfl (ad_m3 dm k 4 0) (by repeat first | exact mH | apply mT | apply mA) a4 rfl ?_; exact xoF)
    refine DrawE.pure 0 0 rfl (.inr (by decide)) (fun L g hg hd => Nat.zero_le _) (fun g hlo hhi hF τ => ?_) ?_
    ·rcases g with _ | ⟨a0, _ | ⟨a1, g⟩⟩ <;> first | (simp only [lenC, lenN] at hlo hhi; omega) | (refine ⟨_, rfl, ?_⟩; refine xoM ?_; exact xoF)
    refine DrawE.pure 0 0 rfl (.inr (by decide)) (fun L g hg hd => Nat.zero_le _) (fun g hlo hhi hF τ => ?_) ?_
    ·rcases g with _ | ⟨a0, _ | ⟨a1, g⟩⟩ <;> first | (simp only [lenC, lenN] at hlo hhi; omega) | (refine ⟨_, rfl, ?_⟩; refine xo_add rfl rfl rfl (by omega) rfl ?_; exact xoF)
    refine DrawE.pure 0 0 rfl (.inr (by decide)) (fun L g hg hd => Nat.zero_le _) (fun g hlo hhi hF τ => ?_) ?_
    ·rcases g with _ | ⟨a0, _ | ⟨a1, g⟩⟩ <;> first | (simp only [lenC, lenN] at hlo hhi; omega) | (refine ⟨_, rfl, ?_⟩; refine xoM ?_; exact xoF)
    refine DrawE.pure 0 0 rfl (.inr (by decide)) (fun L g hg hd => Nat.zero_le _) (fun g hlo hhi hF τ => ?_) ?_
    ·rcases g with _ | ⟨a0, _ | ⟨a1, g⟩⟩ <;> first | (simp only [lenC, lenN] at hlo hhi; omega) | (refine ⟨_, rfl, ?_⟩; refine xo_nilck rfl rfl rfl ?_; exact xoF)
    refine DrawE.pure 0 0 rfl (.inr (by decide)) (fun L g hg hd => Nat.zero_le _) (fun g hlo hhi hF τ => ?_) ?_
    ·rcases g with _ | ⟨a0, _ | ⟨a1, g⟩⟩ <;> first | (simp only [lenC, lenN] at hlo hhi; omega) | (refine ⟨_, rfl, ?_⟩; refine xo_faR T_ rfl rfl rfl rfl rfl ?_; exact xoF)
    refine DrawE.pure 0 0 rfl (.inr (by decide)) (fun L g hg hd => Nat.zero_le _) (fun g hlo hhi hF τ => ?_) ?_
    ·rcases g with _ | ⟨a0, _ | ⟨a1, g⟩⟩ <;> first | (simp only [lenC, lenN] at hlo hhi; omega) | (refine ⟨_, rfl, ?_⟩; refine xo_faR T_ rfl rfl rfl rfl rfl ?_; exact xoF)
    refine DrawE.pure 0 0 rfl (.inr (by decide)) (fun L g hg hd => Nat.zero_le _) (fun g hlo hhi hF τ => ?_) ?_
    ·rcases g with _ | ⟨a0, _ | ⟨a1, g⟩⟩ <;> first | (simp only [lenC, lenN] at hlo hhi; omega) | (refine ⟨_, rfl, ?_⟩; refine xo_loadZ T_ (b := dm) (k := k * 7 + (4 + 1)) (v := .int .i64 (ms.getD k zMar).f4.f1) rfl rfl rfl (ad_m3 dm k 4 1) (by repeat first | exact mH | apply mT | apply mA) a5 rfl ?_; exact xoF)
    refine DrawE.pure 0 0 rfl (.inr (by decide)) (fun L g hg hd => Nat.zero_le _) (fun g hlo hhi hF τ => ?_) ?_
    ·rcases g with _ | ⟨a0, _ | ⟨a1, g⟩⟩ <;> first | (simp only [lenC, lenN] at hlo hhi; omega) | (refine ⟨_, rfl, ?_⟩; refine xoM ?_; exact xoF)
    refine DrawE.pure 0 0 rfl (.inr (by decide)) (fun L g hg hd => Nat.zero_le _) (fun g hlo hhi hF τ => ?_) ?_
    ·rcases g with _ | ⟨a0, _ | ⟨a1, g⟩⟩ <;> first | (simp only [lenC, lenN] at hlo hhi; omega) | (refine ⟨_, rfl, ?_⟩; refine xo_add rfl rfl rfl (by omega) rfl ?_; exact xoF)
    refine DrawE.pure 0 0 rfl (.inr (by decide)) (fun L g hg hd => Nat.zero_le _) (fun g hlo hhi hF τ => ?_) ?_
    ·rcases g with _ | ⟨a0, _ | ⟨a1, g⟩⟩ <;> first | (simp only [lenC, lenN] at hlo hhi; omega) | (refine ⟨_, rfl, ?_⟩; refine xo_callB (fs := []) (cs := []) rfl rfl rfl span_enters rfl (fun w1 hw1 => span_calls ((ms.getD k zMar).f4.f0 + nn) ((ms.getD k zMar).f4.f1 + nn) w1) ?_; exact xoF)
    refine DrawE.pure 0 1 rfl (.inl rfl) (fun L g hg hd => Nat.zero_le _) (fun g hlo hhi hF τ => ?_) ?_
    ·rcases g with _ | ⟨a0, _ | ⟨a1, g⟩⟩ <;> first | (simp only [lenC, lenN] at hlo hhi; omega) | (refine ⟨_, rfl, ?_⟩; refine xo_nilck rfl rfl rfl ?_; exact xoF)
    refine DrawE.pure 0 0 rfl (.inr (by decide)) (fun L g hg hd => Nat.zero_le _) (fun g hlo hhi hF τ => ?_) ?_
    ·rcases g with _ | ⟨a0, _ | ⟨a1, g⟩⟩ <;> first | (simp only [lenC, lenN] at hlo hhi; omega) | (refine ⟨_, rfl, ?_⟩; refine xo_faR T_ rfl rfl rfl rfl rfl ?_; exact xoF)
    refine DrawE.eff 0 rfl (by decide) rfl (fun j hj => hj) (fun j g a hj => ?_) (fun L g hg hd => Nat.zero_le _) (fun g hgl hF τ => ?_) ?_
    ·rcases j with _ | _ | _ | _ | _ | _ | _ | _ | _ | _ | _ | _ | _ | _ | _ | _ | _ | _ | _ | j
     all_goals first | rfl | (rcases g with _ | ⟨a0, _ | ⟨a1, g⟩⟩ <;> first | rfl | exact absurd hj (by decide) | exact absurd hj (by simp [List.getD]))
    ·obtain rfl : g = [] := by
      rcases g with _ | ⟨a0, g⟩ <;> first | rfl | (exfalso; simp only [List.length_cons, List.length_nil] at hgl; omega)
     refine xo_storeZN T_ (b := dm) (k := k * 7 + 4) (vs := spaV ⟨(ms.getD k zMar).f4.f0 + nn, (ms.getD k zMar).f4.f1 + nn⟩) rfl rfl rfl (ad_m2 dm k 4) rfl (by repeat first | exact mH | apply mT | apply mA) rfl rfl rfl (by have : (spaV ⟨(ms.getD k zMar).f4.f0 + nn, (ms.getD k zMar).f4.f1 + nn⟩).length = 2 := rfl; rw [this]; omega) hseg (by repeat first | exact Upd.head | apply Upd.tail | apply Upd.app) rfl ?_
     exact xo_finE ⟨0, 0, none⟩ rfl trivial
    exact DrawE.nil
   intro g hgl hF
   obtain ⟨a0, rfl⟩ : ∃ a0, g = [a0] := by
    rcases g with _ | ⟨a0, _ | ⟨a1, g⟩⟩ <;> first | exact ⟨_, rfl⟩ | (exfalso; simp only [List.length_cons, List.length_nil] at hgl; omega)
   with_reducible (repeat first | apply xqT | apply xqB | apply xqS)
   refine xc_slots [(4, .int .u8 turn), (5, .pointer (some ⟨b5, 0, none⟩)), (11, .bool true), (12, .int .i64 (room : Int)), (13, .int .i64 at_), (14, .int .i64 nn), (15, .pointer (some ⟨b15, 0, none⟩)), (65, .slice (some ⟨dm, 0, none⟩) ms.length lm), (66, .int .i64 (ms.length : Int)), (67, .int .i64 (k : Int))] ⟨rfl, rfl, rfl, rfl, rfl, rfl, rfl, rfl, rfl, rfl, trivial⟩ ?_
   refine xc_sub (η' := [(b15, true, cel (scnV n (some ⟨dg, 0, none⟩) gs.length lg (E + nn) (some ⟨dm, 0, none⟩) ms.length lm) 25), (dm, true, orow 56 7 ms.length lm (marL (laterL nn ms (k + 1)))), (dg, true, orow 52 4 gs.length lg (gatL gs)), (b5, true, cel (scnV n A gs.length c E B ms.length c2) 25)]) (List.Sublist.refl _) ?_
   with_reducible ((repeat apply xc_seq); apply xcR)
   refine xo_add rfl rfl rfl (by omega) rfl ?_
   refine xoM ?_
   with_reducible (apply xo_nil; (repeat first | apply xqT | apply xqB | apply xqS))
   exact xq_again _ _ _ _ _ (k + 1) hlt (by omega) ⟨rfl, rfl, rfl, rfl, rfl, rfl, rfl, rfl, rfl, rfl, trivial⟩ (List.Sublist.refl _)
  ·have h3 : ¬ (ms.getD k zMar).f1 ≤ 3 := of_decide_eq_false h
   have hnx := laterL_keep nn ms hlt h3
   with_reducible (apply xc_skip; (repeat first | apply xqT | apply xqB | apply xqS); (repeat apply xc_seq); apply xcR)
   refine xo_add rfl rfl rfl (by omega) rfl ?_
   refine xoM ?_
   with_reducible (apply xo_nil; (repeat first | apply xqT | apply xqB | apply xqS))
   exact xq_again _ _ _ _ _ (k + 1) hlt (by omega) ⟨rfl, rfl, rfl, rfl, rfl, rfl, rfl, rfl, rfl, rfl, trivial⟩ (by rw [hnx]; exact List.Sublist.refl _)
 have hge : k = ms.length := by have := of_decide_eq_false h; omega
 subst hge
 with_reducible (apply xc_exit; (repeat (first | apply xq_blockX | apply xq_thenE | refine xq_blockE rfl ?_ | apply xq_scopeE)); (repeat first | apply xqT | apply xqB | apply xqS))
 rw [laterL_all]
 have hMl : (ms.map (laterM nn)).length = ms.length := List.length_map _
 have hMk : BytesK (ms.map (laterM nn)) := fun m hm => by
  obtain ⟨m', hm', rfl⟩ := List.mem_map.1 hm
  have := hk m' hm'
  unfold laterM
  split <;> exact this
 have hown : ∀ {η : Hp} {w1 : World}, WOK w XNone η w1 → (dg, true, orow 52 4 gs.length lg (gatL gs)) ∈ η → (dm, true, orow 56 7 ms.length lm (marL (ms.map (laterM nn)))) ∈ η → SceneAt w1 (some ⟨dg, 0, none⟩) (some ⟨dm, 0, none⟩) gs (ms.map (laterM nn)) := fun {η w1} hw1 m1 m2 => own_scene hw1 (by omega) (by omega) hMk (hglob.below hw1.kx.below) m1 (by rw [hMl]; exact m2)
 have hlt' := fun (q : sceneF n (E + nn) gs (ms.map (laterM nn)) = true) => later_truth hsc q hrOK hnn.1 (z := at_) ⟨hat.1, by omega⟩
 have hMs : scnV n (some ⟨dg, 0, none⟩) gs.length lg (E + nn) (some ⟨dm, 0, none⟩) ms.length lm = scnV n (some ⟨dg, 0, none⟩) gs.length lg (E + nn) (some ⟨dm, 0, none⟩) (ms.map (laterM nn)).length lm := by rw [hMl]
 have hRdy : ∀ w1 : World, SceneAt w1 (some ⟨dg, 0, none⟩) (some ⟨dm, 0, none⟩) gs (ms.map (laterM nn)) → Calls Tryz.prog 21 #[.agg (scnV n (some ⟨dg, 0, none⟩) gs.length lg (E + nn) (some ⟨dm, 0, none⟩) ms.length lm).toArray] w1 fun e w' => e = .returned (.bool (sceneF n (E + nn) gs (ms.map (laterM nn)))) ∧ Below w1.heap.size w1 w' := fun w1 h => by
  rw [hMs]
  exact ready_calls n (E + nn) (some ⟨dg, 0, none⟩) (some ⟨dm, 0, none⟩) lg lm gs (ms.map (laterM nn)) w1 (gat_row h.gates) (mar_row h.marks)
 have hTru : ∀ w1 : World, SceneAt w1 (some ⟨dg, 0, none⟩) (some ⟨dm, 0, none⟩) gs (ms.map (laterM nn)) → Calls Tryz.prog 23 #[.agg (scnV n (some ⟨dg, 0, none⟩) gs.length lg (E + nn) (some ⟨dm, 0, none⟩) ms.length lm).toArray, .int .i64 (room : Int), .int .i64 (at_ + nn)] w1 fun e w' => ∃ rr : RowR, e = .returned (.tuple #[valR rr (truthL n (E + nn) gs (ms.map (laterM nn)) room (at_ + nn)).length, .int .i64 (truthC n (E + nn) gs (ms.map (laterM nn)) room (at_ + nn))]) ∧ RowAt 3 w1.heap.size w' rr (truthL n (E + nn) gs (ms.map (laterM nn)) room (at_ + nn)) ∧ Below w1.heap.size w1 w' := fun w1 h => by
  rw [hMs]
  exact Truth_calls n (E + nn) (some ⟨dg, 0, none⟩) (some ⟨dm, 0, none⟩) lg lm gs (ms.map (laterM nn)) room (at_ + nn) w1 h
 with_reducible ((repeat apply xc_seq); apply xcR)
 refine xo_loadN T_ rfl rfl rfl (by repeat first | exact mH | apply mT | apply mA) rfl rfl ?_
 refine xoM ?_
 refine xoM ?_
 refine xo_call (fs := []) (cs := []) rfl rfl rfl Truth_enters rfl (fun w1 hw1 => (Truth_calls n E A B c c2 gs ms room at_ w1 (hs.below hw1.kx.below)).mono ?_)
 rintro e w2 ⟨r18, rfl, hrw, hb⟩
 have hh18 := hrw.1
 refine ⟨_, _, rfl, hw1.row hb hrw, ?_⟩
 clear hrw hb hw1
 refine xoM ?_
 refine xo_ext rfl rfl rfl rfl ?_
 refine xo_ext rfl rfl rfl rfl ?_
 refine xoA ?_
 refine xoA ?_
 with_reducible (apply xo_nil; (repeat first | apply xqT | apply xqB | apply xqS))
 have htr := fun (k : Nat) (hk : k ≤ gs.length) => turn_told (z := at_) (k := k) hk hsc hrn
 have hh18 : r18 = none → (truthL n E gs ms room at_).length = 0 := fun q => by rw [hh18 q]; rfl
 have hla6 : (truthL n E gs ms room at_).length ≤ 6 := by
  rcases truth_is (z := at_) hsc hrOK with ⟨_, q, _⟩ | ⟨_, q, _⟩
  ·rw [okD_len (allD_ok _ q)]; exact hg6
  ·rw [q]; simp
 generalize hTC : truthC n E gs ms room at_ = tc at hlt' htr
 generalize hTL : truthL n E gs ms room at_ = tl at hlt' hh18 hla6 ⊢
 refine xc_slots [(4, .int .u8 turn), (5, .pointer (some ⟨b5, 0, none⟩)), (11, .bool true), (12, .int .i64 (room : Int)), (13, .int .i64 at_), (14, .int .i64 nn), (15, .pointer (some ⟨b15, 0, none⟩)), (18, .slice (valA r18) tl.length (valC r18)), (19, .int .i64 tc)] ⟨rfl, rfl, rfl, rfl, rfl, rfl, rfl, congrArg some (valR_eq hh18), rfl, trivial⟩ ?_
 with_reducible ((repeat apply xc_seq); apply xcR)
 refine xo_loadN T_ rfl rfl rfl (by repeat first | exact mH | apply mT | apply mA) rfl rfl ?_
 refine xo_callB (fs := []) (cs := []) rfl rfl rfl ready_enters rfl (fun w1 hw1 => hRdy w1 (hown hw1 (by repeat first | exact mH | apply mT | apply mA) (by repeat first | exact mH | apply mT | apply mA))) ?_
 with_reducible (apply xo_nil; (repeat first | apply xqT | apply xqB | apply xqS); (repeat apply xc_seq))
 refine xc_meet2 (γ := Unit) (fun _ => True) (fun _ => [(4, .int .u8 turn), (5, .pointer (some ⟨b5, 0, none⟩)), (11, .bool true), (12, .int .i64 (room : Int)), (13, .int .i64 at_), (19, .int .i64 tc)]) (fun _ => [(b5, true, cel (scnV n A gs.length c E B ms.length c2) 25)]) ?_ (fun _ _ => ?_)
 ·with_reducible repeat apply xc_seq
  refine xc_cond rfl (fun h => ?_) (fun h => ?_)
  ·obtain ⟨q1, q2⟩ := hlt' h
   have k1 : (!decide (tc = tc)) = false := by simp
   have k2 : (!decide (tl = tl)) = false := by simp
   with_reducible ((repeat apply xc_seq); apply xcR)
   refine xo_loadN T_ rfl rfl rfl (by repeat first | exact mH | apply mT | apply mA) rfl rfl ?_
   refine xoM ?_
   refine xoM ?_
   refine xoM ?_
   refine xo_add rfl rfl rfl (by omega) rfl ?_
   refine xo_call (fs := []) (cs := []) rfl rfl rfl Truth_enters rfl (fun w1 hw1 => (hTru w1 (hown hw1 (by repeat first | exact mH | apply mT | apply mA) (by repeat first | exact mH | apply mT | apply mA))).mono ?_)
   rw [q1, q2]
   rintro e w2 ⟨r20, rfl, hrw, hb⟩
   have hh20 := hrw.1
   refine ⟨_, _, rfl, hw1.row hb hrw, ?_⟩
   clear hrw hb hw1
   refine xoM ?_
   refine xo_ext rfl rfl rfl rfl ?_
   refine xo_ext rfl rfl rfl rfl ?_
   refine xoA ?_
   refine xoA ?_
   with_reducible (apply xo_nil; (repeat first | apply xqT | apply xqB | apply xqS))
   have hh20 : r20 = none → tl.length = 0 := fun q => by rw [hh20 q]; rfl
   refine xc_slots [(4, .int .u8 turn), (5, .pointer (some ⟨b5, 0, none⟩)), (11, .bool true), (12, .int .i64 (room : Int)), (13, .int .i64 at_), (18, .slice (valA r18) tl.length (valC r18)), (19, .int .i64 tc), (20, .slice (valA r20) tl.length (valC r20)), (21, .int .i64 tc)] ⟨rfl, rfl, rfl, rfl, rfl, rfl, rfl, congrArg some (valR_eq hh20), rfl, trivial⟩ ?_
   with_reducible ((repeat apply xc_seq); apply xcR)
   refine xoM ?_
   refine xoM ?_
   refine xo_neq rfl rfl rfl rfl ?_
   refine xoM ?_
   refine xo_as (i := 119) rfl (congrArg Value.bool k1) ?_
   (first | refine xoN ?_ | refine xoM ?_)
   (first | refine xoN ?_ | refine xoM ?_)
   (first | refine xoN ?_ | refine xo_callB (fs := []) (cs := []) rfl rfl rfl sameInts_enters rfl (fun w1 hw1 => sameInts_calls (valA r18) (valA r20) (valC r18) (valC r20) tl tl w1 (intsAt_row (hw1.bl_of (fun e he => by repeat (first | exact he | exact List.mem_append_left _ he | apply List.mem_append_right | apply List.Mem.tail))) hh18) (intsAt_row (hw1.bl_of (fun e he => by repeat (first | exact he | exact List.mem_append_left _ he | apply List.mem_append_right | apply List.Mem.tail))) hh20) (by omega)) ?_)
   (first | refine xoN ?_ | refine xo_notOp rfl rfl rfl ?_)
   first | refine xo_pickT rfl rfl rfl rfl ?_ | refine xo_pickF rfl rfl rfl rfl ?_
   refine xo_as (i := 124) rfl (congrArg Value.bool k2) ?_
   with_reducible (apply xo_nil; (repeat first | apply xqT | apply xqB | apply xqS); (repeat apply xc_seq))
   refine xc_condF rfl ?_
   with_reducible (apply xc_skip; (repeat first | apply xqT | apply xqB | apply xqS))
   exact xq_meet _ _ _ () trivial ⟨rfl, rfl, rfl, rfl, rfl, rfl, trivial⟩ (by repeat (first | exact List.Sublist.refl _ | refine List.Sublist.trans ?_ (List.sublist_append_right _ _) | refine List.Sublist.trans ?_ (List.sublist_cons_self _ _)))
  ·with_reducible apply xc_skip
   with_reducible (repeat first | apply xqT | apply xqB | apply xqS)
   exact xq_meet _ _ _ () trivial ⟨rfl, rfl, rfl, rfl, rfl, rfl, trivial⟩ (by repeat (first | exact List.Sublist.refl _ | refine List.Sublist.trans ?_ (List.sublist_append_right _ _) | refine List.Sublist.trans ?_ (List.sublist_cons_self _ _)))
 clear hown hlt' hMs hMk hMl hRdy hTru
 with_reducible ((repeat apply xc_seq); apply xcR)
 refine xoA ?_
 with_reducible (apply xo_nil; (repeat first | apply xqT | apply xqB | apply xqS); (repeat apply xc_seq); apply xcR)
 refine xo_fa T_ rfl rfl rfl rfl rfl ?_
 refine xo_load0 T_ rfl rfl rfl (by repeat first | exact mH | apply mT | apply mA) rfl rfl ?_
 refine xo_len T_ rfl rfl rfl rfl ?_
 refine xo_gtr rfl rfl rfl rfl ?_
 with_reducible (apply xo_nil; (repeat first | apply xqT | apply xqB | apply xqS); (repeat apply xc_seq))
 refine xc_meet2 (γ := Nat) (fun k => k ≤ gs.length) (fun kk => [(5, .pointer (some ⟨b5, 0, none⟩)), (11, .bool true), (12, .int .i64 (room : Int)), (13, .int .i64 at_), (19, .int .i64 tc), (22, .int .i64 (kk : Int))]) (fun _ => [(b5, true, cel (scnV n A gs.length c E B ms.length c2) 25)]) ?_ (fun kk hkk => ?_)
 ·with_reducible repeat apply xc_seq
  refine xc_cond rfl (fun h => ?_) (fun h => ?_)
  ·have h0 : 0 < gs.length := by have := of_decide_eq_true h; omega
   have hmod : 0 ≤ turn % (gs.length : Int) ∧ turn % (gs.length : Int) < gs.length := ⟨Int.emod_nonneg _ (by omega), Int.emod_lt_of_pos _ (by omega)⟩
   with_reducible ((repeat apply xc_seq); apply xcR)
   refine xoM ?_
   refine xo_conv T_ rfl rfl rfl rfl (IntWalk.i64_in _ ⟨by omega, by omega⟩) rfl ?_
   refine xo_fa T_ rfl rfl rfl rfl rfl ?_
   refine xo_load0 T_ rfl rfl rfl (by repeat first | exact mH | apply mT | apply mA) rfl rfl ?_
   refine xo_len T_ rfl rfl rfl rfl ?_
   refine xo_rem rfl rfl rfl (by omega) (by omega) rfl ?_
   refine xoA ?_
   with_reducible (apply xo_nil; (repeat first | apply xqT | apply xqB | apply xqS))
   exact xq_meet _ _ _ (turn % (gs.length : Int)).toNat (by omega) ⟨rfl, rfl, rfl, rfl, rfl, congrArg (fun z => some (Value.int .i64 z)) (by omega), trivial⟩ (List.Sublist.refl _)
  ·with_reducible apply xc_skip
   with_reducible (repeat first | apply xqT | apply xqB | apply xqS)
   exact xq_meet _ _ _ 0 (Nat.zero_le _) ⟨rfl, rfl, rfl, rfl, rfl, rfl, trivial⟩ (List.Sublist.refl _)
 have ht := htr kk hkk
 clear htr
 with_reducible ((repeat apply xc_seq); apply xcR)
 refine xo_loadN T_ rfl rfl rfl (by repeat first | exact mH | apply mT | apply mA) rfl rfl ?_
 refine xo_alloc T_ rfl rfl rfl rfl (fun b23 => ?_)
 refine xo_store T_ rfl rfl rfl rfl (by repeat first | exact mH | apply mT | apply mA) rfl rfl rfl rfl (by repeat first | exact Upd.head | apply Upd.tail | apply Upd.app) rfl ?_
 with_reducible (apply xo_nil; (repeat first | apply xqT | apply xqB | apply xqS))
 refine xc_slots [(5, .pointer (some ⟨b5, 0, none⟩)), (11, .bool true), (12, .int .i64 (room : Int)), (13, .int .i64 at_), (19, .int .i64 tc), (22, .int .i64 (kk : Int)), (23, .pointer (some ⟨b23, 0, none⟩))] ⟨rfl, rfl, rfl, rfl, rfl, rfl, rfl, trivial⟩ ?_
 have hG0 : gatL (gs.drop kk) ++ gatL (gs.take kk) = gatL (gs.drop kk ++ gs.take kk) := by simp [gatL]
 have hGl : 0 + (gs.length - kk) + kk = (gs.drop kk ++ gs.take kk).length := by rw [List.length_append, List.length_drop, List.length_take]; omega
 with_reducible (repeat apply xc_seq)
 apply xc_drawE (fun g => [(0, .slice (some ⟨(g.getD 0 gv0).b, 0, none⟩) 0 0), (5, .slice (some ⟨(g.getD 1 gv0).b, 0, none⟩) (0 + (gs.length - kk)) (g.getD 1 gv0).c), (10, .slice (some ⟨(g.getD 2 gv0).b, 0, none⟩) (0 + (gs.length - kk) + kk) (g.getD 2 gv0).c)]) (fun (η0 : Hp) g => match g with | [] => (η0) | a0 :: [] => ((a0.b, true, orow 52 4 0 0 []) :: η0) | a0 :: a1 :: [] => ((a1.b, true, orow 52 4 (0 + (gs.length - kk)) a1.c ([] ++ gatL (gs.drop kk))) :: η0) | a0 :: a1 :: a2 :: [] => ((a2.b, true, orow 52 4 (0 + (gs.length - kk) + kk) a2.c (([] ++ gatL (gs.drop kk)) ++ gatL (gs.take kk))) :: η0) | a0 :: a1 :: a2 :: a3 :: _ => ([(a2.b, true, orow 52 4 (0 + (gs.length - kk) + kk) a2.c (([] ++ gatL (gs.drop kk)) ++ gatL (gs.take kk))), (b23, true, cel [.int .i64 (n : Int), .slice (some ⟨a2.b, 0, none⟩) (0 + (gs.length - kk) + kk) a2.c, .int .i64 E, .slice B ms.length c2] 25), (b5, true, cel (scnV n A gs.length c E B ms.length c2) 25)])) (fun _ => True) [1, 0, 0, 0, 0, 2, 0, 0, 0, 0, 3, 3, 4] [0, 5, 10, 12] [[], [0, 4], [5, 9, 5], [11, 10, 10, 0, 1, 2, 3, 4, 5, 6, 7, 8, 9, 10]] (by trivial)
 apply SameLen.cons (c := undef)
 apply SameLen.cons
 apply SameLen.cons
 apply SameLen.cons
 apply SameLen.cons
 apply SameLen.cons (c := undef)
 apply SameLen.cons
 apply SameLen.cons
 apply SameLen.cons
 apply SameLen.cons
 apply SameLen.cons (c := undef)
 apply SameLen.cons
 apply SameLen.cons
 exact SameLen.nil
 rotate_left 10
 case hH0 => rfl
 case hmix => exact T_.mixed
 case hbind => rfl
 case hdeps => rfl
 case hdist => rfl
 case hfresh => rfl
 case hE => rfl
 case hEn => decide
 ·refine DrawE.eff 0 rfl (by decide) rfl (fun j hj => hj) (fun j g a hj => ?_) (fun L g hg hd => Nat.zero_le _) (fun g hgl hF τ => ?_) ?_
  ·rcases j with _ | _ | _ | _ | _ | _ | _ | _ | _ | _ | _ | _ | _ | j
   all_goals first | rfl | (rcases g with _ | ⟨a0, _ | ⟨a1, _ | ⟨a2, _ | ⟨a3, _ | ⟨a4, g⟩⟩⟩⟩⟩ <;> first | rfl | exact absurd hj (by decide) | exact absurd hj (by simp [List.getD]))
  ·obtain rfl : g = [] := by
    rcases g with _ | ⟨a0, g⟩ <;> first | rfl | (exfalso; simp only [List.length_cons, List.length_nil] at hgl; omega)
   refine xo_bs0 T_ 4 rfl rfl rfl rfl (fun b99 => ?_)
   exact xo_finE ⟨b99, 0, none⟩ rfl trivial
  refine DrawE.pure 0 3 rfl (.inr (by decide)) (fun L g hg hd => Nat.zero_le _) (fun g hlo hhi hF τ => ?_) ?_
  ·rcases g with _ | ⟨a0, _ | ⟨a1, _ | ⟨a2, _ | ⟨a3, _ | ⟨a4, g⟩⟩⟩⟩⟩ <;> first | (simp only [lenC, lenN] at hlo hhi; omega) | (refine ⟨_, rfl, ?_⟩; refine xo_fa T_ rfl rfl rfl rfl rfl ?_; exact xoF)
  refine DrawE.pure 0 3 rfl (.inr (by decide)) (fun L g hg hd => Nat.zero_le _) (fun g hlo hhi hF τ => ?_) ?_
  ·rcases g with _ | ⟨a0, _ | ⟨a1, _ | ⟨a2, _ | ⟨a3, _ | ⟨a4, g⟩⟩⟩⟩⟩ <;> first | (simp only [lenC, lenN] at hlo hhi; omega) | (refine ⟨_, rfl, ?_⟩; refine xo_load0 T_ rfl rfl rfl (by repeat first | exact mH | apply mT | apply mA) rfl rfl ?_; exact xoF)
  refine DrawE.pure 0 3 rfl (.inr (by decide)) (fun L g hg hd => Nat.zero_le _) (fun g hlo hhi hF τ => ?_) ?_
  ·rcases g with _ | ⟨a0, _ | ⟨a1, _ | ⟨a2, _ | ⟨a3, _ | ⟨a4, g⟩⟩⟩⟩⟩ <;> first | (simp only [lenC, lenN] at hlo hhi; omega) | (refine ⟨_, rfl, ?_⟩; refine xoM ?_; exact xoF)
  refine DrawE.pure 0 1 rfl (.inr (by decide)) (fun L g hg hd => Nat.zero_le _) (fun g hlo hhi hF τ => ?_) ?_
  ·rcases g with _ | ⟨a0, _ | ⟨a1, _ | ⟨a2, _ | ⟨a3, _ | ⟨a4, g⟩⟩⟩⟩⟩ <;> first | (simp only [lenC, lenN] at hlo hhi; omega) | (refine ⟨_, rfl, ?_⟩; refine xo_sliceLoG T_ rfl rfl rfl rfl rfl hkk rfl ?_; exact xoF)
  refine DrawE.eff 1 rfl (by decide) rfl (fun j hj => hj) (fun j g a hj => ?_) (fun L g hg hd => hg.2.1 0 (hd 0 (by decide))) (fun g hgl hF τ => ?_) ?_
  ·rcases j with _ | _ | _ | _ | _ | _ | _ | _ | _ | _ | _ | _ | _ | j
   all_goals first | rfl | (rcases g with _ | ⟨a0, _ | ⟨a1, _ | ⟨a2, _ | ⟨a3, _ | ⟨a4, g⟩⟩⟩⟩⟩ <;> first | rfl | exact absurd hj (by decide) | exact absurd hj (by simp [List.getD]))
  ·obtain ⟨a0, rfl⟩ : ∃ a0, g = [a0] := by
    rcases g with _ | ⟨a0, _ | ⟨a1, _ | ⟨a2, _ | ⟨a3, _ | ⟨a4, g⟩⟩⟩⟩⟩ <;> first | exact ⟨_, rfl⟩ | rfl | (exfalso; simp only [List.length_cons, List.length_nil] at hgl; omega)
   refine xo_appN TR_ (r := some (a0.b, 0)) (m := 0) (xs := []) (news := gatL (gs.drop kk)) (η0 := [(b23, true, cel (scnV n A gs.length c E B ms.length c2) 25), (b5, true, cel (scnV n A gs.length c E B ms.length c2) 25)]) rfl rfl rfl rfl rfl rfl rfl rfl rfl (by rw [gatL_len, List.length_drop]) (fun h => ?_) (fun p hp w1 hw1 j u hj => hw1.kx.cell (gates_from hgr4 hkk hcap hp hj) (fun h => h)) (one_flat gatV gatV_ones (gs.drop kk)) (fun h => by cases h) (by omega) rfl rfl (fun r99 hr99 => ?_)
   ·have := C_none hA
    unfold offA at h
    split at h
    ·have := this h; omega
    ·have := this (Option.map_eq_none_iff.1 h); omega
   rcases r99 with _ | ⟨b99, k99⟩
   ·exact absurd (hr99 rfl).1 (by simp)
   exact xo_finE ⟨b99, k99, none⟩ rfl trivial
  refine DrawE.pure 0 3 rfl (.inr (by decide)) (fun L g hg hd => Nat.zero_le _) (fun g hlo hhi hF τ => ?_) ?_
  ·rcases g with _ | ⟨a0, _ | ⟨a1, _ | ⟨a2, _ | ⟨a3, _ | ⟨a4, g⟩⟩⟩⟩⟩ <;> first | (simp only [lenC, lenN] at hlo hhi; omega) | (refine ⟨_, rfl, ?_⟩; refine xo_fa T_ rfl rfl rfl rfl rfl ?_; exact xoF)
  refine DrawE.pure 0 3 rfl (.inr (by decide)) (fun L g hg hd => Nat.zero_le _) (fun g hlo hhi hF τ => ?_) ?_
  ·rcases g with _ | ⟨a0, _ | ⟨a1, _ | ⟨a2, _ | ⟨a3, _ | ⟨a4, g⟩⟩⟩⟩⟩ <;> first | (simp only [lenC, lenN] at hlo hhi; omega) | (refine ⟨_, rfl, ?_⟩; refine xo_load0 T_ rfl rfl rfl (by repeat first | exact mH | apply mT | apply mA) rfl rfl ?_; exact xoF)
  refine DrawE.pure 0 3 rfl (.inr (by decide)) (fun L g hg hd => Nat.zero_le _) (fun g hlo hhi hF τ => ?_) ?_
  ·rcases g with _ | ⟨a0, _ | ⟨a1, _ | ⟨a2, _ | ⟨a3, _ | ⟨a4, g⟩⟩⟩⟩⟩ <;> first | (simp only [lenC, lenN] at hlo hhi; omega) | (refine ⟨_, rfl, ?_⟩; refine xoM ?_; exact xoF)
  refine DrawE.pure 0 2 rfl (.inr (by decide)) (fun L g hg hd => Nat.zero_le _) (fun g hlo hhi hF τ => ?_) ?_
  ·rcases g with _ | ⟨a0, _ | ⟨a1, _ | ⟨a2, _ | ⟨a3, _ | ⟨a4, g⟩⟩⟩⟩⟩ <;> first | (simp only [lenC, lenN] at hlo hhi; omega) | (refine ⟨_, rfl, ?_⟩; refine xo_sliceHiG T_ rfl rfl rfl rfl rfl (by omega) rfl ?_; exact xoF)
  refine DrawE.eff 2 rfl (by decide) rfl (fun j hj => hj) (fun j g a hj => ?_) (fun L g hg hd => hg.2.1 5 (hd 5 (by decide))) (fun g hgl hF τ => ?_) ?_
  ·rcases j with _ | _ | _ | _ | _ | _ | _ | _ | _ | _ | _ | _ | _ | j
   all_goals first | rfl | (rcases g with _ | ⟨a0, _ | ⟨a1, _ | ⟨a2, _ | ⟨a3, _ | ⟨a4, g⟩⟩⟩⟩⟩ <;> first | rfl | exact absurd hj (by decide) | exact absurd hj (by simp [List.getD]))
  ·obtain ⟨a0, a1, rfl⟩ : ∃ a0 a1, g = [a0, a1] := by
    rcases g with _ | ⟨a0, _ | ⟨a1, _ | ⟨a2, _ | ⟨a3, _ | ⟨a4, g⟩⟩⟩⟩⟩ <;> first | exact ⟨_, _, rfl⟩ | rfl | (exfalso; simp only [List.length_cons, List.length_nil] at hgl; omega)
   refine xo_appN TR_ (r := some (a1.b, a1.c)) (m := 0 + (gs.length - kk)) (xs := [] ++ gatL (gs.drop kk)) (news := gatL (gs.take kk)) (η0 := [(b23, true, cel (scnV n A gs.length c E B ms.length c2) 25), (b5, true, cel (scnV n A gs.length c E B ms.length c2) 25)]) rfl rfl rfl rfl rfl rfl rfl rfl (by rw [List.nil_append, gatL_len, List.length_drop]; omega) (by rw [gatL_len, List.length_take]; omega) (fun h => by have := C_none hA h; omega) (fun p hp w1 hw1 j u hj => hw1.kx.cell (flat_row gatV 4 zGat (fun _ => rfl) rfl (by omega) hgr4 hp (gatL_take gs hj)) (fun h => h)) (one_flat gatV gatV_ones (gs.take kk)) (fun h => by cases h) (by omega) rfl rfl (fun r99 hr99 => ?_)
   rcases r99 with _ | ⟨b99, k99⟩
   ·exact absurd (hr99 rfl).1 (by simp)
   exact xo_finE ⟨b99, k99, none⟩ rfl trivial
  refine DrawE.pure 3 3 rfl (.inr (by decide)) (fun L g hg hd => hg.2.1 10 (hd 10 (by decide))) (fun g hlo hhi hF τ => ?_) ?_
  ·rcases g with _ | ⟨a0, _ | ⟨a1, _ | ⟨a2, _ | ⟨a3, _ | ⟨a4, g⟩⟩⟩⟩⟩ <;> first | (simp only [lenC, lenN] at hlo hhi; omega) | (refine ⟨_, rfl, ?_⟩; refine xo_fa T_ rfl rfl rfl rfl rfl ?_; exact xoF)
  refine DrawE.eff 3 rfl (by decide) rfl (fun j hj => hj) (fun j g a hj => ?_) (fun L g hg hd => hg.2.1 11 (hd 11 (by decide))) (fun g hgl hF τ => ?_) ?_
  ·rcases j with _ | _ | _ | _ | _ | _ | _ | _ | _ | _ | _ | _ | _ | j
   all_goals first | rfl | (rcases g with _ | ⟨a0, _ | ⟨a1, _ | ⟨a2, _ | ⟨a3, _ | ⟨a4, g⟩⟩⟩⟩⟩ <;> first | rfl | exact absurd hj (by decide) | exact absurd hj (by simp [List.getD]))
  ·obtain ⟨a0, a1, a2, rfl⟩ : ∃ a0 a1 a2, g = [a0, a1, a2] := by
    rcases g with _ | ⟨a0, _ | ⟨a1, _ | ⟨a2, _ | ⟨a3, _ | ⟨a4, g⟩⟩⟩⟩⟩ <;> first | exact ⟨_, _, _, rfl⟩ | rfl | (exfalso; simp only [List.length_cons, List.length_nil] at hgl; omega)
   refine xo_store T_ rfl rfl rfl rfl (by repeat first | exact mH | apply mT | apply mA) rfl rfl rfl rfl (by repeat first | exact Upd.head | apply Upd.tail | apply Upd.app) rfl ?_
   exact xo_finE ⟨0, 0, none⟩ rfl trivial
  exact DrawE.nil
 intro g hgl hF
 obtain ⟨a0, a1, a2, a3, rfl⟩ : ∃ a0 a1 a2 a3, g = [a0, a1, a2, a3] := by
  rcases g with _ | ⟨a0, _ | ⟨a1, _ | ⟨a2, _ | ⟨a3, _ | ⟨a4, g⟩⟩⟩⟩⟩ <;> first | exact ⟨_, _, _, _, rfl⟩ | (exfalso; simp only [List.length_cons, List.length_nil] at hgl; omega)
 with_reducible (repeat first | apply xqT | apply xqB | apply xqS)
 refine xc_slots [(5, .pointer (some ⟨b5, 0, none⟩)), (11, .bool true), (12, .int .i64 (room : Int)), (13, .int .i64 at_), (19, .int .i64 tc), (23, .pointer (some ⟨b23, 0, none⟩))] ⟨rfl, rfl, rfl, rfl, rfl, rfl, trivial⟩ ?_
 refine xc_sub (η' := [(a2.b, true, orow 52 4 (0 + (gs.length - kk) + kk) a2.c (([] ++ gatL (gs.drop kk)) ++ gatL (gs.take kk))), (b23, true, cel [.int .i64 (n : Int), .slice (some ⟨a2.b, 0, none⟩) (0 + (gs.length - kk) + kk) a2.c, .int .i64 E, .slice B ms.length c2] 25), (b5, true, cel (scnV n A gs.length c E B ms.length c2) 25)]) (List.Sublist.refl _) ?_
 obtain ⟨d2, l2, _⟩ := a2
 rw [List.nil_append, hG0, hGl]
 have hGg : (gs.drop kk ++ gs.take kk).length = gs.length := by rw [List.length_append, List.length_drop, List.length_take]; omega
 have hGf : (gs.drop kk ++ gs.take kk).map flipG = turnG gs kk := rfl
 generalize gs.drop kk ++ gs.take kk = G at hGg hGf ⊢
 have hf0 : flipL G 0 = G := by simp [flipL]
 with_reducible ((repeat apply xc_seq); apply xcR)
 refine xo_fa T_ rfl rfl rfl rfl rfl ?_
 refine xo_load0 T_ rfl rfl rfl (by repeat first | exact mH | apply mT | apply mA) rfl rfl ?_
 refine xo_len T_ rfl rfl rfl rfl ?_
 refine xoM ?_
 with_reducible (apply xo_nil; (repeat first | apply xqT | apply xqB | apply xqS); (repeat apply xc_seq); apply xc_block)
 refine xc_loop (γ := Nat) (fun i => i ≤ G.length) (fun i => [(5, .pointer (some ⟨b5, 0, none⟩)), (11, .bool true), (12, .int .i64 (room : Int)), (13, .int .i64 at_), (19, .int .i64 tc), (23, .pointer (some ⟨b23, 0, none⟩)), (149, .slice (some ⟨d2, 0, none⟩) G.length l2), (150, .int .i64 (G.length : Int)), (151, .int .i64 (i : Int))])
  (fun i => [(d2, true, orow 52 4 G.length l2 (gatL (flipL G i))), (b23, true, cel (scnV n (some ⟨d2, 0, none⟩) G.length l2 E B ms.length c2) 25), (b5, true, cel (scnV n A gs.length c E B ms.length c2) 25)]) (fun i => G.length - i) 0 (Nat.zero_le _) ⟨rfl, rfl, rfl, rfl, rfl, rfl, rfl, rfl, rfl, trivial⟩ (by rw [hf0]; exact List.Sublist.refl _) ?_
 intro i hil
 with_reducible ((repeat apply xc_seq); apply xcR)
 refine xo_lss rfl rfl rfl rfl ?_
 with_reducible (apply xo_nil; (repeat first | apply xqT | apply xqB | apply xqS); (repeat apply xc_seq))
 refine xc_cond rfl (fun h => ?_) (fun h => ?_)
 ·have hlt : i < G.length := by have := of_decide_eq_true h; omega
  have hll := flipL_len G (k := i) (by omega)
  have hget := flipL_get G hlt
  have a0 := gatL_at (flipL G i) (k := i) (j := 0) (by omega) (by omega)
  have a1 := gatL_at (flipL G i) (k := i) (j := 1) (by omega) (by omega)
  have hlen := gatL_len (flipL G i)
  have h2 := flip_two G hlt
  rw [hget] at a0 a1
  with_reducible (apply xc_skip; (repeat first | apply xqT | apply xqB | apply xqS); (repeat apply xc_seq); apply xc_block; (repeat apply xc_seq); apply xcR)
  refine xoM ?_
  refine xoA ?_
  with_reducible (apply xo_nil; (repeat first | apply xqT | apply xqB | apply xqS); (repeat apply xc_seq); apply xcR)
  refine xo_fa T_ rfl rfl rfl rfl rfl ?_
  refine xo_load0 T_ rfl rfl rfl (by repeat first | exact mH | apply mT | apply mA) rfl rfl ?_
  refine xoM ?_
  refine xo_ia T_ rfl rfl rfl rfl rfl ⟨by omega, by omega⟩ rfl ?_
  refine xoA ?_
  with_reducible (apply xo_nil; (repeat first | apply xqT | apply xqB | apply xqS))
  refine xc_slots [(5, .pointer (some ⟨b5, 0, none⟩)), (11, .bool true), (12, .int .i64 (room : Int)), (13, .int .i64 at_), (19, .int .i64 tc), (23, .pointer (some ⟨b23, 0, none⟩)), (25, .pointer (some ((⟨d2, 0, none⟩ : Addr).add ((i : Int).toNat * szN 4)))), (149, .slice (some ⟨d2, 0, none⟩) G.length l2), (150, .int .i64 (G.length : Int)), (151, .int .i64 (i : Int))] ⟨rfl, rfl, rfl, rfl, rfl, rfl, rfl, rfl, rfl, rfl, trivial⟩ ?_
  with_reducible (repeat apply xc_seq)
  apply xc_drawE (fun g => []) (fun (η0 : Hp) g => match g with | [] => (η0) | a0 :: [] => ([(d2, true, orow 52 4 G.length l2 ((gatL (flipL G i)).set (i * 4 + 0) (.int .i64 (G.getD i zGat).f1))), (b23, true, cel (scnV n (some ⟨d2, 0, none⟩) G.length l2 E B ms.length c2) 25), (b5, true, cel (scnV n A gs.length c E B ms.length c2) 25)]) | a0 :: a1 :: _ => ([(d2, true, orow 52 4 G.length l2 (gatL (flipL G (i + 1)))), (b23, true, cel (scnV n (some ⟨d2, 0, none⟩) G.length l2 E B ms.length c2) 25), (b5, true, cel (scnV n A gs.length c E B ms.length c2) 25)])) (fun _ => True) [0, 0, 0, 0, 0, 0, 0, 0, 0, 0, 0, 0, 1, 1, 1, 2] [12, 15] [[11, 5, 0, 2, 3, 4, 5, 9], [14, 9, 12, 0, 1, 2, 3, 4, 5, 6, 7, 8, 9, 10, 11, 12]] (by trivial)
  apply SameLen.cons
  apply SameLen.cons
  apply SameLen.cons
  apply SameLen.cons
  apply SameLen.cons
  apply SameLen.cons
  apply SameLen.cons
  apply SameLen.cons
  apply SameLen.cons
  apply SameLen.cons
  apply SameLen.cons
  apply SameLen.cons
  apply SameLen.cons
  apply SameLen.cons
  apply SameLen.cons
  apply SameLen.cons
  exact SameLen.nil
  rotate_left 16
  case hH0 => rfl
  case hmix => exact T_.mixed
  case hbind => rfl
  case hdeps => rfl
  case hdist => rfl
  case hfresh => rfl
  case hE => rfl
  case hEn => decide
  ·refine DrawE.pure 0 0 rfl (.inr (by decide)) (fun L g hg hd => Nat.zero_le _) (fun g hlo hhi hF τ => ?_) ?_
   ·rcases g with _ | ⟨a0, _ | ⟨a1, _ | ⟨a2, g⟩⟩⟩ <;> first | (simp only [lenC, lenN] at hlo hhi; omega) | (refine ⟨_, rfl, ?_⟩; refine xoM ?_; exact xoF)
   refine DrawE.pure 0 1 rfl (.inr (by decide)) (fun L g hg hd => Nat.zero_le _) (fun g hlo hhi hF τ => ?_) ?_
   ·rcases g with _ | ⟨a0, _ | ⟨a1, _ | ⟨a2, g⟩⟩⟩ <;> first | (simp only [lenC, lenN] at hlo hhi; omega) | (refine ⟨_, rfl, ?_⟩; refine xoM ?_; exact xoF)
   refine DrawE.pure 0 0 rfl (.inr (by decide)) (fun L g hg hd => Nat.zero_le _) (fun g hlo hhi hF τ => ?_) ?_
   ·rcases g with _ | ⟨a0, _ | ⟨a1, _ | ⟨a2, g⟩⟩⟩ <;> first | (simp only [lenC, lenN] at hlo hhi; omega) | (refine ⟨_, rfl, ?_⟩; refine xoM ?_; exact xoF)
   refine DrawE.pure 0 0 rfl (.inr (by decide)) (fun L g hg hd => Nat.zero_le _) (fun g hlo hhi hF τ => ?_) ?_
   ·rcases g with _ | ⟨a0, _ | ⟨a1, _ | ⟨a2, g⟩⟩⟩ <;> first | (simp only [lenC, lenN] at hlo hhi; omega) | (refine ⟨_, rfl, ?_⟩; refine xo_nilck rfl rfl rfl ?_; exact xoF)
   refine DrawE.pure 0 0 rfl (.inr (by decide)) (fun L g hg hd => Nat.zero_le _) (fun g hlo hhi hF τ => ?_) ?_
   ·rcases g with _ | ⟨a0, _ | ⟨a1, _ | ⟨a2, g⟩⟩⟩ <;> first | (simp only [lenC, lenN] at hlo hhi; omega) | (refine ⟨_, rfl, ?_⟩; refine xo_faR T_ rfl rfl rfl rfl rfl ?_; exact xoF)
   refine DrawE.pure 0 0 rfl (.inr (by decide)) (fun L g hg hd => Nat.zero_le _) (fun g hlo hhi hF τ => ?_) ?_
   ·rcases g with _ | ⟨a0, _ | ⟨a1, _ | ⟨a2, g⟩⟩⟩ <;> first | (simp only [lenC, lenN] at hlo hhi; omega) | (refine ⟨_, rfl, ?_⟩; refine xo_loadZ T_ (b := d2) (k := i * 4 + 1) (v := .int .i64 (G.getD i zGat).f1) rfl rfl rfl (ad_g1 d2 i 1) (by repeat first | exact mH | apply mT | apply mA) a1 rfl ?_; exact xoF)
   refine DrawE.pure 0 1 rfl (.inr (by decide)) (fun L g hg hd => Nat.zero_le _) (fun g hlo hhi hF τ => ?_) ?_
   ·rcases g with _ | ⟨a0, _ | ⟨a1, _ | ⟨a2, g⟩⟩⟩ <;> first | (simp only [lenC, lenN] at hlo hhi; omega) | (refine ⟨_, rfl, ?_⟩; refine xoM ?_; exact xoF)
   refine DrawE.pure 0 1 rfl (.inr (by decide)) (fun L g hg hd => Nat.zero_le _) (fun g hlo hhi hF τ => ?_) ?_
   ·rcases g with _ | ⟨a0, _ | ⟨a1, _ | ⟨a2, g⟩⟩⟩ <;> first | (simp only [lenC, lenN] at hlo hhi; omega) | (refine ⟨_, rfl, ?_⟩; refine xo_nilck rfl rfl rfl ?_; exact xoF)
   refine DrawE.pure 0 1 rfl (.inr (by decide)) (fun L g hg hd => Nat.zero_le _) (fun g hlo hhi hF τ => ?_) ?_
   ·rcases g with _ | ⟨a0, _ | ⟨a1, _ | ⟨a2, g⟩⟩⟩ <;> first | (simp only [lenC, lenN] at hlo hhi; omega) | (refine ⟨_, rfl, ?_⟩; refine xo_faR T_ rfl rfl rfl rfl rfl ?_; exact xoF)
   refine DrawE.pure 0 0 rfl (.inr (by decide)) (fun L g hg hd => Nat.zero_le _) (fun g hlo hhi hF τ => ?_) ?_
   ·rcases g with _ | ⟨a0, _ | ⟨a1, _ | ⟨a2, g⟩⟩⟩ <;> first | (simp only [lenC, lenN] at hlo hhi; omega) | (refine ⟨_, rfl, ?_⟩; refine xo_loadZ T_ (b := d2) (k := i * 4 + 0) (v := .int .i64 (G.getD i zGat).f0) rfl rfl rfl (ad_g1 d2 i 0) (by repeat first | exact mH | apply mT | apply mA) a0 rfl ?_; exact xoF)
   refine DrawE.pure 0 1 rfl (.inr (by decide)) (fun L g hg hd => Nat.zero_le _) (fun g hlo hhi hF τ => ?_) ?_
   ·rcases g with _ | ⟨a0, _ | ⟨a1, _ | ⟨a2, g⟩⟩⟩ <;> first | (simp only [lenC, lenN] at hlo hhi; omega) | (refine ⟨_, rfl, ?_⟩; refine xo_nilck rfl rfl rfl ?_; exact xoF)
   refine DrawE.pure 0 0 rfl (.inr (by decide)) (fun L g hg hd => Nat.zero_le _) (fun g hlo hhi hF τ => ?_) ?_
   ·rcases g with _ | ⟨a0, _ | ⟨a1, _ | ⟨a2, g⟩⟩⟩ <;> first | (simp only [lenC, lenN] at hlo hhi; omega) | (refine ⟨_, rfl, ?_⟩; refine xo_faR T_ rfl rfl rfl rfl rfl ?_; exact xoF)
   refine DrawE.eff 0 rfl (by decide) rfl (fun j hj => hj) (fun j g a hj => ?_) (fun L g hg hd => Nat.zero_le _) (fun g hgl hF τ => ?_) ?_
   ·rcases j with _ | _ | _ | _ | _ | _ | _ | _ | _ | _ | _ | _ | _ | _ | _ | _ | j
    all_goals first | rfl | (rcases g with _ | ⟨a0, _ | ⟨a1, _ | ⟨a2, g⟩⟩⟩ <;> first | rfl | exact absurd hj (by decide) | exact absurd hj (by simp [List.getD]))
   ·obtain rfl : g = [] := by
     rcases g with _ | ⟨a0, g⟩ <;> first | rfl | (exfalso; simp only [List.length_cons, List.length_nil] at hgl; omega)
    refine xo_storeZ T_ (b := d2) (k := i * 4 + 0) rfl rfl rfl (ad_g1 d2 i 0) rfl (by repeat first | exact mH | apply mT | apply mA) rfl rfl (by omega) (by repeat first | exact Upd.head | apply Upd.tail | apply Upd.app) rfl ?_
    exact xo_finE ⟨0, 0, none⟩ rfl trivial
   refine DrawE.pure 1 2 rfl (.inl rfl) (fun L g hg hd => hg.2.1 12 (hd 12 (by decide))) (fun g hlo hhi hF τ => ?_) ?_
   ·rcases g with _ | ⟨a0, _ | ⟨a1, _ | ⟨a2, g⟩⟩⟩ <;> first | (simp only [lenC, lenN] at hlo hhi; omega) | (refine ⟨_, rfl, ?_⟩; refine xo_nilck rfl rfl rfl ?_; exact xoF)
   refine DrawE.pure 1 1 rfl (.inr (by decide)) (fun L g hg hd => hg.2.1 13 (hd 13 (by decide))) (fun g hlo hhi hF τ => ?_) ?_
   ·rcases g with _ | ⟨a0, _ | ⟨a1, _ | ⟨a2, g⟩⟩⟩ <;> first | (simp only [lenC, lenN] at hlo hhi; omega) | (refine ⟨_, rfl, ?_⟩; refine xo_faR T_ rfl rfl rfl rfl rfl ?_; exact xoF)
   refine DrawE.eff 1 rfl (by decide) rfl (fun j hj => hj) (fun j g a hj => ?_) (fun L g hg hd => hg.2.1 14 (hd 14 (by decide))) (fun g hgl hF τ => ?_) ?_
   ·rcases j with _ | _ | _ | _ | _ | _ | _ | _ | _ | _ | _ | _ | _ | _ | _ | _ | j
    all_goals first | rfl | (rcases g with _ | ⟨a0, _ | ⟨a1, _ | ⟨a2, g⟩⟩⟩ <;> first | rfl | exact absurd hj (by decide) | exact absurd hj (by simp [List.getD]))
   ·obtain ⟨a0, rfl⟩ : ∃ a0, g = [a0] := by
     rcases g with _ | ⟨a0, _ | ⟨a1, _ | ⟨a2, g⟩⟩⟩ <;> first | exact ⟨_, rfl⟩ | rfl | (exfalso; simp only [List.length_cons, List.length_nil] at hgl; omega)
    refine xo_storeZ T_ (b := d2) (k := i * 4 + 1) (η' := [(d2, true, orow 52 4 G.length l2 (gatL (flipL G (i + 1)))), (b23, true, cel (scnV n (some ⟨d2, 0, none⟩) G.length l2 E B ms.length c2) 25), (b5, true, cel (scnV n A gs.length c E B ms.length c2) 25)]) rfl rfl rfl (ad_g1 d2 i 1) rfl (by repeat first | exact mH | apply mT | apply mA) rfl rfl (by omega) (by rw [← h2]; exact (by repeat first | exact Upd.head | apply Upd.tail | apply Upd.app)) rfl ?_
    exact xo_finE ⟨0, 0, none⟩ rfl trivial
   exact DrawE.nil
  intro g hgl hF
  obtain ⟨a0, a1, rfl⟩ : ∃ a0 a1, g = [a0, a1] := by
   rcases g with _ | ⟨a0, _ | ⟨a1, _ | ⟨a2, g⟩⟩⟩ <;> first | exact ⟨_, _, rfl⟩ | (exfalso; simp only [List.length_cons, List.length_nil] at hgl; omega)
  with_reducible (repeat first | apply xqT | apply xqB | apply xqS)
  refine xc_slots [(5, .pointer (some ⟨b5, 0, none⟩)), (11, .bool true), (12, .int .i64 (room : Int)), (13, .int .i64 at_), (19, .int .i64 tc), (23, .pointer (some ⟨b23, 0, none⟩)), (149, .slice (some ⟨d2, 0, none⟩) G.length l2), (150, .int .i64 (G.length : Int)), (151, .int .i64 (i : Int))] ⟨rfl, rfl, rfl, rfl, rfl, rfl, rfl, rfl, rfl, trivial⟩ ?_
  refine xc_sub (η' := [(d2, true, orow 52 4 G.length l2 (gatL (flipL G (i + 1)))), (b23, true, cel (scnV n (some ⟨d2, 0, none⟩) G.length l2 E B ms.length c2) 25), (b5, true, cel (scnV n A gs.length c E B ms.length c2) 25)]) (List.Sublist.refl _) ?_
  with_reducible ((repeat apply xc_seq); apply xcR)
  refine xo_add rfl rfl rfl (by omega) rfl ?_
  refine xoM ?_
  with_reducible (apply xo_nil; (repeat first | apply xqT | apply xqB | apply xqS))
  exact xq_again _ _ _ _ _ (i + 1) hlt (by omega) ⟨rfl, rfl, rfl, rfl, rfl, rfl, rfl, rfl, rfl, trivial⟩ (List.Sublist.refl _)
 have hge : i = G.length := by have := of_decide_eq_false h; omega
 subst hge
 with_reducible (apply xc_exit; (repeat (first | apply xq_blockX | apply xq_thenE | refine xq_blockE rfl ?_ | apply xq_scopeE)); (repeat first | apply xqT | apply xqB | apply xqS))
 rw [flipL_all, hGf]
 have hTl : G.length = (turnG gs kk).length := by rw [← hGf, List.length_map]
 rw [hTl]
 have hT6 : (turnG gs kk).length ≤ 6 := by omega
 generalize turnG gs kk = gt at ht hT6 ⊢
 obtain ⟨hsc2, hml, ⟨hmc2, hmc1⟩, htc2, htis⟩ := ht
 have hG2 := (sceneF_ok hsc2).2.2.1
 have htu2 : ∀ {η : Hp} {w1 : World}, WOK w XNone η w1 → (d2, true, orow 52 4 gt.length l2 (gatL gt)) ∈ η → SceneAt w1 (some ⟨d2, 0, none⟩) B gt ms := fun {η w1} hw1 m1 => ⟨gates_C (by omega) (hw1.bl_of fun e he => by rw [List.mem_singleton.1 he]; exact m1), Kd.C_below hB hw1.kx.below, hk, hglob.below hw1.kx.below⟩
 have hL601 : (minutesL n E gs ms room).length ≤ 601 := minutes_few hE6
 with_reducible ((repeat apply xc_seq); apply xcR)
 refine xo_loadN T_ rfl rfl rfl (by repeat first | exact mH | apply mT | apply mA) rfl rfl ?_
 refine xoM ?_
 refine xo_call (fs := []) (cs := []) rfl rfl rfl Minutes_enters rfl (fun w1 hw1 => (Minutes_calls n E A B c c2 gs ms room w1 (hs.below hw1.kx.below)).mono ?_)
 rw [hmc1]
 rintro e w2 ⟨r26, rfl, hrw, hb⟩
 have hh26 := hrw.1
 refine ⟨_, _, rfl, hw1.rowZ hb hrw, ?_⟩
 clear hrw hb hw1
 refine xoM ?_
 refine xo_ext rfl rfl rfl rfl ?_
 refine xo_ext rfl rfl rfl rfl ?_
 refine xoA ?_
 refine xoA ?_
 with_reducible (apply xo_nil; (repeat first | apply xqT | apply xqB | apply xqS); (repeat apply xc_seq); apply xcR)
 refine xo_loadN T_ rfl rfl rfl (by repeat first | exact mH | apply mT | apply mA) rfl rfl ?_
 refine xoM ?_
 refine xo_call (fs := []) (cs := []) rfl rfl rfl Minutes_enters rfl (fun w1 hw1 => (Minutes_calls n E (some ⟨d2, 0, none⟩) B l2 c2 gt ms room w1 (htu2 hw1 (by repeat first | exact mH | apply mT | apply mA))).mono ?_)
 rw [hmc2, hml]
 rintro e w2 ⟨r28, rfl, hrw, hb⟩
 have hh28 := hrw.1
 refine ⟨_, _, rfl, hw1.rowZ hb hrw, ?_⟩
 clear hrw hb hw1
 refine xoM ?_
 refine xo_ext rfl rfl rfl rfl ?_
 refine xo_ext rfl rfl rfl rfl ?_
 refine xoA ?_
 refine xoA ?_
 with_reducible (apply xo_nil; (repeat first | apply xqT | apply xqB | apply xqS); (repeat apply xc_seq); apply xcR)
 refine xo_loadN T_ rfl rfl rfl (by repeat first | exact mH | apply mT | apply mA) rfl rfl ?_
 refine xoM ?_
 refine xoM ?_
 refine xo_call (fs := []) (cs := []) rfl rfl rfl Truth_enters rfl (fun w1 hw1 => (Truth_calls n E (some ⟨d2, 0, none⟩) B l2 c2 gt ms room at_ w1 (htu2 hw1 (by repeat first | exact mH | apply mT | apply mA))).mono ?_)
 rw [htc2]
 rintro e w2 ⟨r30, rfl, hrw, hb⟩
 have hh30 := hrw.1
 refine ⟨_, _, rfl, hw1.row hb hrw, ?_⟩
 clear hrw hb hw1
 refine xoM ?_
 refine xo_ext rfl rfl rfl rfl ?_
 refine xo_ext rfl rfl rfl rfl ?_
 refine xoA ?_
 refine xoA ?_
 with_reducible (apply xo_nil; (repeat first | apply xqT | apply xqB | apply xqS))
 have hh26 : r26 = none → (minutesL n E gs ms room).length = 0 := hh26
 have hh28 : r28 = none → (minutesL n E gs ms room).length = 0 := hh28
 have hh30 : r30 = none → (truthL n E gt ms room at_).length = 0 := fun q => by rw [hh30 q]; rfl
 rw [hTC] at htis ⊢
 rw [Int.toNat_natCast, Int.toNat_natCast] at htis
 generalize truthL n E gt ms room at_ = tl2 at htis hh30 ⊢
 generalize minutesL n E gs ms room = L at hh26 hh28 hL601 ⊢
 refine xc_slots [(5, .pointer (some ⟨b5, 0, none⟩)), (11, .bool true), (12, .int .i64 (room : Int)), (13, .int .i64 at_), (19, .int .i64 tc), (23, .pointer (some ⟨b23, 0, none⟩)), (26, .slice (valA r26) L.length (valC r26)), (27, .int .i64 0), (28, .slice (valA r28) L.length (valC r28)), (29, .int .i64 0), (30, .slice (valA r30) tl2.length (valC r30)), (31, .int .i64 tc)] ⟨rfl, rfl, rfl, rfl, rfl, rfl, congrArg some (valR_eq hh26), rfl, congrArg some (valR_eq hh28), rfl, congrArg some (valR_eq hh30), rfl, trivial⟩ ?_
 have k3 : (!eqL L L) = false := by rw [eqL_true rfl]; rfl
 have k4 : (!decide (tc = tc)) = false := by simp
 with_reducible ((repeat apply xc_seq); apply xcR)
 refine xoM ?_
 refine xo_neq rfl rfl rfl rfl ?_
 refine xoM ?_
 (first | refine xoN ?_ | refine xoM ?_)
 (first | refine xoN ?_ | refine xo_neq rfl rfl rfl rfl ?_)
 first | refine xo_pickT rfl rfl rfl rfl ?_ | refine xo_pickF rfl rfl rfl rfl ?_
 refine xoM ?_
 (first | refine xoN ?_ | refine xoM ?_)
 (first | refine xoN ?_ | refine xoM ?_)
 (first | refine xoN ?_ | refine xo_callB (fs := []) (cs := []) rfl rfl rfl sameSpans_enters rfl (fun w1 hw1 => sameSpans_calls (valA r26) (valA r28) (valC r26) (valC r28) L L w1 (spansAt_row (hw1.bl_of (fun e he => by repeat (first | exact he | exact List.mem_append_left _ he | apply List.mem_append_right | apply List.Mem.tail))) hh26) (spansAt_row (hw1.bl_of (fun e he => by repeat (first | exact he | exact List.mem_append_left _ he | apply List.mem_append_right | apply List.Mem.tail))) hh28) (by omega)) ?_)
 (first | refine xoN ?_ | refine xo_notOp rfl rfl rfl ?_)
 refine xo_as (i := 202) rfl (congrArg Value.bool k3) ?_
 first | refine xo_pickT rfl rfl rfl rfl ?_ | refine xo_pickF rfl rfl rfl rfl ?_
 refine xoM ?_
 (first | refine xoN ?_ | refine xoM ?_)
 (first | refine xoN ?_ | refine xoM ?_)
 (first | refine xoN ?_ | refine xo_neq rfl rfl rfl rfl ?_)
 refine xo_as (i := 207) rfl (congrArg Value.bool k4) ?_
 first | refine xo_pickT rfl rfl rfl rfl ?_ | refine xo_pickF rfl rfl rfl rfl ?_
 with_reducible (apply xo_nil; (repeat first | apply xqT | apply xqB | apply xqS); (repeat apply xc_seq))
 refine xc_condF rfl ?_
 with_reducible (apply xc_skip; (repeat first | apply xqT | apply xqB | apply xqS))
 cases h0 : (!decide (tc = 0))
 ·have h0' : tc = 0 := by simpa using h0
  obtain ⟨u1, u2, u3⟩ := htis h0'
  with_reducible ((repeat apply xc_seq); apply xcR)
  refine xoM ?_
  refine xoM ?_
  (first | refine xoN ?_ | refine xoM ?_)
  (first | refine xoN ?_ | refine xo_neq rfl rfl rfl rfl ?_)
  refine xo_as (i := 212) rfl (congrArg Value.bool h0) ?_
  (first | refine xoN ?_ | refine xoM ?_)
  (first | refine xoN ?_ | refine xo_loadN T_ rfl rfl rfl (by repeat first | exact mH | apply mT | apply mA) rfl rfl ?_)
  (first | refine xoN ?_ | refine xoM ?_)
  (first | refine xoN ?_ | refine xoM ?_)
  (first | refine xoN ?_ | refine xoM ?_)
  (first | refine xoN ?_ | refine xo_callB (fs := []) (cs := []) rfl rfl rfl truth_enters rfl (fun w1 hw1 => truth_yes n E (some ⟨d2, 0, none⟩) B (valA r30) l2 c2 (valC r30) gt ms tl2 room at_ w1 ⟨hn1, hn6⟩ hE6 hG2 hm8 hmkR u1 (gat_row (htu2 hw1 (by repeat first | exact mH | apply mT | apply mA)).gates) (hmr7.below hw1.kx.below) (intsAt_row (hw1.bl_of (fun e he => by repeat (first | exact he | exact List.mem_append_left _ he | apply List.mem_append_right | apply List.Mem.tail))) hh30) hrn u2 u3) ?_)
  (first | refine xoN ?_ | (first | refine xo_pickT rfl rfl rfl rfl ?_ | refine xo_pickF rfl rfl rfl rfl ?_))
  first | refine xo_pickT rfl rfl rfl rfl ?_ | refine xo_pickF rfl rfl rfl rfl ?_
  refine xoA ?_
  with_reducible (apply xo_nil; (repeat first | apply xqT | apply xqB | apply xqS); (repeat apply xc_seq); apply xc_ret; (repeat (first | apply xq_thenR | apply xq_blockR | apply xq_scopeR)))
  exact xq_ret1 rfl rfl fun w' hw => ⟨rfl, hw.kx.below⟩
 ·with_reducible repeat apply xc_seq
  with_reducible apply xcR
  refine xoM ?_
  refine xoM ?_
  (first | refine xoN ?_ | refine xoM ?_)
  (first | refine xoN ?_ | refine xo_neq rfl rfl rfl rfl ?_)
  refine xo_as (i := 212) rfl (congrArg Value.bool h0) ?_
  (first | refine xoN ?_ | refine xoM ?_)
  (first | refine xoN ?_ | refine xo_loadN T_ rfl rfl rfl (by repeat first | exact mH | apply mT | apply mA) rfl rfl ?_)
  (first | refine xoN ?_ | refine xoM ?_)
  (first | refine xoN ?_ | refine xoM ?_)
  (first | refine xoN ?_ | refine xoM ?_)
  (first | refine xoN ?_ | (fail "NO RULE: Op.call -9"))
  (first | refine xoN ?_ | (first | refine xo_pickT rfl rfl rfl rfl ?_ | refine xo_pickF rfl rfl rfl rfl ?_))
  first | refine xo_pickT rfl rfl rfl rfl ?_ | refine xo_pickF rfl rfl rfl rfl ?_
  refine xoA ?_
  with_reducible (apply xo_nil; (repeat first | apply xqT | apply xqB | apply xqS); (repeat apply xc_seq); apply xc_ret; (repeat (first | apply xq_thenR | apply xq_blockR | apply xq_scopeR)))
  exact xq_ret1 rfl rfl fun w' hw => ⟨rfl, hw.kx.below⟩
end Go.Proofs.YtommeljlfkmpjaaGreatDoor
namespace Go.Proofs.YtommeljlfkmpjaaGreatDoor
open Go.ChangeShapes Go.WideShapes Go.RowKit
def laidL : List (String × DataW Unit) := [("cottonpad/origin.nowhere", Rows.laid_cottonpad_origin_nowhere)]
theorem gNow : Tryz.prog.globalNamed "cottonpad/origin.nowhere" = some 0 := by kernel_rfl
theorem tNow : (Tryz.prog.globals[0]?).map (·.type) = some 45 := by kernel_rfl
theorem door_met (os : Os) (args : Array Value) : laidMetH Tryz.prog laidL ((World.doorLaid Tryz.prog 400 os).forCall (fun _ _ => 0) ⟨#[], args, []⟩).memory :=
 laidMetH_of_parts3 (fuel := 8) (laidMet_of_run' 8 (by kernel_rfl) (by kernel_rfl)) (by kernel_rfl) (by kernel_rfl)
theorem trod_pair {P : Program} {H : Type} {enc : TypeId × Value → H} {w : World} {fuel : Nat} {bb : Bool} {t ta tb : TypeId} {f g : Field} {a b : Value} {d : DataW H} {ps : List MemPlace}
  (ht : P.underlying t = some (.struct #[f, g])) (h1 : f.type = ta) (h2 : f.offset = 0) (h3 : g.type = tb) (h4 : g.offset = 1) (hA : P.cellsOf ta = 1) (hB : P.cellsOf tb = 1)
  (h : DataW.trod enc P w 0 (fun _ => true) bb (fuel + 1) t [a, b] = some (d, ps)) :
  ∃ x y, DataW.trod enc P w 0 (fun _ => true) bb fuel ta [a] = some x ∧ DataW.trod enc P w 0 (fun _ => true) bb fuel tb [b] = some y ∧ d = .agg [x.1, y.1] := by
 unfold DataW.trod at h
 rw [ht] at h
 simp only [List.length_cons, List.length_nil] at h
 split at h
 ·simp only [List.mapM_cons, List.mapM_nil, h1, h2, h3, h4, hA, hB, List.drop_zero, List.take_succ_cons, List.take_zero, List.drop_succ_cons, Option.map_eq_some_iff] at h
  obtain ⟨xs, h, e⟩ := h
  cases hx : DataW.trod enc P w 0 (fun _ => true) bb fuel ta [a] with
  | none => simp [hx] at h
  | some x =>
   cases hy : DataW.trod enc P w 0 (fun _ => true) bb fuel tb [b] with
   | none => simp [hx, hy] at h
   | some y =>
    simp [hx, hy] at h
    subst h
    simp at e
    exact ⟨x, y, rfl, rfl, e.1.symm⟩
 ·simp at h
theorem trod_lenS {P : Program} {H : Type} {enc : TypeId × Value → H} {w : World} {fuel : Nat} {bb : Bool} {t : TypeId} {fs : Array Field} {l : List Value} {x : DataW H × List MemPlace}
  (ht : P.underlying t = some (.struct fs)) (h : DataW.trod enc P w 0 (fun _ => true) bb fuel t l = some x) : l.length = P.cellsOf t := by
 cases fuel with
 | zero => simp [DataW.trod] at h
 | succ m =>
  by_cases hl : l.length = P.cellsOf t
  ·exact hl
  ·exfalso
   unfold DataW.trod at h
   rw [ht] at h
   simp [hl] at h
theorem trod_int {P : Program} {H : Type} {enc : TypeId × Value → H} {w : World} {fuel : Nat} {bb : Bool} {t : TypeId} {k : IntKind} {a : Value} {n : Int} {ps : List MemPlace} (hu : P.underlying t = some (.int k))
  (h : DataW.trod enc P w 0 (fun _ => true) bb fuel t [a] = some (.lit (.int .i64 n), ps)) : a = .int .i64 n := by
 cases fuel with
 | zero => simp [DataW.trod] at h
 | succ fuel =>
  unfold DataW.trod at h
  rw [hu] at h
  split at h <;> simp_all
set_option maxRecDepth 100000 in
theorem glob_of_laid {W : World} (h : laidMetH Tryz.prog laidL W) : GlobO W := by
 have h' : laidMet Tryz.prog laidL W := h
 obtain ⟨ps, ⟨g, t, cs, fuel, p, q, hg, ht, hv, hd, _, _⟩, _, _⟩ := h'
 obtain rfl := Option.some.inj (gNow.symm.trans hg)
 obtain rfl := Option.some.inj (tNow.symm.trans ht)
 have hd' : DataW.trod (fun _ => ()) Tryz.prog W 0 (fun _ => true) false fuel 45 cs.toList = some (.agg [.lit (.int .i64 1073741824), .lit (.int .i64 (-1073741824))], p) := hd
 have hlen : cs.toList.length = 2 := (trod_lenS Tryz.underlying45 hd').trans (by kernel_rfl)
 obtain ⟨l⟩ := cs
 match l, hlen with
 | [a, b], _ =>
  cases fuel with
  | zero => simp [DataW.trod] at hd'
  | succ n =>
   obtain ⟨x, y, hx, hy, e⟩ := trod_pair (ta := 3) (tb := 3) Tryz.underlying45 rfl rfl rfl rfl (by kernel_rfl) (by kernel_rfl) hd'
   simp only [DataW.agg.injEq, List.cons.injEq, and_true] at e
   obtain ⟨x1, x2⟩ := x
   obtain ⟨y1, y2⟩ := y
   simp only at e
   obtain ⟨rfl, rfl⟩ := e
   obtain rfl := trod_int Tryz.underlying3 hx
   obtain rfl := trod_int Tryz.underlying3 hy
   unfold World.var? at hv
   rw [gNow] at hv
   simp only [Option.bind_some] at hv
   cases hh : W.heap[0]? with
   | none => simp [hh] at hv
   | some o =>
    cases o <;> simp [hh] at hv
    subst hv
    refine ro_of fun j v hj => ?_
    rw [Addr.add_lit, Nat.zero_add]
    unfold World.cell?
    rw [hh]
    have hj' : ([.int .i64 1073741824, .int .i64 (-1073741824)] : List Value)[j]? = some v := hj
    simpa using hj'
end Go.Proofs.YtommeljlfkmpjaaGreatDoor
