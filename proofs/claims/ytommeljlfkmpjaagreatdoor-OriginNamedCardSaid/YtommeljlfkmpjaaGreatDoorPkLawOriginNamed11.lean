/- law09.OriginNamed: the walk. / The variable origin.nowhere, as the rows' condition lays it, and the door's own heap, which meets that condition. -/
import Derived.Test.YtommeljlfkmpjaaGreatDoorPkLawOriginNamed10
import Derived.Test.YtommeljlfkmpjaaGreatDoorRows
import Derived.Test.YtommeljlfkmpjaaGreatDoorPkLawOriginNamed4
import Derived.LaidLaws
import Derived.LaidHandle
import Derived.LaidMore
import Derived.ChangeVars
import Derived.ChangeShapes
namespace Go.Proofs.YtommeljlfkmpjaaGreatDoor
open Go.RowKit Go.Proofs.YtommeljlfkmpjaaGreatDoorW.PrintWords
set_option linter.unusedVariables false
set_option linter.unusedSimpArgs false
set_option maxHeartbeats 16000000 in
theorem originNamed_law (R E : Int) (A B : Option Addr) (c c2 : Nat) (gs : List GatT) (ms : List MarT) (which : Int) (w : World) (hA : Kd.C gatK w A gs.length gs) (hB : Kd.C marK w B ms.length ms) (hk : BytesK ms) (hwh : 0 ≤ which ∧ which ≤ 255) (hglob : GlobO w) :
   Calls Tryz.prog 6 #[.agg (scnV R A gs.length c E B ms.length c2).toArray, .int .u8 which] w fun e w' => e = .returned (.bool true) ∧ Below w.heap.size w w' := by
 have hgr4 := gat_row hA
 have hmr7 := mar_row hB
 have hs : SceneAt w A B gs ms := ⟨hA, hB, hk, hglob⟩
 refine x_calls (X := XNone) Tryz.func6 rfl rfl rfl ?_
 with_reducible ((repeat refine xc_seq ?_); refine xcR ?_)
 refine xo_box rfl rfl rfl rfl (fun b2 => ?_)
 refine xo_asg rfl rfl rfl ?_
 with_reducible (refine xo_nil ?_; (repeat (first | refine xqT ?_ | refine xqB ?_ | refine xqS ?_)); (repeat refine xc_seq ?_); refine xcR ?_)
 refine xo_callB (fs := []) (cs := []) rfl rfl rfl alive_enters rfl (fun w1 hw1 => alive_calls w1 (hglob.below hw1.kx.below)) ?_
 refine xo_asg rfl rfl rfl ?_
 with_reducible (refine xo_nil ?_; (repeat (first | refine xqT ?_ | refine xqB ?_ | refine xqS ?_)); (repeat refine xc_seq ?_); refine xcR ?_)
 refine xo_mv rfl rfl rfl ?_
 refine xo_notOp rfl rfl rfl ?_
 with_reducible (refine xo_nil ?_; (repeat (first | refine xqT ?_ | refine xqB ?_ | refine xqS ?_)); (repeat refine xc_seq ?_))
 refine xc_condF rfl ?_
 with_reducible (refine xc_skip ?_; (repeat (first | refine xqT ?_ | refine xqB ?_ | refine xqS ?_)))
 cases hsc : sceneF R E gs ms
 · with_reducible repeat refine xc_seq ?_
   with_reducible refine xcR ?_
   refine xo_loadN T_ rfl rfl rfl (by repeat first | exact memH | apply memT | apply memA) rfl rfl ?_
   refine xo_callB (fs := []) (cs := []) rfl rfl rfl ready_enters rfl (fun w1 hw1 => ready_calls R E A B c c2 gs ms w1 (hgr4.below hw1.kx.below) (hmr7.below hw1.kx.below)) ?_
   refine xo_as (i := 20) rfl (congrArg Value.bool hsc) ?_
   refine xo_notOp rfl rfl rfl ?_
   with_reducible (refine xo_nil ?_; (repeat (first | refine xqT ?_ | refine xqB ?_ | refine xqS ?_)); (repeat refine xc_seq ?_))
   refine xc_condT rfl ?_
   with_reducible ((repeat refine xc_seq ?_); refine xcR ?_)
   refine xo_mv rfl rfl rfl ?_
   refine xo_asg rfl rfl rfl ?_
   with_reducible (refine xo_nil ?_; (repeat (first | refine xqT ?_ | refine xqB ?_ | refine xqS ?_)); (repeat refine xc_seq ?_); refine xc_ret ?_; (repeat (first | refine xq_thenR ?_ | refine xq_blockR ?_ | refine xq_scopeR ?_)))
   exact xq_ret1 rfl rfl fun w' hw => ⟨rfl, hw.kx.below⟩
 obtain ⟨hR6, hE6, hG, hm8, _⟩ := sceneF_ok hsc
 have hg6 := hG.len
 with_reducible ((repeat refine xc_seq ?_); refine xcR ?_)
 refine xo_loadN T_ rfl rfl rfl (by repeat first | exact memH | apply memT | apply memA) rfl rfl ?_
 refine xo_callB (fs := []) (cs := []) rfl rfl rfl ready_enters rfl (fun w1 hw1 => ready_calls R E A B c c2 gs ms w1 (hgr4.below hw1.kx.below) (hmr7.below hw1.kx.below)) ?_
 refine xo_as (i := 20) rfl (congrArg Value.bool hsc) ?_
 refine xo_notOp rfl rfl rfl ?_
 with_reducible (refine xo_nil ?_; (repeat (first | refine xqT ?_ | refine xqB ?_ | refine xqS ?_)); (repeat refine xc_seq ?_))
 refine xc_condF rfl ?_
 with_reducible (refine xc_skip ?_; (repeat (first | refine xqT ?_ | refine xqB ?_ | refine xqS ?_)))
 have hrm : 0 ≤ which % R ∧ which % R < R := ⟨Int.emod_nonneg _ (by omega), Int.emod_lt_of_pos _ (by omega)⟩
 have hrOK : roomOK R (which % R) = true := inF_iff.2 ⟨hrm.1, by omega⟩
 with_reducible ((repeat refine xc_seq ?_); refine xcR ?_)
 refine xo_mv rfl rfl rfl ?_
 refine xo_conv T_ rfl rfl rfl rfl (IntWalk.i64_in _ ⟨by omega, by omega⟩) rfl ?_
 refine xo_fa T_ rfl rfl rfl rfl rfl ?_
 refine xo_load0 T_ rfl rfl rfl (by repeat first | exact memH | apply memT | apply memA) rfl rfl ?_
 refine xo_rem rfl rfl rfl (by omega) (by omega) rfl ?_
 refine xo_asg rfl rfl rfl ?_
 with_reducible (refine xo_nil ?_; (repeat (first | refine xqT ?_ | refine xqB ?_ | refine xqS ?_)))
 generalize which % R = room at hrm hrOK
 with_reducible ((repeat refine xc_seq ?_); refine xcR ?_)
 refine xo_loadN T_ rfl rfl rfl (by repeat first | exact memH | apply memT | apply memA) rfl rfl ?_
 refine xo_call (fs := []) (cs := []) rfl rfl rfl Rooms_enters rfl (fun w1 hw1 => (Rooms_calls R E A B c c2 gs ms w1 (hs.below hw1.kx.below)).mono ?_)
 rintro e w2 ⟨r7, rfl, hrw, hb⟩
 have h7 := hrw.1
 refine ⟨_, _, rfl, hw1.row hb hrw, ?_⟩
 clear hrw hb hw1
 refine xo_mv rfl rfl rfl ?_
 refine xo_ext rfl rfl rfl rfl ?_
 refine xo_ext rfl rfl rfl rfl ?_
 refine xo_asg rfl rfl rfl ?_
 refine xo_asg rfl rfl rfl ?_
 with_reducible (refine xo_nil ?_; (repeat (first | refine xqT ?_ | refine xqB ?_ | refine xqS ?_)); (repeat refine xc_seq ?_); refine xcR ?_)
 refine xo_loadN T_ rfl rfl rfl (by repeat first | exact memH | apply memT | apply memA) rfl rfl ?_
 refine xo_callB (fs := []) (cs := []) rfl rfl rfl Named_enters rfl (fun w1 hw1 => Named_calls R E A B c c2 gs ms w1 (hs.below hw1.kx.below)) ?_
 refine xo_mv rfl rfl rfl ?_
 refine xo_ext rfl rfl rfl rfl ?_
 refine xo_ext rfl rfl rfl rfl ?_
 refine xo_asg rfl rfl rfl ?_
 refine xo_asg rfl rfl rfl ?_
 with_reducible (refine xo_nil ?_; (repeat (first | refine xqT ?_ | refine xqB ?_ | refine xqS ?_)); (repeat refine xc_seq ?_); refine xcR ?_)
 refine xo_loadN T_ rfl rfl rfl (by repeat first | exact memH | apply memT | apply memA) rfl rfl ?_
 refine xo_mv rfl rfl rfl ?_
 refine xo_call (fs := []) (cs := []) rfl rfl rfl Why_enters rfl (fun w1 hw1 => (Why_calls R E A B c c2 gs ms room w1 (hs.below hw1.kx.below)).mono ?_)
 rintro e w2 ⟨r11, rfl, hrw, hb⟩
 have h11 := hrw.1
 refine ⟨_, _, rfl, hw1.row hb hrw, ?_⟩
 clear hrw hb hw1
 refine xo_mv rfl rfl rfl ?_
 refine xo_ext rfl rfl rfl rfl ?_
 refine xo_ext rfl rfl rfl rfl ?_
 refine xo_asg rfl rfl rfl ?_
 refine xo_asg rfl rfl rfl ?_
 with_reducible (refine xo_nil ?_; (repeat (first | refine xqT ?_ | refine xqB ?_ | refine xqS ?_)))
 have hck : checkF R E gs ms = 0 := by rw [checkF, if_pos hsc]
 have hlist := room_listed (R := R) (E := E) (gs := gs) (ms := ms) hsc hrm
 have hwl : canF E R.toNat gs room.toNat ms = false → (whyL R E gs ms room).length ≠ 0 := why_ne hsc hrOK
 have hwc : whyC R E gs ms room = if canF E R.toNat gs room.toNat ms = true then 8 else 0 := by rw [whyC, if_pos hsc, if_pos hrOK]
 have hnc : namedC R E gs ms = if (roomsR R E gs ms).length = 0 then 91 else if 1 < (roomsR R E gs ms).length then 6 else 0 := by rw [namedC, if_pos hsc]
 have hnv : namedV R E gs ms = if namedC R E gs ms = 0 then (((roomsR R E gs ms).getD 0 0 : Nat) : Int) else 0 := by rw [namedV]
 have h11 : r11 = none → (whyL R E gs ms room).length = 0 := fun q => by rw [h11 q]; rfl
 have hlen : (roomsR R E gs ms).length = (intsN (roomsR R E gs ms)).length := by simp [intsN]
 have hll : (roomsR R E gs ms).length ≤ 6 := by
   rw [roomsR, if_pos hsc]
   have := roomsN_len E R.toNat gs ms
   omega
 have hget : (((roomsR R E gs ms).getD 0 0 : Nat) : Int) = (intsN (roomsR R E gs ms)).getD 0 0 := by
   cases roomsR R E gs ms <;> rfl
 rw [hget] at hnv
 rw [hlen] at hnc hll ⊢
 rw [hck]
 generalize intsN (roomsR R E gs ms) = l at h7 hlist hnc hnv hll ⊢
 have h7 : r7 = none → l.length = 0 := fun q => by rw [h7 q]; rfl
 generalize whyC R E gs ms room = wc at hwc ⊢
 generalize (whyL R E gs ms room).length = wl at hwl h11 ⊢
 generalize namedV R E gs ms = nv at hnv ⊢
 generalize namedC R E gs ms = nc at hnc hnv ⊢
 refine xc_slots [(4, .bool false), (5, .bool true), (6, .int .i64 room), (7, .slice (valA r7) l.length (valC r7)), (8, .int .i64 0), (9, .int .i64 nv), (10, .int .i64 nc), (11, .slice (valA r11) wl (valC r11)), (12, .int .i64 wc)] ⟨rfl, rfl, rfl, congrArg some (valR_eq h7), rfl, rfl, rfl, congrArg some (valR_eq h11), rfl, trivial⟩ ?_
 refine xc_sub (η' := hpR 3 1 r7 l.length (l.map (.int .i64))) ((List.sublist_append_left _ _).trans (List.sublist_append_right _ _)) ?_
 clear h11
 with_reducible ((repeat refine xc_seq ?_); refine xcR ?_)
 refine xo_mv rfl rfl rfl ?_
 refine xo_neq rfl rfl rfl rfl ?_
 with_reducible (refine xo_nil ?_; (repeat (first | refine xqT ?_ | refine xqB ?_ | refine xqS ?_)); (repeat refine xc_seq ?_))
 refine xc_condF rfl ?_
 with_reducible (refine xc_skip ?_; (repeat (first | refine xqT ?_ | refine xqB ?_ | refine xqS ?_)); (repeat refine xc_seq ?_); refine xcR ?_)
 refine xo_asg rfl rfl rfl ?_
 with_reducible (refine xo_nil ?_; (repeat (first | refine xqT ?_ | refine xqB ?_ | refine xqS ?_)); (repeat refine xc_seq ?_); refine xcR ?_)
 refine xo_mv rfl rfl rfl ?_
 refine xo_len T_ rfl rfl rfl rfl ?_
 refine xo_mv rfl rfl rfl ?_
 with_reducible (refine xo_nil ?_; (repeat (first | refine xqT ?_ | refine xqB ?_ | refine xqS ?_)); (repeat refine xc_seq ?_); refine xc_block ?_)
 · refine xc_loop (γ := Nat) (fun k => k ≤ l.length) (fun k => [(4, .bool false), (5, .bool true), (6, .int .i64 room), (7, .slice (valA r7) l.length (valC r7)), (9, .int .i64 nv), (10, .int .i64 nc), (11, .slice (valA r11) wl (valC r11)), (12, .int .i64 wc), (13, .bool (isK l room k)), (46, .slice (valA r7) l.length (valC r7)), (47, .int .i64 (l.length : Int)), (48, .int .i64 (k : Int))])
     (fun _ => hpR 3 1 r7 l.length (l.map (.int .i64))) (fun k => l.length - k) 0 (Nat.zero_le _) ⟨rfl, rfl, rfl, rfl, rfl, rfl, rfl, rfl, rfl, rfl, rfl, rfl, trivial⟩ (List.Sublist.refl _) ?_
   intro k hkl
   with_reducible ((repeat refine xc_seq ?_); refine xcR ?_)
   refine xo_lss rfl rfl rfl rfl ?_
   with_reducible (refine xo_nil ?_; (repeat (first | refine xqT ?_ | refine xqB ?_ | refine xqS ?_)); (repeat refine xc_seq ?_))
   refine xc_cond rfl (fun h => ?_) (fun h => ?_)
   · have hlt : k < l.length := by have := of_decide_eq_true h; omega
     with_reducible (refine xc_skip ?_; (repeat (first | refine xqT ?_ | refine xqB ?_ | refine xqS ?_)))
     rcases r7 with _ | ⟨rb, rcap⟩
     · have := h7 rfl
       omega
     with_reducible ((repeat refine xc_seq ?_); refine xc_block ?_; (repeat refine xc_seq ?_); refine xcR ?_)
     refine xo_ia T_ rfl rfl rfl rfl rfl ⟨by omega, by omega⟩ rfl ?_
     refine xo_loadO T_ (k := (k : Int).toNat * szN 0) (v := .int .i64 (l.getD k 0)) rfl rfl rfl (List.Mem.head _) (by rw [show (k : Int).toNat * szN 0 = k by simp [szN]]; simp [List.getElem?_eq_getElem hlt, List.getD_eq_getElem?_getD]) rfl ?_
     refine xo_asg rfl rfl rfl ?_
     with_reducible (refine xo_nil ?_; (repeat (first | refine xqT ?_ | refine xqB ?_ | refine xqS ?_)))
     have hsu := isK_succ l room hlt
     cases hI : isK l room k
     · with_reducible repeat refine xc_seq ?_
       with_reducible refine xcR ?_
       refine xo_mv rfl rfl rfl ?_
       refine xo_mv rfl rfl rfl ?_
       (first | refine xo_not rfl rfl ?_ | (refine xo_mv rfl rfl rfl ?_))
       (first | refine xo_not rfl rfl ?_ | (refine xo_mv rfl rfl rfl ?_))
       (first | refine xo_not rfl rfl ?_ | (refine xo_eql rfl rfl rfl rfl ?_))
       first | refine xo_pickT rfl rfl rfl rfl ?_ | refine xo_pickF rfl rfl rfl rfl ?_
       refine xo_asg rfl rfl rfl ?_
       with_reducible (refine xo_nil ?_; (repeat (first | refine xqT ?_ | refine xqB ?_ | refine xqS ?_)))
       rw [hI, Bool.false_or] at hsu
       with_reducible ((repeat refine xc_seq ?_); refine xcR ?_)
       refine xo_add rfl rfl rfl (by omega) rfl ?_
       refine xo_mv rfl rfl rfl ?_
       with_reducible (refine xo_nil ?_; (repeat (first | refine xqT ?_ | refine xqB ?_ | refine xqS ?_)))
       exact xq_again _ _ _ _ _ (k + 1) hlt (by omega) ⟨rfl, rfl, rfl, rfl, rfl, rfl, rfl, rfl, by rw [hsu]; rfl, rfl, rfl, rfl, trivial⟩ (List.Sublist.refl _)
     · with_reducible repeat refine xc_seq ?_
       with_reducible refine xcR ?_
       refine xo_mv rfl rfl rfl ?_
       refine xo_mv rfl rfl rfl ?_
       (first | refine xo_not rfl rfl ?_ | (refine xo_mv rfl rfl rfl ?_))
       (first | refine xo_not rfl rfl ?_ | (refine xo_mv rfl rfl rfl ?_))
       (first | refine xo_not rfl rfl ?_ | (refine xo_eql rfl rfl rfl rfl ?_))
       first | refine xo_pickT rfl rfl rfl rfl ?_ | refine xo_pickF rfl rfl rfl rfl ?_
       refine xo_asg rfl rfl rfl ?_
       with_reducible (refine xo_nil ?_; (repeat (first | refine xqT ?_ | refine xqB ?_ | refine xqS ?_)))
       rw [hI, Bool.true_or] at hsu
       with_reducible ((repeat refine xc_seq ?_); refine xcR ?_)
       refine xo_add rfl rfl rfl (by omega) rfl ?_
       refine xo_mv rfl rfl rfl ?_
       with_reducible (refine xo_nil ?_; (repeat (first | refine xqT ?_ | refine xqB ?_ | refine xqS ?_)))
       exact xq_again _ _ _ _ _ (k + 1) hlt (by omega) ⟨rfl, rfl, rfl, rfl, rfl, rfl, rfl, rfl, by rw [hsu]; rfl, rfl, rfl, rfl, trivial⟩ (List.Sublist.refl _)
   · have hge : l.length ≤ k := by have := of_decide_eq_false h; omega
     obtain rfl : k = l.length := by omega
     with_reducible (refine xc_exit ?_; (repeat (first | refine xq_blockX ?_ | refine xq_thenE ?_ | refine xq_blockE rfl ?_ | refine xq_scopeE ?_)); (repeat (first | refine xqT ?_ | refine xqB ?_ | refine xqS ?_)))
     rw [isK_all, hlist]
     have h1n : (l.length = 0) = (decide ((l.length : Int) = 0) = true) := by simp
     cases hcan : canF E R.toNat gs room.toNat ms
     · rw [hcan, if_neg (by decide)] at hwc
       subst hwc
       have hw1 : decide ((wl : Int) = 0) = false := by have := hwl hcan; simp; omega
       with_reducible ((repeat refine xc_seq ?_); refine xcR ?_)
       refine xo_mv rfl rfl rfl ?_
       refine xo_mv rfl rfl rfl ?_
       refine xo_eql rfl rfl rfl rfl ?_
       refine xo_neqB Tryz.underlying4 rfl rfl rfl rfl ?_
       refine xo_mv rfl rfl rfl ?_
       (first | refine xo_not rfl rfl ?_ | (refine xo_mv rfl rfl rfl ?_))
       (first | refine xo_not rfl rfl ?_ | (refine xo_notOp rfl rfl rfl ?_))
       (first | refine xo_not rfl rfl ?_ | (refine xo_mv rfl rfl rfl ?_))
       (first | refine xo_not rfl rfl ?_ | (refine xo_mv rfl rfl rfl ?_))
       (first | refine xo_not rfl rfl ?_ | (refine xo_neq rfl rfl rfl rfl ?_))
       (first | refine xo_not rfl rfl ?_ | (refine xo_mv rfl rfl rfl ?_))
       (first | refine xo_not rfl rfl ?_ | (refine xo_mv rfl rfl rfl ?_))
       (first | refine xo_not rfl rfl ?_ | (refine xo_len T_ rfl rfl rfl rfl ?_))
       (first | refine xo_not rfl rfl ?_ | (refine xo_eql rfl rfl rfl rfl ?_))
       refine xo_as (i := 72) rfl (congrArg Value.bool hw1) ?_
       (first | refine xo_not rfl rfl ?_ | (first | refine xo_pickT rfl rfl rfl rfl ?_ | refine xo_pickF rfl rfl rfl rfl ?_))
       (first | refine xo_not rfl rfl ?_ | (first | refine xo_pickT rfl rfl rfl rfl ?_ | refine xo_pickF rfl rfl rfl rfl ?_))
       first | refine xo_pickT rfl rfl rfl rfl ?_ | refine xo_pickF rfl rfl rfl rfl ?_
       with_reducible (refine xo_nil ?_; (repeat (first | refine xqT ?_ | refine xqB ?_ | refine xqS ?_)); (repeat refine xc_seq ?_))
       refine xc_condF rfl ?_
       with_reducible (refine xc_skip ?_; (repeat (first | refine xqT ?_ | refine xqB ?_ | refine xqS ?_)); (repeat refine xc_seq ?_); refine xcR ?_)
       refine xo_mv rfl rfl rfl ?_
       refine xo_len T_ rfl rfl rfl rfl ?_
       with_reducible (refine xo_nil ?_; (repeat (first | refine xqT ?_ | refine xqB ?_ | refine xqS ?_)); (repeat refine xc_seq ?_); refine xc_block ?_)
       cases hl0 : decide ((l.length : Int) = 0)
       · have hl0' : ¬ l.length = 0 := by have := of_decide_eq_false hl0; omega
         rw [if_neg hl0'] at hnc
         with_reducible ((repeat refine xc_seq ?_); refine xcR ?_)
         refine xo_eql rfl rfl rfl rfl ?_
         refine xo_asg rfl rfl rfl ?_
         refine xo_as (i := 78) rfl (congrArg Value.bool hl0) ?_
         with_reducible (refine xo_nil ?_; (repeat (first | refine xqT ?_ | refine xqB ?_ | refine xqS ?_)); (repeat refine xc_seq ?_))
         refine xc_condF rfl ?_
         cases hl1 : decide ((l.length : Int) = 1)
         · have hl1' : 1 < l.length := by have := of_decide_eq_false hl1; omega
           rw [if_pos hl1'] at hnc
           subst hnc
           with_reducible ((repeat refine xc_seq ?_); refine xcR ?_)
           refine xo_eql rfl rfl rfl rfl ?_
           refine xo_asg rfl rfl rfl ?_
           refine xo_as (i := 85) rfl (congrArg Value.bool hl1) ?_
           with_reducible (refine xo_nil ?_; (repeat (first | refine xqT ?_ | refine xqB ?_ | refine xqS ?_)); (repeat refine xc_seq ?_))
           refine xc_condF rfl ?_
           with_reducible (refine xc_skip ?_; (repeat (first | refine xqT ?_ | refine xqB ?_ | refine xqS ?_)); (repeat refine xc_seq ?_); refine xcR ?_)
           refine xo_mv rfl rfl rfl ?_
           refine xo_mv rfl rfl rfl ?_
           (first | refine xo_not rfl rfl ?_ | (refine xo_mv rfl rfl rfl ?_))
           (first | refine xo_not rfl rfl ?_ | (refine xo_eql rfl rfl rfl rfl ?_))
           first | refine xo_pickT rfl rfl rfl rfl ?_ | refine xo_pickF rfl rfl rfl rfl ?_
           refine xo_asg rfl rfl rfl ?_
           with_reducible (refine xo_nil ?_; (repeat (first | refine xqT ?_ | refine xqB ?_ | refine xqS ?_)); (repeat refine xc_seq ?_); refine xc_ret ?_; (repeat (first | refine xq_thenR ?_ | refine xq_blockR ?_ | refine xq_scopeR ?_)))
           exact xq_ret1 rfl rfl fun w' hw => ⟨rfl, hw.kx.below⟩
         · have hl1' : ¬ 1 < l.length := by have := of_decide_eq_true hl1; omega
           rw [if_neg hl1'] at hnc
           subst hnc
           rw [if_pos rfl] at hnv
           rcases r7 with _ | ⟨rb, rcap⟩
           · exact absurd (h7 rfl) hl0'
           have hfst := (show l = [l.getD 0 0] by
             match l, hl0', hl1' with
             | [x], _, _ => rfl
             | [], h, _ => exact absurd rfl h
             | x :: y :: l, _, h => exact absurd (by simp) h)
           have e97 : decide (nv = l.getD 0 0) = true := decide_eq_true hnv
           have e102 : decide (room = nv) = false := by
             rw [hcan, hfst] at hlist
             simp only [List.any_cons, List.any_nil, Bool.or_false] at hlist
             rw [hnv, ← hlist, Bool.eq_iff_iff, decide_eq_true_iff, decide_eq_true_iff]
             exact eq_comm
           with_reducible ((repeat refine xc_seq ?_); refine xcR ?_)
           refine xo_eql rfl rfl rfl rfl ?_
           refine xo_asg rfl rfl rfl ?_
           refine xo_as (i := 85) rfl (congrArg Value.bool hl1) ?_
           with_reducible (refine xo_nil ?_; (repeat (first | refine xqT ?_ | refine xqB ?_ | refine xqS ?_)); (repeat refine xc_seq ?_))
           refine xc_condT rfl ?_
           with_reducible ((repeat refine xc_seq ?_); refine xcR ?_)
           refine xo_mv rfl rfl rfl ?_
           refine xo_mv rfl rfl rfl ?_
           (first | refine xo_not rfl rfl ?_ | (refine xo_mv rfl rfl rfl ?_))
           (first | refine xo_not rfl rfl ?_ | (refine xo_eql rfl rfl rfl rfl ?_))
           first | refine xo_pickT rfl rfl rfl rfl ?_ | refine xo_pickF rfl rfl rfl rfl ?_
           refine xo_mv rfl rfl rfl ?_
           (first | refine xo_not rfl rfl ?_ | (refine xo_mv rfl rfl rfl ?_))
           (first | refine xo_not rfl rfl ?_ | (refine xo_mv rfl rfl rfl ?_))
           (first | refine xo_not rfl rfl ?_ | (refine xo_ia T_ (i := 0) rfl rfl rfl rfl rfl ⟨by omega, by omega⟩ rfl ?_))
           (first | refine xo_not rfl rfl ?_ | (refine xo_loadO T_ (k := 0) (v := .int .i64 (l.getD 0 0)) rfl rfl rfl (List.Mem.head _) (by cases l with | nil => exact absurd rfl hl0' | cons x l => simp) rfl ?_))
           (first | refine xo_not rfl rfl ?_ | (refine xo_eql rfl rfl rfl rfl ?_))
           refine xo_as (i := 97) rfl (congrArg Value.bool e97) ?_
           first | refine xo_pickT rfl rfl rfl rfl ?_ | refine xo_pickF rfl rfl rfl rfl ?_
           refine xo_mv rfl rfl rfl ?_
           (first | refine xo_not rfl rfl ?_ | (refine xo_mv rfl rfl rfl ?_))
           (first | refine xo_not rfl rfl ?_ | (refine xo_mv rfl rfl rfl ?_))
           (first | refine xo_not rfl rfl ?_ | (refine xo_eql rfl rfl rfl rfl ?_))
           refine xo_as (i := 102) rfl (congrArg Value.bool e102) ?_
           (first | refine xo_not rfl rfl ?_ | (refine xo_mv rfl rfl rfl ?_))
           (first | refine xo_not rfl rfl ?_ | (refine xo_eqlB Tryz.underlying4 rfl rfl rfl rfl ?_))
           first | refine xo_pickT rfl rfl rfl rfl ?_ | refine xo_pickF rfl rfl rfl rfl ?_
           refine xo_asg rfl rfl rfl ?_
           with_reducible (refine xo_nil ?_; (repeat (first | refine xqT ?_ | refine xqB ?_ | refine xqS ?_)); (repeat refine xc_seq ?_); refine xc_ret ?_; (repeat (first | refine xq_thenR ?_ | refine xq_blockR ?_ | refine xq_scopeR ?_)))
           exact xq_ret1 rfl rfl fun w' hw => ⟨rfl, hw.kx.below⟩
       · have hl0' : l.length = 0 := by have := of_decide_eq_true hl0; omega
         rw [if_pos hl0'] at hnc
         subst hnc
         with_reducible ((repeat refine xc_seq ?_); refine xcR ?_)
         refine xo_eql rfl rfl rfl rfl ?_
         refine xo_asg rfl rfl rfl ?_
         refine xo_as (i := 78) rfl (congrArg Value.bool hl0) ?_
         with_reducible (refine xo_nil ?_; (repeat (first | refine xqT ?_ | refine xqB ?_ | refine xqS ?_)); (repeat refine xc_seq ?_))
         refine xc_condT rfl ?_
         with_reducible ((repeat refine xc_seq ?_); refine xcR ?_)
         refine xo_mv rfl rfl rfl ?_
         refine xo_mv rfl rfl rfl ?_
         (first | refine xo_not rfl rfl ?_ | (refine xo_mv rfl rfl rfl ?_))
         (first | refine xo_not rfl rfl ?_ | (refine xo_eql rfl rfl rfl rfl ?_))
         first | refine xo_pickT rfl rfl rfl rfl ?_ | refine xo_pickF rfl rfl rfl rfl ?_
         refine xo_asg rfl rfl rfl ?_
         with_reducible (refine xo_nil ?_; (repeat (first | refine xqT ?_ | refine xqB ?_ | refine xqS ?_)); (repeat refine xc_seq ?_); refine xc_ret ?_; (repeat (first | refine xq_thenR ?_ | refine xq_blockR ?_ | refine xq_scopeR ?_)))
         exact xq_ret1 rfl rfl fun w' hw => ⟨rfl, hw.kx.below⟩
     · rw [hcan, if_pos rfl] at hwc
       subst hwc
       with_reducible ((repeat refine xc_seq ?_); refine xcR ?_)
       refine xo_mv rfl rfl rfl ?_
       refine xo_mv rfl rfl rfl ?_
       refine xo_eql rfl rfl rfl rfl ?_
       refine xo_neqB Tryz.underlying4 rfl rfl rfl rfl ?_
       refine xo_mv rfl rfl rfl ?_
       (first | refine xo_not rfl rfl ?_ | (refine xo_mv rfl rfl rfl ?_))
       (first | refine xo_not rfl rfl ?_ | (refine xo_notOp rfl rfl rfl ?_))
       (first | refine xo_not rfl rfl ?_ | (refine xo_mv rfl rfl rfl ?_))
       (first | refine xo_not rfl rfl ?_ | (refine xo_mv rfl rfl rfl ?_))
       (first | refine xo_not rfl rfl ?_ | (refine xo_neq rfl rfl rfl rfl ?_))
       (first | refine xo_not rfl rfl ?_ | (refine xo_mv rfl rfl rfl ?_))
       (first | refine xo_not rfl rfl ?_ | (refine xo_mv rfl rfl rfl ?_))
       (first | refine xo_not rfl rfl ?_ | (refine xo_len T_ rfl rfl rfl rfl ?_))
       (first | refine xo_not rfl rfl ?_ | (refine xo_eql rfl rfl rfl rfl ?_))
       (first | refine xo_not rfl rfl ?_ | (first | refine xo_pickT rfl rfl rfl rfl ?_ | refine xo_pickF rfl rfl rfl rfl ?_))
       (first | refine xo_not rfl rfl ?_ | (first | refine xo_pickT rfl rfl rfl rfl ?_ | refine xo_pickF rfl rfl rfl rfl ?_))
       first | refine xo_pickT rfl rfl rfl rfl ?_ | refine xo_pickF rfl rfl rfl rfl ?_
       with_reducible (refine xo_nil ?_; (repeat (first | refine xqT ?_ | refine xqB ?_ | refine xqS ?_)); (repeat refine xc_seq ?_))
       refine xc_condF rfl ?_
       with_reducible (refine xc_skip ?_; (repeat (first | refine xqT ?_ | refine xqB ?_ | refine xqS ?_)); (repeat refine xc_seq ?_); refine xcR ?_)
       refine xo_mv rfl rfl rfl ?_
       refine xo_len T_ rfl rfl rfl rfl ?_
       with_reducible (refine xo_nil ?_; (repeat (first | refine xqT ?_ | refine xqB ?_ | refine xqS ?_)); (repeat refine xc_seq ?_); refine xc_block ?_)
       cases hl0 : decide ((l.length : Int) = 0)
       · have hl0' : ¬ l.length = 0 := by have := of_decide_eq_false hl0; omega
         rw [if_neg hl0'] at hnc
         with_reducible ((repeat refine xc_seq ?_); refine xcR ?_)
         refine xo_eql rfl rfl rfl rfl ?_
         refine xo_asg rfl rfl rfl ?_
         refine xo_as (i := 78) rfl (congrArg Value.bool hl0) ?_
         with_reducible (refine xo_nil ?_; (repeat (first | refine xqT ?_ | refine xqB ?_ | refine xqS ?_)); (repeat refine xc_seq ?_))
         refine xc_condF rfl ?_
         cases hl1 : decide ((l.length : Int) = 1)
         · have hl1' : 1 < l.length := by have := of_decide_eq_false hl1; omega
           rw [if_pos hl1'] at hnc
           subst hnc
           with_reducible ((repeat refine xc_seq ?_); refine xcR ?_)
           refine xo_eql rfl rfl rfl rfl ?_
           refine xo_asg rfl rfl rfl ?_
           refine xo_as (i := 85) rfl (congrArg Value.bool hl1) ?_
           with_reducible (refine xo_nil ?_; (repeat (first | refine xqT ?_ | refine xqB ?_ | refine xqS ?_)); (repeat refine xc_seq ?_))
           refine xc_condF rfl ?_
           with_reducible (refine xc_skip ?_; (repeat (first | refine xqT ?_ | refine xqB ?_ | refine xqS ?_)); (repeat refine xc_seq ?_); refine xcR ?_)
           refine xo_mv rfl rfl rfl ?_
           refine xo_mv rfl rfl rfl ?_
           (first | refine xo_not rfl rfl ?_ | (refine xo_mv rfl rfl rfl ?_))
           (first | refine xo_not rfl rfl ?_ | (refine xo_eql rfl rfl rfl rfl ?_))
           first | refine xo_pickT rfl rfl rfl rfl ?_ | refine xo_pickF rfl rfl rfl rfl ?_
           refine xo_asg rfl rfl rfl ?_
           with_reducible (refine xo_nil ?_; (repeat (first | refine xqT ?_ | refine xqB ?_ | refine xqS ?_)); (repeat refine xc_seq ?_); refine xc_ret ?_; (repeat (first | refine xq_thenR ?_ | refine xq_blockR ?_ | refine xq_scopeR ?_)))
           exact xq_ret1 rfl rfl fun w' hw => ⟨rfl, hw.kx.below⟩
         · have hl1' : ¬ 1 < l.length := by have := of_decide_eq_true hl1; omega
           rw [if_neg hl1'] at hnc
           subst hnc
           rw [if_pos rfl] at hnv
           rcases r7 with _ | ⟨rb, rcap⟩
           · exact absurd (h7 rfl) hl0'
           have hfst := (show l = [l.getD 0 0] by
             match l, hl0', hl1' with
             | [x], _, _ => rfl
             | [], h, _ => exact absurd rfl h
             | x :: y :: l, _, h => exact absurd (by simp) h)
           have e97 : decide (nv = l.getD 0 0) = true := decide_eq_true hnv
           have e102 : decide (room = nv) = true := by
             rw [hcan, hfst] at hlist
             simp only [List.any_cons, List.any_nil, Bool.or_false] at hlist
             rw [hnv, ← hlist, Bool.eq_iff_iff, decide_eq_true_iff, decide_eq_true_iff]
             exact eq_comm
           with_reducible ((repeat refine xc_seq ?_); refine xcR ?_)
           refine xo_eql rfl rfl rfl rfl ?_
           refine xo_asg rfl rfl rfl ?_
           refine xo_as (i := 85) rfl (congrArg Value.bool hl1) ?_
           with_reducible (refine xo_nil ?_; (repeat (first | refine xqT ?_ | refine xqB ?_ | refine xqS ?_)); (repeat refine xc_seq ?_))
           refine xc_condT rfl ?_
           with_reducible ((repeat refine xc_seq ?_); refine xcR ?_)
           refine xo_mv rfl rfl rfl ?_
           refine xo_mv rfl rfl rfl ?_
           (first | refine xo_not rfl rfl ?_ | (refine xo_mv rfl rfl rfl ?_))
           (first | refine xo_not rfl rfl ?_ | (refine xo_eql rfl rfl rfl rfl ?_))
           first | refine xo_pickT rfl rfl rfl rfl ?_ | refine xo_pickF rfl rfl rfl rfl ?_
           refine xo_mv rfl rfl rfl ?_
           (first | refine xo_not rfl rfl ?_ | (refine xo_mv rfl rfl rfl ?_))
           (first | refine xo_not rfl rfl ?_ | (refine xo_mv rfl rfl rfl ?_))
           (first | refine xo_not rfl rfl ?_ | (refine xo_ia T_ (i := 0) rfl rfl rfl rfl rfl ⟨by omega, by omega⟩ rfl ?_))
           (first | refine xo_not rfl rfl ?_ | (refine xo_loadO T_ (k := 0) (v := .int .i64 (l.getD 0 0)) rfl rfl rfl (List.Mem.head _) (by cases l with | nil => exact absurd rfl hl0' | cons x l => simp) rfl ?_))
           (first | refine xo_not rfl rfl ?_ | (refine xo_eql rfl rfl rfl rfl ?_))
           refine xo_as (i := 97) rfl (congrArg Value.bool e97) ?_
           first | refine xo_pickT rfl rfl rfl rfl ?_ | refine xo_pickF rfl rfl rfl rfl ?_
           refine xo_mv rfl rfl rfl ?_
           (first | refine xo_not rfl rfl ?_ | (refine xo_mv rfl rfl rfl ?_))
           (first | refine xo_not rfl rfl ?_ | (refine xo_mv rfl rfl rfl ?_))
           (first | refine xo_not rfl rfl ?_ | (refine xo_eql rfl rfl rfl rfl ?_))
           refine xo_as (i := 102) rfl (congrArg Value.bool e102) ?_
           (first | refine xo_not rfl rfl ?_ | (refine xo_mv rfl rfl rfl ?_))
           (first | refine xo_not rfl rfl ?_ | (refine xo_eqlB Tryz.underlying4 rfl rfl rfl rfl ?_))
           first | refine xo_pickT rfl rfl rfl rfl ?_ | refine xo_pickF rfl rfl rfl rfl ?_
           refine xo_asg rfl rfl rfl ?_
           with_reducible (refine xo_nil ?_; (repeat (first | refine xqT ?_ | refine xqB ?_ | refine xqS ?_)); (repeat refine xc_seq ?_); refine xc_ret ?_; (repeat (first | refine xq_thenR ?_ | refine xq_blockR ?_ | refine xq_scopeR ?_)))
           exact xq_ret1 rfl rfl fun w' hw => ⟨rfl, hw.kx.below⟩
       · have hl0' : l.length = 0 := by have := of_decide_eq_true hl0; omega
         rw [if_pos hl0'] at hnc
         subst hnc
         with_reducible ((repeat refine xc_seq ?_); refine xcR ?_)
         refine xo_eql rfl rfl rfl rfl ?_
         refine xo_asg rfl rfl rfl ?_
         refine xo_as (i := 78) rfl (congrArg Value.bool hl0) ?_
         with_reducible (refine xo_nil ?_; (repeat (first | refine xqT ?_ | refine xqB ?_ | refine xqS ?_)); (repeat refine xc_seq ?_))
         refine xc_condT rfl ?_
         with_reducible ((repeat refine xc_seq ?_); refine xcR ?_)
         refine xo_mv rfl rfl rfl ?_
         refine xo_mv rfl rfl rfl ?_
         (first | refine xo_not rfl rfl ?_ | (refine xo_mv rfl rfl rfl ?_))
         (first | refine xo_not rfl rfl ?_ | (refine xo_eql rfl rfl rfl rfl ?_))
         first | refine xo_pickT rfl rfl rfl rfl ?_ | refine xo_pickF rfl rfl rfl rfl ?_
         refine xo_asg rfl rfl rfl ?_
         with_reducible (refine xo_nil ?_; (repeat (first | refine xqT ?_ | refine xqB ?_ | refine xqS ?_)); (repeat refine xc_seq ?_); refine xc_ret ?_; (repeat (first | refine xq_thenR ?_ | refine xq_blockR ?_ | refine xq_scopeR ?_)))
         exact xq_ret1 rfl rfl fun w' hw => ⟨rfl, hw.kx.below⟩
end Go.Proofs.YtommeljlfkmpjaaGreatDoor
namespace Go.Proofs.YtommeljlfkmpjaaGreatDoor
open Go.ChangeShapes Go.WideShapes Go.RowKit
set_option linter.unusedVariables false
set_option linter.unusedSimpArgs false
def laidL : List (String × DataW Unit) := [("cottonpad/origin.nowhere", Rows.laid_cottonpad_origin_nowhere)]
theorem gNow : Tryz.prog.globalNamed "cottonpad/origin.nowhere" = some 0 := by kernel_rfl
theorem tNow : (Tryz.prog.globals[0]?).map (·.type) = some 45 := by kernel_rfl
theorem door_met (os : Os) (args : Array Value) : laidMetH Tryz.prog laidL ((World.doorLaid Tryz.prog 400 os).forCall (fun _ _ => 0) ⟨#[], args, []⟩).memory :=
 laidMetH_of_parts3 (fuel := 8) (laidMet_of_run' 8 (by kernel_rfl) (by kernel_rfl)) (by kernel_rfl) (by kernel_rfl)
theorem trod_pair {P : Program} {H : Type} {enc : TypeId × Value → H} {w : World} {fuel : Nat} {bb : Bool} {t ta tb : TypeId} {f g : Field} {a b : Value} {d : DataW H} {ps : List MemPlace}
   (ht : P.underlying t = some (.struct #[f, g])) (h1 : f.type = ta) (h2 : f.offset = 0) (h3 : g.type = tb) (h4 : g.offset = 1) (hA : P.cellsOf ta = 1) (hB : P.cellsOf tb = 1)
   (h : DataW.trod enc P w 0 (fun _ => true) bb (fuel + 1) t [a, b] = some (d, ps)) :
   ∃ x y, DataW.trod enc P w 0 (fun _ => true) bb fuel ta [a] = some x ∧ DataW.trod enc P w 0 (fun _ => true) bb fuel tb [b] = some y ∧ d = .agg [x.1, y.1] := by
 unfold DataW.trod at h
 rw [ht] at h
 simp only [List.length_cons, List.length_nil] at h
 split at h
 · simp only [List.mapM_cons, List.mapM_nil, h1, h2, h3, h4, hA, hB, List.drop_zero, List.take_succ_cons, List.take_zero, List.drop_succ_cons, Option.map_eq_some_iff] at h
   obtain ⟨xs, h, e⟩ := h
   cases hx : DataW.trod enc P w 0 (fun _ => true) bb fuel ta [a] with
   | none => simp [hx] at h
   | some x =>
     cases hy : DataW.trod enc P w 0 (fun _ => true) bb fuel tb [b] with
     | none => simp [hx, hy] at h
     | some y =>
       simp [hx, hy] at h
       subst h
       simp at e
       exact ⟨x, y, rfl, rfl, e.1.symm⟩
 · simp at h
theorem trod_lenS {P : Program} {H : Type} {enc : TypeId × Value → H} {w : World} {fuel : Nat} {bb : Bool} {t : TypeId} {fs : Array Field} {l : List Value} {x : DataW H × List MemPlace}
   (ht : P.underlying t = some (.struct fs)) (h : DataW.trod enc P w 0 (fun _ => true) bb fuel t l = some x) : l.length = P.cellsOf t := by
 cases fuel with
 | zero => simp [DataW.trod] at h
 | succ m =>
   by_cases hl : l.length = P.cellsOf t
   · exact hl
   · exfalso
     unfold DataW.trod at h
     rw [ht] at h
     simp [hl] at h
theorem trod_int {P : Program} {H : Type} {enc : TypeId × Value → H} {w : World} {fuel : Nat} {bb : Bool} {t : TypeId} {k : IntKind} {a : Value} {n : Int} {ps : List MemPlace} (hu : P.underlying t = some (.int k))
   (h : DataW.trod enc P w 0 (fun _ => true) bb fuel t [a] = some (.lit (.int .i64 n), ps)) : a = .int .i64 n := by
 cases fuel with
 | zero => simp [DataW.trod] at h
 | succ fuel =>
   unfold DataW.trod at h
   rw [hu] at h
   split at h <;> simp_all
set_option maxRecDepth 100000 in
theorem glob_of_laid {W : World} (h : laidMetH Tryz.prog laidL W) : GlobO W := by
 have h' : laidMet Tryz.prog laidL W := h
 obtain ⟨ps, ⟨g, t, cs, fuel, p, q, hg, ht, hv, hd, _, _⟩, _, _⟩ := h'
 obtain rfl := Option.some.inj (gNow.symm.trans hg)
 obtain rfl := Option.some.inj (tNow.symm.trans ht)
 have hd' : DataW.trod (fun _ => ()) Tryz.prog W 0 (fun _ => true) false fuel 45 cs.toList = some (.agg [.lit (.int .i64 1073741824), .lit (.int .i64 (-1073741824))], p) := hd
 have hlen : cs.toList.length = 2 := (trod_lenS Tryz.underlying45 hd').trans (by kernel_rfl)
 obtain ⟨l⟩ := cs
 match l, hlen with
 | [a, b], _ =>
   cases fuel with
   | zero => simp [DataW.trod] at hd'
   | succ n =>
     obtain ⟨x, y, hx, hy, e⟩ := trod_pair (ta := 3) (tb := 3) Tryz.underlying45 rfl rfl rfl rfl (by kernel_rfl) (by kernel_rfl) hd'
     simp only [DataW.agg.injEq, List.cons.injEq, and_true] at e
     obtain ⟨x1, x2⟩ := x
     obtain ⟨y1, y2⟩ := y
     simp only at e
     obtain ⟨rfl, rfl⟩ := e
     obtain rfl := trod_int Tryz.underlying3 hx
     obtain rfl := trod_int Tryz.underlying3 hy
     unfold World.var? at hv
     rw [gNow] at hv
     simp only [Option.bind_some] at hv
     cases hh : W.heap[0]? with
     | none => simp [hh] at hv
     | some o =>
       cases o <;> simp [hh] at hv
       subst hv
       refine ro_of fun j v hj => ?_
       rw [Addr.add_lit, Nat.zero_add]
       unfold World.cell?
       rw [hh]
       have hj' : ([.int .i64 1073741824, .int .i64 (-1073741824)] : List Value)[j]? = some v := hj
       simpa using hj'
end Go.Proofs.YtommeljlfkmpjaaGreatDoor
