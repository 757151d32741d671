/- law09.with: the marks with some Ids, in order. / origin: marks chosen by their Ids; sets of marks that are fewer. Plain. / origin: a room is excluded just if no minute of it is told; sets of marks that come before. Plain. / a chain of makers beside a cell: where they stand. / law09: a row without one. / law09.OriginWitness$1: do some marks exclude the room alone? / law09.OriginWitness: the walk. / The variable origin.nowhere, as the rows' condition lays it, and the door's own heap, which meets that condition. -/
import Derived.Test.YtommeljlfkmpjaaGreatDoorPkLawOriginWitness10
import Derived.Test.YtommeljlfkmpjaaGreatDoorPkLawOriginWitness3
import Derived.Test.YtommeljlfkmpjaaGreatDoorRows
import Derived.Test.YtommeljlfkmpjaaGreatDoorPkLawOriginWitness4
import Derived.LaidLaws
import Derived.LaidHandle
import Derived.LaidMore
import Derived.ChangeVars
import Derived.ChangeShapes
namespace Go.Proofs.YtommeljlfkmpjaaGreatDoor
open Go.RowKit Go.Proofs.YtommeljlfkmpjaaGreatDoorW.PrintWords
set_option linter.unusedVariables false
set_option linter.unusedSimpArgs false
def pickB (ids : List Int) (l : List MarT) (m : MarT) : Bool := decide (l.length < ids.length) && decide (ids.getD l.length 0 = m.f0)
def pickL (ids : List Int) (ms : List MarT) : Nat → List MarT
 | 0 => []
 | k + 1 => if pickB ids (pickL ids ms k) (ms.getD k zMar) = true then pickL ids ms k ++ [ms.getD k zMar] else pickL ids ms k
theorem pickL_len (ids : List Int) (ms : List MarT) : ∀ k, (pickL ids ms k).length ≤ k
 | 0 => Nat.le_refl _
 | k + 1 => by
   have := pickL_len ids ms k
   rw [pickL]
   split
   · rw [List.length_append]; simp; omega
   · omega
def withL (ids : List Int) (ms : List MarT) : List MarT := pickL ids ms ms.length
set_option maxHeartbeats 8000000 in
theorem with_calls (R E : Int) (A B I : Option Addr) (c c2 ci : Nat) (gs : List GatT) (ms : List MarT) (ids : List Int) (w : World) (hM : RowOf marV 7 zMar w B ms) (hI : IntsAt w I ids) (hm8 : ms.length ≤ 8) (hi8 : ids.length ≤ 8) :
   Calls Tryz.prog 32 #[.agg (scnV R A gs.length c E B ms.length c2).toArray, .slice I ids.length ci] w fun e w' => ∃ r : RowR, e = .returned (.tuple #[.agg (scnV R A gs.length c E (valA r) (withL ids ms).length (valC r)).toArray, .bool (decide (((withL ids ms).length : Int) = ids.length))]) ∧ RowZ 56 7 (withL ids ms).length w.heap.size w' r (marL (withL ids ms)) ∧ Below w.heap.size w w' := by
 refine x_calls (X := XNone) Tryz.func32 rfl rfl rfl ?_
 with_reducible ((repeat refine xc_seq ?_); refine xcR ?_)
 refine xo_box rfl rfl rfl rfl (fun b2 => ?_)
 refine xo_alloc T_ rfl rfl rfl rfl (fun b4 => ?_)
 refine xo_asg rfl rfl rfl ?_
 with_reducible (refine xo_nil ?_; (repeat (first | refine xqT ?_ | refine xqB ?_ | refine xqS ?_)); (repeat refine xc_seq ?_); refine xcR ?_)
 refine xo_loadN T_ rfl rfl rfl (by repeat first | exact memH | apply memT | apply memA) rfl rfl ?_
 refine xo_alloc T_ rfl rfl rfl rfl (fun b6 => ?_)
 refine xo_store T_ rfl rfl rfl rfl (by repeat first | exact memH | apply memT | apply memA) rfl rfl rfl rfl (by repeat (first | exact Upd.head | apply Upd.tail | apply Upd.app)) rfl ?_
 with_reducible (refine xo_nil ?_; (repeat (first | refine xqT ?_ | refine xqB ?_ | refine xqS ?_)); (repeat refine xc_seq ?_); refine xcR ?_)
 refine xo_fa T_ rfl rfl rfl rfl rfl ?_
 refine xo_store T_ rfl rfl rfl rfl (by repeat first | exact memH | apply memT | apply memA) rfl rfl rfl rfl (by repeat (first | exact Upd.head | apply Upd.tail | apply Upd.app)) rfl ?_
 with_reducible (refine xo_nil ?_; (repeat (first | refine xqT ?_ | refine xqB ?_ | refine xqS ?_)); (repeat refine xc_seq ?_); refine xcR ?_)
 refine xo_asg rfl rfl rfl ?_
 with_reducible (refine xo_nil ?_; (repeat (first | refine xqT ?_ | refine xqB ?_ | refine xqS ?_)); (repeat refine xc_seq ?_); refine xcR ?_)
 refine xo_fa T_ rfl rfl rfl rfl rfl ?_
 refine xo_load0 T_ rfl rfl rfl (by repeat first | exact memH | apply memT | apply memA) rfl rfl ?_
 refine xo_len T_ rfl rfl rfl rfl ?_
 refine xo_mv rfl rfl rfl ?_
 with_reducible (refine xo_nil ?_; (repeat (first | refine xqT ?_ | refine xqB ?_ | refine xqS ?_)); (repeat refine xc_seq ?_); refine xc_block ?_)
 · refine xc_loop (γ := Nat × RowR) (fun q => q.1 ≤ ms.length ∧ (q.2 = none → (pickL ids ms q.1).length = 0)) (fun q => [(1, .slice I ids.length ci), (4, .pointer (some ⟨b4, 0, none⟩)), (5, .bool false), (6, .pointer (some ⟨b6, 0, none⟩)), (7, .int .i64 ((pickL ids ms q.1).length : Int)), (13, .slice B ms.length c2), (14, .int .i64 (ms.length : Int)), (15, .int .i64 (q.1 : Int))])
     (fun q => hpR 56 7 q.2 (pickL ids ms q.1).length (marL (pickL ids ms q.1)) ++ [(b6, true, cel [.int .i64 R, .slice A gs.length c, .int .i64 E, valR q.2 (pickL ids ms q.1).length] 25), (b4, true, cel [.int .i64 0, .slice none 0 0, .int .i64 0, .slice none 0 0] 25)]) (fun q => ms.length - q.1) (0, none) ⟨Nat.zero_le _, fun _ => rfl⟩ ⟨rfl, rfl, rfl, rfl, rfl, rfl, rfl, rfl, trivial⟩ (by repeat (first | exact List.Sublist.refl _ | apply List.Sublist.cons_cons | apply List.Sublist.cons | exact List.nil_sublist _)) ?_
   rintro ⟨k, rr⟩ ⟨hk, hrr⟩
   simp only at hk hrr
   have hpl := pickL_len ids ms k
   with_reducible ((repeat refine xc_seq ?_); refine xcR ?_)
   refine xo_lss rfl rfl rfl rfl ?_
   with_reducible (refine xo_nil ?_; (repeat (first | refine xqT ?_ | refine xqB ?_ | refine xqS ?_)); (repeat refine xc_seq ?_))
   refine xc_cond rfl (fun h => ?_) (fun h => ?_)
   · have hlt : k < ms.length := by have := of_decide_eq_true h; omega
     obtain ⟨ad, rfl, hRm⟩ := hM k hlt
     have hst : pickL ids ms (k + 1) = if pickB ids (pickL ids ms k) (ms.getD k zMar) = true then pickL ids ms k ++ [ms.getD k zMar] else pickL ids ms k := rfl
     generalize pickL ids ms k = l at hrr hpl hst ⊢
     generalize ms.getD k zMar = m at hRm hst
     with_reducible (refine xc_skip ?_; (repeat (first | refine xqT ?_ | refine xqB ?_ | refine xqS ?_)); (repeat refine xc_seq ?_); refine xc_block ?_; (repeat refine xc_seq ?_); refine xcR ?_)
     refine xo_ia T_ rfl rfl rfl rfl rfl ⟨by omega, by omega⟩ rfl ?_
     refine xo_loadRN T_ rfl rfl rfl hRm rfl rfl ?_
     refine xo_alloc T_ rfl rfl rfl rfl (fun b9 => ?_)
     refine xo_store T_ rfl rfl rfl rfl (by repeat first | exact memH | apply memT | apply memA) rfl rfl rfl rfl (by repeat (first | exact Upd.head | apply Upd.tail | apply Upd.app)) rfl ?_
     with_reducible (refine xo_nil ?_; (repeat (first | refine xqT ?_ | refine xqB ?_ | refine xqS ?_)))
     refine xc_slots [(1, .slice I ids.length ci), (4, .pointer (some ⟨b4, 0, none⟩)), (5, .bool false), (6, .pointer (some ⟨b6, 0, none⟩)), (7, .int .i64 (l.length : Int)), (9, .pointer (some ⟨b9, 0, none⟩)), (13, .slice (some ad) ms.length c2), (14, .int .i64 (ms.length : Int)), (15, .int .i64 (k : Int))] ⟨rfl, rfl, rfl, rfl, rfl, rfl, rfl, rfl, rfl, trivial⟩ ?_
     cases h1 : decide ((l.length : Int) < (ids.length : Int))
     · have hb : pickB ids l m = false := by
         have := of_decide_eq_false h1
         simp [pickB]; intro h; omega
       rw [hb, if_neg Bool.false_ne_true] at hst
       with_reducible (repeat refine xc_seq ?_)
       apply xc_drawN
       · exact T_.mixed
       · rfl
       · rfl
       · rfl
       · rfl
       · apply DrawOps.cons
         · intro τ
           refine xo_mv rfl rfl rfl ?_
           exact xo_fin rfl
         apply DrawOps.cons
         · intro τ
           refine xo_mv rfl rfl rfl ?_
           exact xo_fin rfl
         apply DrawOps.cons
         · intro τ
           refine xo_len T_ rfl rfl rfl rfl ?_
           exact xo_fin rfl
         apply DrawOps.cons
         · intro τ
           refine xo_lss rfl rfl rfl rfl ?_
           first
             | exact xo_fin (congrArg Value.bool h1)
             | exact xo_fin rfl
         apply DrawOps.cons
         · intro τ
           refine xo_mv rfl rfl rfl ?_
           exact xo_fin rfl
         apply DrawOps.cons
         · intro τ
           (first | refine xo_not rfl rfl ?_ | (refine xo_mv rfl rfl rfl ?_))
           exact xo_fin rfl
         apply DrawOps.cons
         · intro τ
           (first | refine xo_not rfl rfl ?_ | (refine xo_mv rfl rfl rfl ?_))
           exact xo_fin rfl
         apply DrawOps.cons
         · intro τ
           (first | refine xo_not rfl rfl ?_ | (refine xo_ia T_ rfl rfl rfl rfl rfl ⟨by omega, by omega⟩ rfl ?_))
           exact xo_fin rfl
         apply DrawOps.cons
         · intro τ
           (first | refine xo_not rfl rfl ?_ | (refine xo_loadR0 T_ rfl rfl rfl (by first | assumption | exact RO.fld (by assumption) rfl) rfl ?_))
           exact xo_fin rfl
         apply DrawOps.cons
         · intro τ
           (first | refine xo_not rfl rfl ?_ | (refine xo_fa T_ rfl rfl rfl rfl rfl ?_))
           exact xo_fin rfl
         apply DrawOps.cons
         · intro τ
           (first | refine xo_not rfl rfl ?_ | (refine xo_load0 T_ rfl rfl rfl (by repeat first | exact memH | apply memT | apply memA) rfl rfl ?_))
           exact xo_fin rfl
         apply DrawOps.cons
         · intro τ
           (first | refine xo_not rfl rfl ?_ | (refine xo_eql rfl rfl rfl rfl ?_))
           exact xo_fin rfl
         apply DrawOps.cons
         · intro τ
           first | refine xo_pickT rfl rfl rfl rfl ?_ | refine xo_pickF rfl rfl rfl rfl ?_
           exact xo_fin rfl
         exact DrawOps.nil
       · rfl
       with_reducible ((repeat (first | refine xqT ?_ | refine xqB ?_ | refine xqS ?_)); (repeat refine xc_seq ?_))
       refine xc_condF rfl ?_
       with_reducible (refine xc_skip ?_; (repeat (first | refine xqT ?_ | refine xqB ?_ | refine xqS ?_)); (repeat refine xc_seq ?_); refine xcR ?_)
       refine xo_add rfl rfl rfl (by omega) rfl ?_
       refine xo_mv rfl rfl rfl ?_
       with_reducible (refine xo_nil ?_; (repeat (first | refine xqT ?_ | refine xqB ?_ | refine xqS ?_)))
       exact xq_again _ _ _ _ _ (k + 1, rr) ⟨hlt, fun q => by rw [hst]; exact hrr q⟩ (by simp only; omega) ⟨rfl, rfl, rfl, rfl, by rw [hst]; rfl, rfl, rfl, rfl, trivial⟩ (by rw [hst]; exact List.sublist_cons_self _ _)
     · have hlt2 : l.length < ids.length := by have := of_decide_eq_true h1; omega
       obtain ⟨ai, rfl, hRi⟩ := hI _ hlt2
       cases h2 : decide (ids.getD l.length 0 = m.f0)
       · have hb : pickB ids l m = false := by rw [pickB, h2, Bool.and_false]
         rw [hb, if_neg Bool.false_ne_true] at hst
         with_reducible (repeat refine xc_seq ?_)
         apply xc_drawN
         · exact T_.mixed
         · rfl
         · rfl
         · rfl
         · rfl
         · apply DrawOps.cons
           · intro τ
             refine xo_mv rfl rfl rfl ?_
             exact xo_fin rfl
           apply DrawOps.cons
           · intro τ
             refine xo_mv rfl rfl rfl ?_
             exact xo_fin rfl
           apply DrawOps.cons
           · intro τ
             refine xo_len T_ rfl rfl rfl rfl ?_
             exact xo_fin rfl
           apply DrawOps.cons
           · intro τ
             refine xo_lss rfl rfl rfl rfl ?_
             first
               | exact xo_fin (congrArg Value.bool h1)
               | exact xo_fin rfl
           apply DrawOps.cons
           · intro τ
             refine xo_mv rfl rfl rfl ?_
             exact xo_fin rfl
           apply DrawOps.cons
           · intro τ
             (first | refine xo_not rfl rfl ?_ | (refine xo_mv rfl rfl rfl ?_))
             exact xo_fin rfl
           apply DrawOps.cons
           · intro τ
             (first | refine xo_not rfl rfl ?_ | (refine xo_mv rfl rfl rfl ?_))
             exact xo_fin rfl
           apply DrawOps.cons
           · intro τ
             (first | refine xo_not rfl rfl ?_ | (refine xo_ia T_ rfl rfl rfl rfl rfl ⟨by omega, by omega⟩ rfl ?_))
             exact xo_fin rfl
           apply DrawOps.cons
           · intro τ
             (first | refine xo_not rfl rfl ?_ | (refine xo_loadR0 T_ rfl rfl rfl hRi rfl ?_))
             exact xo_fin rfl
           apply DrawOps.cons
           · intro τ
             (first | refine xo_not rfl rfl ?_ | (refine xo_fa T_ rfl rfl rfl rfl rfl ?_))
             exact xo_fin rfl
           apply DrawOps.cons
           · intro τ
             (first | refine xo_not rfl rfl ?_ | (refine xo_load0 T_ rfl rfl rfl (by repeat first | exact memH | apply memT | apply memA) rfl rfl ?_))
             exact xo_fin rfl
           apply DrawOps.cons
           · intro τ
             (first | refine xo_not rfl rfl ?_ | (refine xo_eql rfl rfl rfl rfl ?_))
             first
               | exact xo_fin (congrArg Value.bool h2)
               | exact xo_fin rfl
           apply DrawOps.cons
           · intro τ
             first | refine xo_pickT rfl rfl rfl rfl ?_ | refine xo_pickF rfl rfl rfl rfl ?_
             exact xo_fin rfl
           exact DrawOps.nil
         · rfl
         with_reducible ((repeat (first | refine xqT ?_ | refine xqB ?_ | refine xqS ?_)); (repeat refine xc_seq ?_))
         refine xc_condF rfl ?_
         with_reducible (refine xc_skip ?_; (repeat (first | refine xqT ?_ | refine xqB ?_ | refine xqS ?_)); (repeat refine xc_seq ?_); refine xcR ?_)
         refine xo_add rfl rfl rfl (by omega) rfl ?_
         refine xo_mv rfl rfl rfl ?_
         with_reducible (refine xo_nil ?_; (repeat (first | refine xqT ?_ | refine xqB ?_ | refine xqS ?_)))
         exact xq_again _ _ _ _ _ (k + 1, rr) ⟨hlt, fun q => by rw [hst]; exact hrr q⟩ (by simp only; omega) ⟨rfl, rfl, rfl, rfl, by rw [hst]; rfl, rfl, rfl, rfl, trivial⟩ (by rw [hst]; exact List.sublist_cons_self _ _)
       · have hb : pickB ids l m = true := by rw [pickB, h2, decide_eq_true hlt2]; rfl
         rw [hb, if_pos rfl] at hst
         with_reducible (repeat refine xc_seq ?_)
         apply xc_drawN
         · exact T_.mixed
         · rfl
         · rfl
         · rfl
         · rfl
         · apply DrawOps.cons
           · intro τ
             refine xo_mv rfl rfl rfl ?_
             exact xo_fin rfl
           apply DrawOps.cons
           · intro τ
             refine xo_mv rfl rfl rfl ?_
             exact xo_fin rfl
           apply DrawOps.cons
           · intro τ
             refine xo_len T_ rfl rfl rfl rfl ?_
             exact xo_fin rfl
           apply DrawOps.cons
           · intro τ
             refine xo_lss rfl rfl rfl rfl ?_
             first
               | exact xo_fin (congrArg Value.bool h1)
               | exact xo_fin rfl
           apply DrawOps.cons
           · intro τ
             refine xo_mv rfl rfl rfl ?_
             exact xo_fin rfl
           apply DrawOps.cons
           · intro τ
             (first | refine xo_not rfl rfl ?_ | (refine xo_mv rfl rfl rfl ?_))
             exact xo_fin rfl
           apply DrawOps.cons
           · intro τ
             (first | refine xo_not rfl rfl ?_ | (refine xo_mv rfl rfl rfl ?_))
             exact xo_fin rfl
           apply DrawOps.cons
           · intro τ
             (first | refine xo_not rfl rfl ?_ | (refine xo_ia T_ rfl rfl rfl rfl rfl ⟨by omega, by omega⟩ rfl ?_))
             exact xo_fin rfl
           apply DrawOps.cons
           · intro τ
             (first | refine xo_not rfl rfl ?_ | (refine xo_loadR0 T_ rfl rfl rfl hRi rfl ?_))
             exact xo_fin rfl
           apply DrawOps.cons
           · intro τ
             (first | refine xo_not rfl rfl ?_ | (refine xo_fa T_ rfl rfl rfl rfl rfl ?_))
             exact xo_fin rfl
           apply DrawOps.cons
           · intro τ
             (first | refine xo_not rfl rfl ?_ | (refine xo_load0 T_ rfl rfl rfl (by repeat first | exact memH | apply memT | apply memA) rfl rfl ?_))
             exact xo_fin rfl
           apply DrawOps.cons
           · intro τ
             (first | refine xo_not rfl rfl ?_ | (refine xo_eql rfl rfl rfl rfl ?_))
             first
               | exact xo_fin (congrArg Value.bool h2)
               | exact xo_fin rfl
           apply DrawOps.cons
           · intro τ
             first | refine xo_pickT rfl rfl rfl rfl ?_ | refine xo_pickF rfl rfl rfl rfl ?_
             exact xo_fin rfl
           exact DrawOps.nil
         · rfl
         with_reducible ((repeat (first | refine xqT ?_ | refine xqB ?_ | refine xqS ?_)); (repeat refine xc_seq ?_))
         refine xc_condT rfl ?_
         with_reducible ((repeat refine xc_seq ?_); refine xcR ?_)
         refine xo_fa T_ rfl rfl rfl rfl rfl ?_
         refine xo_load0 T_ rfl rfl rfl (by repeat first | exact memH | apply memT | apply memA) rfl rfl ?_
         refine xo_loadN T_ rfl rfl rfl (by repeat first | exact memH | apply memT | apply memA) rfl rfl ?_
         refine xo_bsG T_ 7 rfl rfl rfl rfl rfl rfl rfl rfl rfl rfl (fun b35 => ?_)
         refine xo_less (η' := (b35, true, cel (marV m) 56) :: (hpR 56 7 rr l.length (marL l) ++ [(b6, true, cel [.int .i64 R, .slice A gs.length c, .int .i64 E, valR rr l.length] 25), (b4, true, cel [.int .i64 0, .slice none 0 0, .int .i64 0, .slice none 0 0] 25)])) (List.Sublist.cons_cons _ (List.sublist_cons_self _ _)) ?_
         refine xo_app TR_ rfl rfl rfl rfl rfl rfl rfl rfl (marL_len l) rfl rfl hrr (by omega) rfl rfl (fun r' hr' => ?_)
         rcases r' with _ | ⟨rb, rc⟩
         · exact absurd rfl hr'
         refine xo_fa T_ rfl rfl rfl rfl rfl ?_
         refine xo_store T_ rfl rfl rfl rfl (by repeat first | exact memH | apply memT | apply memA) rfl rfl rfl rfl (by repeat (first | exact Upd.head | apply Upd.tail | apply Upd.app)) rfl ?_
         with_reducible (refine xo_nil ?_; (repeat (first | refine xqT ?_ | refine xqB ?_ | refine xqS ?_)); (repeat refine xc_seq ?_); refine xcR ?_)
         refine xo_mv rfl rfl rfl ?_
         refine xo_add rfl rfl rfl (by omega) rfl ?_
         refine xo_asg rfl rfl rfl ?_
         with_reducible (refine xo_nil ?_; (repeat (first | refine xqT ?_ | refine xqB ?_ | refine xqS ?_)); (repeat refine xc_seq ?_); refine xcR ?_)
         refine xo_add rfl rfl rfl (by omega) rfl ?_
         refine xo_mv rfl rfl rfl ?_
         with_reducible (refine xo_nil ?_; (repeat (first | refine xqT ?_ | refine xqB ?_ | refine xqS ?_)))
         exact xq_again _ _ _ _ _ (k + 1, some (rb, rc)) ⟨hlt, fun q => by cases q⟩ (by simp only; omega) ⟨rfl, rfl, rfl, rfl, by rw [hst, List.length_append]; rfl, rfl, rfl, rfl, trivial⟩ (by rw [hst, List.length_append, marL_app]; exact List.Sublist.refl _)
   · have hge : k = ms.length := by have := of_decide_eq_false h; omega
     subst hge
     with_reducible (refine xc_exit ?_; (repeat (first | refine xq_blockX ?_ | refine xq_thenE ?_ | refine xq_blockE rfl ?_ | refine xq_scopeE ?_)); (repeat (first | refine xqT ?_ | refine xqB ?_ | refine xqS ?_)))
     have hl := pickL_len ids ms ms.length
     unfold withL
     generalize pickL ids ms ms.length = l at hrr hl ⊢
     rw [valR_eq hrr]
     with_reducible ((repeat refine xc_seq ?_); refine xcR ?_)
     refine xo_loadN T_ rfl rfl rfl (by repeat first | exact memH | apply memT | apply memA) rfl rfl ?_
     refine xo_mv rfl rfl rfl ?_
     refine xo_mv rfl rfl rfl ?_
     refine xo_len T_ rfl rfl rfl rfl ?_
     refine xo_eql rfl rfl rfl rfl ?_
     refine xo_store T_ rfl rfl rfl rfl (by repeat first | exact memH | apply memT | apply memA) rfl rfl rfl rfl (by repeat (first | exact Upd.head | apply Upd.tail | apply Upd.app)) rfl ?_
     refine xo_asg rfl rfl rfl ?_
     with_reducible (refine xo_nil ?_; (repeat (first | refine xqT ?_ | refine xqB ?_ | refine xqS ?_)); (repeat refine xc_seq ?_); refine xc_ret ?_; (repeat (first | refine xq_thenR ?_ | refine xq_blockR ?_ | refine xq_scopeR ?_)))
     exact xq_retC1 T_ rfl rfl rfl rfl (by repeat first | exact memH | apply memT | apply memA) rfl fun w' hw => ⟨rr, rfl, RowZ.of hw hrr, hw.kx.below⟩
theorem with_enters : ∀ args w, (callFunc 32 args).run Tryz.prog w = .ok (.enter 32 args) w := enters_of Tryz.func32 (by kernel_rfl) rfl
/-! ### all sets are all parts -/
theorem bitN_test (s i : Nat) : bitN s i = s.testBit i := by
 rw [bitN, Nat.testBit_eq_decide_div_mod_eq, Bool.eq_iff_iff, decide_eq_true_iff, decide_eq_true_iff]
 omega
theorem chosen_low (ms : List MarT) {s s' : Nat} : ∀ k, (∀ i, i < k → bitN s i = bitN s' i) → chosenL s ms k = chosenL s' ms k
 | 0, _ => rfl
 | k + 1, h => by
   rw [chosenL, chosenL, chosen_low ms k (fun i hi => h i (by omega)), h k (by omega)]
theorem take_get {α : Type} (z : α) {l : List α} {k : Nat} (h : k < l.length) : l.take (k + 1) = l.take k ++ [l.getD k z] := by
 rw [List.take_succ_eq_append_getElem h, List.getD_eq_getElem?_getD, List.getElem?_eq_getElem h]
 rfl
theorem sub_one {b : List MarT} {m : MarT} (h : List.Sublist b [m]) : b = [] ∨ b = [m] := by
 cases h with
 | cons _ h => exact .inl (List.sublist_nil.1 h)
 | cons_cons _ h => exact .inr (by rw [List.sublist_nil.1 h])
theorem sub_chosen (ms : List MarT) : ∀ k, k ≤ ms.length → ∀ q : List MarT, List.Sublist q (ms.take k) → ∃ s, s < 2 ^ k ∧ chosenL s ms k = q
 | 0, _, q, h => by
   rw [List.take_zero] at h
   exact ⟨0, by simp, (List.sublist_nil.1 h).symm⟩
 | k + 1, hk, q, h => by
   rw [take_get zMar (by omega)] at h
   obtain ⟨a, b, rfl, ha, hb⟩ := List.sublist_append_iff.1 h
   obtain ⟨s, hs, he⟩ := sub_chosen ms k (by omega) a ha
   have hbk : bitN s k = false := by rw [bitN_test]; exact Nat.testBit_lt_two_pow hs
   rcases sub_one hb with rfl | rfl
   · exact ⟨s, by rw [Nat.pow_succ]; omega, by rw [chosenL, hbk, if_neg Bool.false_ne_true, he, List.append_nil]⟩
   · have h1 : bitN (2 ^ k + s) k = true := by rw [bitN_test, Nat.testBit_two_pow_add_eq, ← bitN_test, hbk]; rfl
     refine ⟨2 ^ k + s, by rw [Nat.pow_succ]; omega, ?_⟩
     rw [chosenL, h1, if_pos rfl, chosen_low ms k (s' := s) (fun i hi => by rw [bitN_test, bitN_test, Nat.testBit_two_pow_add_gt hi]), he]
theorem chosen_sub (ms : List MarT) (s : Nat) : ∀ k, k ≤ ms.length → List.Sublist (chosenL s ms k) (ms.take k)
 | 0, _ => by rw [chosenL]; exact List.nil_sublist _
 | k + 1, hk => by
   rw [take_get zMar (by omega), chosenL]
   split
   · exact (chosen_sub ms s k (by omega)).append (List.Sublist.refl _)
   · exact (chosen_sub ms s k (by omega)).trans (List.sublist_append_left _ _)
theorem sets_sub {ms q : List MarT} : q ∈ allSets ms ↔ List.Sublist q ms := by
 unfold allSets
 constructor
 · intro h
   obtain ⟨s, _, rfl⟩ := List.mem_map.1 h
   have := chosen_sub ms s ms.length (Nat.le_refl _)
   rwa [List.take_length] at this
 · intro h
   obtain ⟨s, hs, he⟩ := sub_chosen ms ms.length (Nat.le_refl _) q (by rw [List.take_length]; exact h)
   exact List.mem_map.2 ⟨s, List.mem_range.2 hs, he⟩
/-! ### marks in order -/
theorem marks_rise {R : Int} : ∀ {last : Int} {ms : List MarT}, marksF R last ms = true → ms.Pairwise (fun x y => x.f0 < y.f0) ∧ ∀ m ∈ ms, last < m.f0
 | last, [], _ => ⟨List.Pairwise.nil, fun m h => by cases h⟩
 | last, m :: ms, h => by
   rw [marksF, Bool.and_eq_true] at h
   obtain ⟨h1, h2⟩ := h
   simp only [Bool.and_eq_true] at h1
   have hi := inF_iff.1 h1.1.1.1
   obtain ⟨h3, h4⟩ := marks_rise h2
   refine ⟨List.Pairwise.cons h4 h3, fun x hx => ?_⟩
   rcases List.mem_cons.1 hx with rfl | hx
   · omega
   · have := h4 x hx; omega
theorem marks_low {R : Int} {last last' : Int} (hl : last' ≤ last) : ∀ {ms : List MarT}, marksF R last ms = true → marksF R last' ms = true
 | [], _ => rfl
 | m :: ms, h => by
   rw [marksF, Bool.and_eq_true] at h ⊢
   refine ⟨?_, h.2⟩
   have h1 := h.1
   simp only [Bool.and_eq_true] at h1 ⊢
   have hi := inF_iff.1 h1.1.1.1
   exact ⟨⟨⟨inF_iff.2 ⟨by omega, hi.2⟩, h1.1.1.2⟩, h1.1.2⟩, h1.2⟩
theorem marks_sub {R : Int} : ∀ {ms q : List MarT} {last : Int}, List.Sublist q ms → marksF R last ms = true → marksF R last q = true := by
 intro ms
 induction ms with
 | nil => intro q last h _; rw [List.sublist_nil.1 h]; rfl
 | cons m ms ih =>
   intro q last h hm
   rw [marksF, Bool.and_eq_true] at hm
   have h1 := hm.1
   simp only [Bool.and_eq_true] at h1
   have hi := inF_iff.1 h1.1.1.1
   cases h with
   | cons _ h => exact marks_low (by omega) (ih h hm.2)
   | cons_cons _ h => rw [marksF, hm.1, ih h hm.2]; rfl
theorem scene_sub {R E : Int} {gs : List GatT} {ms q : List MarT} (h : sceneF R E gs ms = true) (hq : List.Sublist q ms) : sceneF R E gs q = true := by
 obtain ⟨h1, h2, h3, h4, h5⟩ := sceneF_ok h
 have hl := hq.length_le
 unfold sceneF at h ⊢
 simp only [Bool.and_eq_true] at h ⊢
 exact ⟨⟨⟨h.1.1.1, decide_eq_true (by omega)⟩, h.1.2⟩, marks_sub hq h.2⟩
theorem with_sub {ms : List MarT} (hp : ms.Pairwise fun x y => x.f0 < y.f0) {q : List MarT} (hq : List.Sublist q ms) : withL (idsL q) ms = q := by
 have key : ∀ j, j ≤ ms.length → ∃ a b, q = a ++ b ∧ List.Sublist b (ms.drop j) ∧ pickL (idsL q) ms j = a := by
   intro j
   induction j with
   | zero => intro _; exact ⟨[], q, rfl, hq, rfl⟩
   | succ j ih =>
     intro hj
     obtain ⟨a, b, rfl, hb, hpk⟩ := ih (by omega)
     have hd := drop_at ms zMar j (by omega)
     rw [hd] at hb
     have hpd : (ms.getD j zMar :: ms.drop (j + 1)).Pairwise fun x y => x.f0 < y.f0 := by rw [← hd]; exact hp.sublist (List.drop_sublist _ _)
     have hlt := (List.pairwise_cons.1 hpd).1
     rw [pickL, hpk]
     cases hb with
     | cons _ hb =>
       refine ⟨a, b, rfl, hb, ?_⟩
       rw [if_neg]
       intro h
       rw [pickB, Bool.and_eq_true, decide_eq_true_iff, decide_eq_true_iff] at h
       cases b with
       | nil => rw [List.append_nil, idsL, List.length_map] at h; omega
       | cons x b =>
         have h1 := hlt x (hb.subset List.mem_cons_self)
         have h2 : x.f0 = (ms.getD j zMar).f0 := by rw [← h.2]; simp [idsL]
         omega
     | cons_cons _ hb =>
       rename_i b
       refine ⟨a ++ [ms.getD j zMar], b, by simp, hb, ?_⟩
       rw [if_pos]
       rw [pickB, Bool.and_eq_true, decide_eq_true_iff, decide_eq_true_iff]
       constructor
       · simp [idsL]
       · simp [idsL, List.getD_eq_getElem?_getD]
 obtain ⟨a, b, he, hb, hpk⟩ := key ms.length (Nat.le_refl _)
 rw [List.drop_length] at hb
 rw [List.sublist_nil.1 hb, List.append_nil] at he
 rw [withL, hpk, he]
theorem ids_erase (q : List MarT) (i : Nat) : (idsL q).take i ++ (idsL q).drop (i + 1) = idsL (q.eraseIdx i) := by
 rw [List.eraseIdx_eq_take_drop_succ, idsL, idsL, List.map_append, List.map_take, List.map_drop]
theorem grpS_pos (acc : List SpaT) (m : Int) : 0 < (grpS acc m).length := by
 unfold grpS
 split
 · rename_i h; rw [List.length_set]; exact h.1
 · rw [List.length_append]; simp
theorem spans_none (l : List Int) : (spansOf l).length = 0 ↔ l = [] := by
 have key : ∀ (l : List Int) (acc : List SpaT), 0 < acc.length → 0 < (l.foldl grpS acc).length := by
   intro l
   induction l with
   | nil => intro acc h; exact h
   | cons x l ih => intro acc h; exact ih _ (grpS_pos acc x)
 cases l with
 | nil => simp [spansOf]
 | cons x l =>
   have := key l (grpS [] x) (grpS_pos [] x)
   constructor
   · intro h; rw [spansOf, List.foldl_cons] at h; omega
   · intro h; cases h
theorem told_none {E : Int} {R : Nat} {gs : List GatT} {room : Nat} {ms : List MarT} : toldL E (beganL E R gs room ms) = [] ↔ canF E R gs room ms = false := by
 unfold canF
 constructor
 · intro h
   cases hb : beganL E R gs room ms with
   | nil => rfl
   | cons x l =>
     exfalso
     have hx : x ∈ beganL E R gs room ms := by rw [hb]; exact List.mem_cons_self
     obtain ⟨_, h2, h3⟩ := beganL_mem.1 hx
     have hw := winF_in E (farM R gs ((allD gs).getD x.1 []) room) ms
     rw [← h2] at hw
     have : x.2.f0.toNat ∈ toldL E (beganL E R gs room ms) := List.mem_filter.2 ⟨List.mem_range.2 (by omega), toldF_iff.2 ⟨x, hx, by omega, by omega⟩⟩
     rw [h] at this
     cases this
 · intro h
   have hb : beganL E R gs room ms = [] := by simpa using h
   rw [hb]
   unfold toldL
   exact List.filter_eq_nil_iff.2 fun m _ => by simp [toldF]
theorem minutes_none {R E : Int} {gs : List GatT} {ms : List MarT} {room : Int} (hsc : sceneF R E gs ms = true) (hr : roomOK R room = true) : decide (((minutesL R E gs ms room).length : Int) = 0) = !canF E R.toNat gs room.toNat ms := by
 have hC : minutesC R E gs ms room = 0 := by simp [minutesC, hsc, hr]
 rw [minutesL, if_pos hC, Bool.eq_iff_iff, decide_eq_true_iff, Bool.not_eq_true', ← told_none]
 rw [show ((spansOf (intsN (toldL E (beganL E R.toNat gs room.toNat ms)))).length : Int) = 0 ↔ (spansOf (intsN (toldL E (beganL E R.toNat gs room.toNat ms)))).length = 0 by omega, spans_none]
 unfold intsN
 exact List.map_eq_nil_iff
/-- of two sets with as_ many marks, the first place at which they differ -/
theorem cmp_first : ∀ {x q : List MarT}, x.length = q.length → ¬ cmpL x q < 0 → ∀ k, (idsL q).take k = (idsL x).take k → k < q.length → (idsL q).getD k 0 ≠ (idsL x).getD k 0 → (idsL q).getD k 0 < (idsL x).getD k 0
 | [], [], _, _, k, _, h, _ => by simp at h
 | [], _ :: _, h, _, _, _, _, _ => by simp at h
 | _ :: _, [], h, _, _, _, _, _ => by simp at h
 | a :: x, b :: q, hl, hc, k, ht, hk, hne => by
   rw [cmpL] at hc
   cases k with
   | zero =>
     simp only [idsL, List.map_cons, List.getD_cons_zero] at hne ⊢
     rw [if_neg (by omega)] at hc
     omega
   | succ k =>
     simp only [idsL, List.map_cons, List.take_succ_cons, List.cons.injEq] at ht
     rw [if_pos (by omega)] at hc
     have := cmp_first (by simpa using hl) hc k ht.2 (by simpa using hk)
     simp only [idsL, List.map_cons, List.getD_cons_succ] at hne ⊢
     exact this hne
theorem fewest_first {p : List MarT → Bool} {ms : List MarT} (hfull : p ms = true) : ∃ q, List.Sublist q ms ∧ p q = true ∧ fewestL p (allSets ms) = idsL q ∧ (∀ i, i < q.length → p (q.eraseIdx i) = false) ∧ ∀ l, List.Sublist l ms → p l = true → ¬ cmpS l q < 0 := by
 obtain ⟨q, h1, h2, h3, h4⟩ := fewest_spec p ms hfull
 have hs := sets_sub.1 h1
 refine ⟨q, hs, h2, h3, fun i hi => ?_, fun l hl => h4 l (sets_sub.2 hl)⟩
 cases hp : p (q.eraseIdx i)
 · rfl
 · refine absurd ?_ (h4 _ (sets_sub.2 ((List.eraseIdx_sublist q i).trans hs)) hp)
   have := List.length_eraseIdx_of_lt hi
   rw [cmpS, if_neg (by omega)]
   omega
/-! ### a row without one, and what is asked of it, in whatever order they are made -/
inductive CH where
 | c0
 | c1 (b1 : Nat)
 | c2 (b1 b5 k5 : Nat)
 | c3 (b1 b5 k5 b10 k10 : Nat)
 | c4 (b1 b5 k5 b10 k10 : Nat) (r : RowR)
inductive AL where
 | a0
 | a1 (b : Nat)
 | a2 (b : Nat) (r : RowR)
def CH.b1 : CH → Nat
 | .c0 => 0
 | .c1 b => b
 | .c2 b _ _ => b
 | .c3 b _ _ _ _ => b
 | .c4 b _ _ _ _ _ => b
def CH.b5 : CH → Nat
 | .c2 _ b _ => b
 | .c3 _ b _ _ _ => b
 | .c4 _ b _ _ _ _ => b
 | _ => 0
def CH.k5 : CH → Nat
 | .c2 _ _ b => b
 | .c3 _ _ b _ _ => b
 | .c4 _ _ b _ _ _ => b
 | _ => 0
def CH.b10 : CH → Nat
 | .c3 _ _ _ b _ => b
 | .c4 _ _ _ b _ _ => b
 | _ => 0
def CH.k10 : CH → Nat
 | .c3 _ _ _ _ b => b
 | .c4 _ _ _ _ b _ => b
 | _ => 0
def CH.r : CH → RowR
 | .c4 _ _ _ _ _ r => r
 | _ => none
def AL.b : AL → Nat
 | .a0 => 0
 | .a1 b => b
 | .a2 b _ => b
section
variable {P : Program} {ro : Option Nat} {n N : Nat} {ds : List Deferred} {w0 : World} {X : Nat → Prop} {Q : Exit → Act → World → Prop} {σ : Slots} {η : Hp} {ops rest : List Oper} {d : Option Tmp} {ty : TypeId} {pos : String} {aft : Array Edge} {g : Option (Nat × Bool)}
/-- where a row goes on: its end is told by its start -/
def fromB (b i cap : Nat) : Addr := if cap = i then ⟨b, 0, none⟩ else ⟨b, i, none⟩
theorem xo_sliceLoE (T : Tys P) {t e : TypeId} {x lo : Operand} {b m cap i : Nat} (hg : gS ops σ g = some true) (ht : look t T.el = some e) (hk : look e T.tk = some 0) (hx : ev σ x = some (.slice (some ⟨b, 0, none⟩) m cap)) (hl : ev σ lo = some (.int .i64 (i : Int))) (hi : i ≤ m) (hN : dstOK N d = true)
   (h : XO P ro n N ds w0 X Q ops (putS d (.slice (some (fromB b i cap)) (m - i) (cap - i)) σ) η rest) : XO P ro n N ds w0 X Q ops σ η (⟨d, .slice t x (some lo) none none, ty, pos, aft, g⟩ :: rest) :=
 xo_val _ rfl hg hN (fun a w ha hw => by
   have h1 := T.hel _ (look_mem ht)
   simp only at h1
   have h2 : (sizeOf e).run P w = .ok 1 w := (T.htk _ (look_mem hk)).2 w
   have hel : P.elem t = e := by simp [Program.elem, h1]
   have hu : P.underlying t = some (.slice (P.elem t)) := by rw [hel]; exact h1
   have h3 := run_slice_l (P := P) w t (some ⟨b, 0, none⟩) m cap hu .i64 (i : Int) (by omega) (by omega)
   rw [hel, h2] at h3
   simp only [execOp, Option.map_some, Option.map_none, ha.ev hx, ha.ev hl, Sem.run_bind, run_sliceAt_slice (P := P) w t _ _ _ _ hu, h3, Result.andThen_ok, sliced]
   by_cases q : cap = i <;> simp [q, fromB, Addr.add_lit]) h
end
/-- what lies in a row of whole numbers, from a place on -/
theorem row_cells {w : World} {b m cap : Nat} {L : List Int} {te : TypeId} (h : BlIn [(b, true, orow te 1 m cap (L.map (.int .i64)))] w) {j : Nat} {v : Value} (hv : (L.map (Value.int .i64))[j]? = some v) : w.cell? ⟨b, j, none⟩ = some v := by
 obtain ⟨o, h4, cur, rfl, h5, h6, h7, h8⟩ := h _ List.mem_cons_self
 rw [cell_of_row w b j _ te _ h4, ← Array.getElem?_toList]
 rw [← h8] at hv
 rw [List.getElem?_take] at hv
 split at hv
 · exact hv
 · cases hv
theorem marks_Z {w : World} {r : RowR} {ms : List MarT} (hl : ms.length ≤ 1000000) (h0 : r = none → ms.length = 0) (h : BlIn (hpR 56 7 r ms.length (marL ms)) w) : Kd.C marK w (valA r) ms.length ms := by
 cases r with
 | none =>
   have := List.eq_nil_of_length_eq_zero (h0 rfl)
   subst this
   exact Kd.C_nil _ _
 | some p => exact marks_C hl h
end Go.Proofs.YtommeljlfkmpjaaGreatDoor
namespace Go.Proofs.YtommeljlfkmpjaaGreatDoor
open Go.RowKit Go.Proofs.YtommeljlfkmpjaaGreatDoorW.PrintWords
set_option linter.unusedVariables false
set_option linter.unusedSimpArgs false
set_option maxHeartbeats 8000000 in
theorem excl_calls (R E : Int) (A B I : Option Addr) (c c2 ci b3 b8 : Nat) (gs : List GatT) (ms l : List MarT) (room : Int) (w : World) (hs : SceneAt w A B gs ms) (hsc : sceneF R E gs ms = true) (hr : roomOK R room = true) (hl : List.Sublist l ms) (h3 : RO w XNone ⟨b3, 0, none⟩ (scnV R A gs.length c E B ms.length c2)) (h8 : RO w XNone ⟨b8, 0, none⟩ [.int .i64 room]) (hI : IntsAt w I (idsL l)) :
   Calls Tryz.prog 31 #[.slice I (idsL l).length ci, .pointer (some ⟨b3, 0, none⟩), .pointer (some ⟨b8, 0, none⟩)] w fun e w' => e = .returned (.tuple #[.bool (!canF E R.toNat gs room.toNat l), .bool true]) ∧ Below w.heap.size w w' := by
 obtain ⟨_, _, _, hm8, hmk⟩ := sceneF_ok hsc
 have hpw := (marks_rise hmk).1
 have hsl := scene_sub hsc hl
 have hl8 := hl.length_le
 have hwd : decide ((l.length : Int) = ((idsL l).length : Int)) = true := decide_eq_true (by rw [idsL, List.length_map])
 have hWith : ∀ w1, Below w.heap.size w w1 → Calls Tryz.prog 32 #[.agg (scnV R A gs.length c E B ms.length c2).toArray, .slice I (idsL l).length ci] w1 fun e w' => ∃ r : RowR, e = .returned (.tuple #[.agg (scnV R A gs.length c E (valA r) l.length (valC r)).toArray, .bool true]) ∧ RowZ 56 7 l.length w1.heap.size w' r (marL l) ∧ Below w1.heap.size w1 w' := fun w1 hb => by
   have h := with_calls R E A B I c c2 ci gs ms (idsL l) w1 ((mar_row hs.marks).below hb) (hI.below hb) hm8 (by rw [idsL, List.length_map]; omega)
   rw [with_sub hpw hl, hwd] at h
   exact h
 have hmc : minutesC R E gs l room = 0 := by simp [minutesC, hsl, hr]
 have hmn := minutes_none hsl hr
 refine x_calls (X := XNone) Tryz.func31 rfl rfl rfl ?_
 with_reducible ((repeat refine xc_seq ?_); refine xcR ?_)
 refine xo_asg rfl rfl rfl ?_
 refine xo_asg rfl rfl rfl ?_
 with_reducible (refine xo_nil ?_; (repeat (first | refine xqT ?_ | refine xqB ?_ | refine xqS ?_)); (repeat refine xc_seq ?_); refine xcR ?_)
 refine xo_loadRN T_ rfl rfl rfl h3 rfl rfl ?_
 refine xo_mv rfl rfl rfl ?_
 refine xo_call (fs := []) (cs := []) rfl rfl rfl with_enters rfl (fun w1 hw1 => (hWith w1 hw1.kx.below).mono ?_)
 rintro e w2 ⟨r6, rfl, hrw, hb⟩
 have hh6 := hrw.1
 refine ⟨_, _, rfl, hw1.rowZ hb hrw, ?_⟩
 clear hrw hb hw1
 refine xo_mv rfl rfl rfl ?_
 refine xo_ext rfl rfl rfl rfl ?_
 refine xo_ext rfl rfl rfl rfl ?_
 refine xo_alloc T_ rfl rfl rfl rfl (fun b6 => ?_)
 refine xo_store T_ rfl rfl rfl rfl (by repeat first | exact memH | apply memT | apply memA) rfl rfl rfl rfl (by repeat (first | exact Upd.head | apply Upd.tail | apply Upd.app)) rfl ?_
 refine xo_asg rfl rfl rfl ?_
 with_reducible (refine xo_nil ?_; (repeat (first | refine xqT ?_ | refine xqB ?_ | refine xqS ?_)); (repeat refine xc_seq ?_); refine xcR ?_)
 refine xo_loadN T_ rfl rfl rfl (by repeat first | exact memH | apply memT | apply memA) rfl rfl ?_
 refine xo_loadR0 T_ rfl rfl rfl h8 rfl ?_
 refine xo_call (fs := []) (cs := []) rfl rfl rfl Minutes_enters rfl (fun w1 hw1 => (Minutes_calls R E A (valA r6) c (valC r6) gs l room w1 ⟨Kd.C_below hs.gates hw1.kx.below, marks_Z (by omega) hh6 (hw1.bl_of (fun e he => by repeat (first | exact he | exact List.mem_append_left _ he | apply List.mem_append_right | apply List.Mem.tail))), fun m hm => hs.bytes m (hl.subset hm), hs.glob.below hw1.kx.below⟩).mono ?_)
 rw [hmc]
 rintro e w2 ⟨r8, rfl, hrw, hb⟩
 have hh8 := hrw.1
 refine ⟨_, _, rfl, hw1.rowZ hb hrw, ?_⟩
 clear hrw hb hw1
 refine xo_mv rfl rfl rfl ?_
 refine xo_ext rfl rfl rfl rfl ?_
 refine xo_ext rfl rfl rfl rfl ?_
 refine xo_asg rfl rfl rfl ?_
 refine xo_asg rfl rfl rfl ?_
 with_reducible (refine xo_nil ?_; (repeat (first | refine xqT ?_ | refine xqB ?_ | refine xqS ?_)))
 refine xc_slots [(4, .bool false), (5, .bool false), (7, .bool true), (8, .slice (valA r8) (minutesL R E gs l room).length (valC r8)), (9, .int .i64 0)] ⟨rfl, rfl, rfl, congrArg some (valR_eq hh8), rfl, trivial⟩ ?_
 with_reducible ((repeat refine xc_seq ?_); refine xcR ?_)
 refine xo_mv rfl rfl rfl ?_
 refine xo_len T_ rfl rfl rfl rfl ?_
 refine xo_eql rfl rfl rfl rfl ?_
 refine xo_as (i := 24) rfl (congrArg Value.bool hmn) ?_
 refine xo_mv rfl rfl rfl ?_
 refine xo_mv rfl rfl rfl ?_
 (first | refine xo_not rfl rfl ?_ | (refine xo_mv rfl rfl rfl ?_))
 (first | refine xo_not rfl rfl ?_ | (refine xo_eql rfl rfl rfl rfl ?_))
 first | refine xo_pickT rfl rfl rfl rfl ?_ | refine xo_pickF rfl rfl rfl rfl ?_
 refine xo_asg rfl rfl rfl ?_
 refine xo_asg rfl rfl rfl ?_
 with_reducible (refine xo_nil ?_; (repeat (first | refine xqT ?_ | refine xqB ?_ | refine xqS ?_)); (repeat refine xc_seq ?_); refine xc_ret ?_; (repeat (first | refine xq_thenR ?_ | refine xq_blockR ?_ | refine xq_scopeR ?_)))
 exact xq_ret2 rfl rfl rfl fun w' hw => ⟨rfl, hw.kx.below⟩
theorem excl_less (R E : Int) (A B : Option Addr) (c c2 b cap b3 b8 k : Nat) (gs : List GatT) (ms q : List MarT) (room : Int) (w : World) (hs : SceneAt w A B gs ms) (hsc : sceneF R E gs ms = true) (hr : roomOK R room = true) (hq : List.Sublist q ms) (hk : k < (idsL q).length) (h3 : RO w XNone ⟨b3, 0, none⟩ (scnV R A gs.length c E B ms.length c2)) (h8 : RO w XNone ⟨b8, 0, none⟩ [.int .i64 room])
   (hI : BlIn [(b, true, orow 3 1 (0 + k + ((idsL q).length - (k + 1))) cap (([] ++ ((idsL q).take k).map (.int .i64)) ++ ((idsL q).drop (k + 1)).map (.int .i64)))] w) :
   Calls Tryz.prog 31 #[.slice (some ⟨b, 0, none⟩) (0 + k + ((idsL q).length - (k + 1))) cap, .pointer (some ⟨b3, 0, none⟩), .pointer (some ⟨b8, 0, none⟩)] w fun e w' => e = .returned (.tuple #[.bool (!canF E R.toNat gs room.toNat (q.eraseIdx k)), .bool true]) ∧ Below w.heap.size w w' := by
 have hids : idsL (q.eraseIdx k) = (idsL q).take k ++ (idsL q).drop (k + 1) := (ids_erase q k).symm
 have hlen : (idsL (q.eraseIdx k)).length = 0 + k + ((idsL q).length - (k + 1)) := by rw [hids, List.length_append, List.length_take, List.length_drop]; omega
 rw [List.nil_append, ← List.map_append, ← hids, ← hlen] at hI
 have h := excl_calls R E A B (some ⟨b, 0, none⟩) c c2 cap b3 b8 gs ms (q.eraseIdx k) room w hs hsc hr ((List.eraseIdx_sublist q k).trans hq) h3 h8 (intsAt_row (r := some (b, cap)) hI (fun q => by cases q))
 rw [hlen] at h
 exact h
section
variable {P : Program} {ro : Option Nat} {n N : Nat} {ds : List Deferred} {w0 : World} {X : Nat → Prop} {Q : Exit → Act → World → Prop} {σ : Slots} {η : Hp} {ops rest : List Oper} {d : Option Tmp} {ty : TypeId} {pos : String} {aft : Array Edge} {g : Option (Nat × Bool)} {t t' : TypeId}
theorem xo_shrB {x y : Operand} {k m : Nat} (hg : gS ops σ g = some true) (hx : ev σ x = some (.int .u8 (k : Int))) (hy : ev σ y = some (.int .i64 (m : Int))) (hm : m ≤ 7) (hN : dstOK N d = true)
   (h : XO P ro n N ds w0 X Q ops (putS d (.int .u8 ((k / 2 ^ m : Nat) : Int)) σ) η rest) : XO P ro n N ds w0 X Q ops σ η (⟨d, .binOp .shr t x y t', ty, pos, aft, g⟩ :: rest) :=
 xo_val _ rfl hg hN (fun a w ha hw => by
   have h1 : min (m : Int).toNat IntKind.u8.bits = m := by simp [IntKind.bits]; omega
   have h3 : Int.fdiv (k : Int) (2 ^ m) = ((k / 2 ^ m : Nat) : Int) := by
     rw [Int.fdiv_eq_ediv_of_nonneg _ (by exact Int.le_of_lt (Int.pow_pos (by omega)))]
     simp
   simp only [execOp, ha.ev hx, ha.ev hy, eqGuard_shr, binOp_shr, Op.shift, Sem.run_bind, Sem.run_pure, Result.andThen_ok]
   rw [if_neg (by omega), h1]
   simp [h3]) h
theorem xo_andB {x y : Operand} {k : Nat} (hg : gS ops σ g = some true) (hx : ev σ x = some (.int .u8 (k : Int))) (hy : ev σ y = some (.int .u8 1)) (hk : k < 256) (hN : dstOK N d = true)
   (h : XO P ro n N ds w0 X Q ops (putS d (.int .u8 ((k % 2 : Nat) : Int)) σ) η rest) : XO P ro n N ds w0 X Q ops σ η (⟨d, .binOp .and t x y t', ty, pos, aft, g⟩ :: rest) :=
 xo_val _ rfl hg hN (fun a w ha hw => by
   simp only [execOp, ha.ev hx, ha.ev hy, eqGuard_and, binOp_and, Op.intBits, Sem.run_bind, Sem.run_pure, Result.andThen_ok]
   have h1 : (BitVec.ofInt IntKind.u8.bits (k : Int) &&& BitVec.ofInt IntKind.u8.bits 1).toNat = k % 2 := by
     rw [BitVec.toNat_and]
     simp only [BitVec.toNat_ofInt, IntKind.bits]
     rw [show ((k : Int) % ((2 ^ 8 : Nat) : Int)).toNat = k by omega, show ((1 : Int) % ((2 ^ 8 : Nat) : Int)).toNat = 1 by decide, Nat.and_one_is_mod]
   have h2 : IntKind.u8.wrap ((k % 2 : Nat) : Int) = ((k % 2 : Nat) : Int) := by
     simp [IntKind.wrap, IntKind.bits, IntKind.signed]; omega
   rw [h1, h2]) h
end
theorem excl_enters : ∀ args w, (callFunc 31 args).run Tryz.prog w = .ok (.enter 31 args) w := enters_of Tryz.func31 (by kernel_rfl) rfl
end Go.Proofs.YtommeljlfkmpjaaGreatDoor
namespace Go.Proofs.YtommeljlfkmpjaaGreatDoor
open Go.RowKit Go.Proofs.YtommeljlfkmpjaaGreatDoorW.PrintWords
set_option linter.unusedVariables false
set_option linter.unusedSimpArgs false
set_option maxHeartbeats 16000000 in
theorem originWitness_law (R E : Int) (A B : Option Addr) (c c2 : Nat) (gs : List GatT) (ms : List MarT) (which bits : Int) (w : World) (hA : Kd.C gatK w A gs.length gs) (hB : Kd.C marK w B ms.length ms) (hk : BytesK ms) (hwh : 0 ≤ which ∧ which ≤ 255) (hbi : 0 ≤ bits ∧ bits ≤ 255) (hglob : GlobO w) :
   Calls Tryz.prog 7 #[.agg (scnV R A gs.length c E B ms.length c2).toArray, .int .u8 which, .int .u8 bits] w fun e w' => e = .returned (.bool true) ∧ Below w.heap.size w w' := by
 have hgr4 := gat_row hA
 have hmr7 := mar_row hB
 have hs : SceneAt w A B gs ms := ⟨hA, hB, hk, hglob⟩
 obtain ⟨s, rfl⟩ := Int.eq_ofNat_of_zero_le hbi.1
 have hs8 : s ≤ 255 := by omega
 refine x_calls (X := XNone) Tryz.func7 rfl rfl rfl ?_
 with_reducible ((repeat refine xc_seq ?_); refine xcR ?_)
 refine xo_box rfl rfl rfl rfl (fun b3 => ?_)
 refine xo_asg rfl rfl rfl ?_
 with_reducible (refine xo_nil ?_; (repeat (first | refine xqT ?_ | refine xqB ?_ | refine xqS ?_)); (repeat refine xc_seq ?_); refine xcR ?_)
 refine xo_callB (fs := []) (cs := []) rfl rfl rfl alive_enters rfl (fun w1 hw1 => alive_calls w1 (hglob.below hw1.kx.below)) ?_
 refine xo_asg rfl rfl rfl ?_
 with_reducible (refine xo_nil ?_; (repeat (first | refine xqT ?_ | refine xqB ?_ | refine xqS ?_)); (repeat refine xc_seq ?_); refine xcR ?_)
 refine xo_mv rfl rfl rfl ?_
 refine xo_notOp rfl rfl rfl ?_
 with_reducible (refine xo_nil ?_; (repeat (first | refine xqT ?_ | refine xqB ?_ | refine xqS ?_)); (repeat refine xc_seq ?_))
 refine xc_condF rfl ?_
 with_reducible (refine xc_skip ?_; (repeat (first | refine xqT ?_ | refine xqB ?_ | refine xqS ?_)))
 cases hsc : sceneF R E gs ms
 · with_reducible repeat refine xc_seq ?_
   with_reducible refine xcR ?_
   refine xo_loadN T_ rfl rfl rfl (by repeat first | exact memH | apply memT | apply memA) rfl rfl ?_
   refine xo_callB (fs := []) (cs := []) rfl rfl rfl ready_enters rfl (fun w1 hw1 => ready_calls R E A B c c2 gs ms w1 (hgr4.below hw1.kx.below) (hmr7.below hw1.kx.below)) ?_
   refine xo_as (i := 27) rfl (congrArg Value.bool hsc) ?_
   refine xo_notOp rfl rfl rfl ?_
   with_reducible (refine xo_nil ?_; (repeat (first | refine xqT ?_ | refine xqB ?_ | refine xqS ?_)); (repeat refine xc_seq ?_))
   refine xc_condT rfl ?_
   with_reducible ((repeat refine xc_seq ?_); refine xcR ?_)
   refine xo_mv rfl rfl rfl ?_
   refine xo_asg rfl rfl rfl ?_
   with_reducible (refine xo_nil ?_; (repeat (first | refine xqT ?_ | refine xqB ?_ | refine xqS ?_)); (repeat refine xc_seq ?_); refine xc_ret ?_; (repeat (first | refine xq_thenR ?_ | refine xq_blockR ?_ | refine xq_scopeR ?_)))
   exact xq_ret1 rfl rfl fun w' hw => ⟨rfl, hw.kx.below⟩
 obtain ⟨hR6, hE6, hG, hm8, hmk⟩ := sceneF_ok hsc
 have hg6 := hG.len
 with_reducible ((repeat refine xc_seq ?_); refine xcR ?_)
 refine xo_loadN T_ rfl rfl rfl (by repeat first | exact memH | apply memT | apply memA) rfl rfl ?_
 refine xo_callB (fs := []) (cs := []) rfl rfl rfl ready_enters rfl (fun w1 hw1 => ready_calls R E A B c c2 gs ms w1 (hgr4.below hw1.kx.below) (hmr7.below hw1.kx.below)) ?_
 refine xo_as (i := 27) rfl (congrArg Value.bool hsc) ?_
 refine xo_notOp rfl rfl rfl ?_
 with_reducible (refine xo_nil ?_; (repeat (first | refine xqT ?_ | refine xqB ?_ | refine xqS ?_)); (repeat refine xc_seq ?_))
 refine xc_condF rfl ?_
 with_reducible (refine xc_skip ?_; (repeat (first | refine xqT ?_ | refine xqB ?_ | refine xqS ?_)))
 have hrm : 0 ≤ which % R ∧ which % R < R := ⟨Int.emod_nonneg _ (by omega), Int.emod_lt_of_pos _ (by omega)⟩
 have hrOK : roomOK R (which % R) = true := inF_iff.2 ⟨hrm.1, by omega⟩
 with_reducible ((repeat refine xc_seq ?_); refine xcR ?_)
 refine xo_mv rfl rfl rfl ?_
 refine xo_conv T_ rfl rfl rfl rfl (IntWalk.i64_in _ ⟨by omega, by omega⟩) rfl ?_
 refine xo_fa T_ rfl rfl rfl rfl rfl ?_
 refine xo_load0 T_ rfl rfl rfl (by repeat first | exact memH | apply memT | apply memA) rfl rfl ?_
 refine xo_rem rfl rfl rfl (by omega) (by omega) rfl ?_
 refine xo_alloc T_ rfl rfl rfl rfl (fun b8 => ?_)
 refine xo_store T_ rfl rfl rfl rfl (by repeat first | exact memH | apply memT | apply memA) rfl rfl rfl rfl (by repeat (first | exact Upd.head | apply Upd.tail | apply Upd.app)) rfl ?_
 with_reducible (refine xo_nil ?_; (repeat (first | refine xqT ?_ | refine xqB ?_ | refine xqS ?_)))
 generalize which % R = room at hrm hrOK
 with_reducible ((repeat refine xc_seq ?_); refine xcR ?_)
 refine xo_loadN T_ rfl rfl rfl (by repeat first | exact memH | apply memT | apply memA) rfl rfl ?_
 refine xo_load0 T_ rfl rfl rfl (by repeat first | exact memH | apply memT | apply memA) rfl rfl ?_
 refine xo_call (fs := []) (cs := []) rfl rfl rfl Why_enters rfl (fun w1 hw1 => (Why_calls R E A B c c2 gs ms room w1 (hs.below hw1.kx.below)).mono ?_)
 rintro e w2 ⟨r9, rfl, hrw, hb⟩
 have hh9 := hrw.1
 have hcap : ∀ p, r9 = some p → (whyL R E gs ms room).length ≤ p.2 := fun p hp => by obtain ⟨_, o, _, cur, _, h5, _⟩ := hrw.2 p hp; exact h5
 refine ⟨_, _, rfl, hw1.row hb hrw, ?_⟩
 clear hrw hb hw1
 refine xo_mv rfl rfl rfl ?_
 refine xo_ext rfl rfl rfl rfl ?_
 refine xo_ext rfl rfl rfl rfl ?_
 refine xo_asg rfl rfl rfl ?_
 refine xo_asg rfl rfl rfl ?_
 with_reducible (refine xo_nil ?_; (repeat (first | refine xqT ?_ | refine xqB ?_ | refine xqS ?_)))
 have hh9 : r9 = none → (whyL R E gs ms room).length = 0 := fun q => by rw [hh9 q]; rfl
 have hwc : whyC R E gs ms room = if canF E R.toNat gs room.toNat ms = true then 8 else 0 := by rw [whyC, if_pos hsc, if_pos hrOK]
 cases hcan : canF E R.toNat gs room.toNat ms
 rotate_left
 · rw [hcan, if_pos rfl] at hwc
   have hl0 : whyL R E gs ms room = [] := by rw [whyL, if_neg (by rw [hwc]; decide)]
   rw [hl0] at hh9 ⊢
   rw [hwc]
   refine xc_slots [(6, .bool false), (7, .bool true), (9, .slice (valA r9) ([] : List Int).length (valC r9)), (10, .int .i64 8)] ⟨rfl, rfl, congrArg some (valR_eq hh9), rfl, trivial⟩ ?_
   with_reducible ((repeat refine xc_seq ?_); refine xcR ?_)
   refine xo_mv rfl rfl rfl ?_
   refine xo_neq rfl rfl rfl rfl ?_
   with_reducible (refine xo_nil ?_; (repeat (first | refine xqT ?_ | refine xqB ?_ | refine xqS ?_)); (repeat refine xc_seq ?_))
   refine xc_condT rfl ?_
   with_reducible ((repeat refine xc_seq ?_); refine xcR ?_)
   refine xo_mv rfl rfl rfl ?_
   refine xo_mv rfl rfl rfl ?_
   (first | refine xo_not rfl rfl ?_ | (refine xo_mv rfl rfl rfl ?_))
   (first | refine xo_not rfl rfl ?_ | (refine xo_eql rfl rfl rfl rfl ?_))
   first | refine xo_pickT rfl rfl rfl rfl ?_ | refine xo_pickF rfl rfl rfl rfl ?_
   refine xo_mv rfl rfl rfl ?_
   (first | refine xo_not rfl rfl ?_ | (refine xo_mv rfl rfl rfl ?_))
   (first | refine xo_not rfl rfl ?_ | (refine xo_len T_ rfl rfl rfl rfl ?_))
   (first | refine xo_not rfl rfl ?_ | (refine xo_eql rfl rfl rfl rfl ?_))
   first | refine xo_pickT rfl rfl rfl rfl ?_ | refine xo_pickF rfl rfl rfl rfl ?_
   refine xo_asg rfl rfl rfl ?_
   with_reducible (refine xo_nil ?_; (repeat (first | refine xqT ?_ | refine xqB ?_ | refine xqS ?_)); (repeat refine xc_seq ?_); refine xc_ret ?_; (repeat (first | refine xq_thenR ?_ | refine xq_blockR ?_ | refine xq_scopeR ?_)))
   exact xq_ret1 rfl rfl fun w' hw => ⟨rfl, hw.kx.below⟩
 rw [hcan, if_neg Bool.false_ne_true] at hwc
 obtain ⟨q, hq, hpq, hfl, hmin, hfirst⟩ := fewest_first (p := fun l => !canF E R.toNat gs room.toNat l) (ms := ms) (by simp [hcan])
 have hL : whyL R E gs ms room = idsL q := by rw [whyL, if_pos hwc, hfl]
 have hqn : (idsL q).length ≠ 0 := fun h => by
   rw [idsL, List.length_map] at h
   rw [List.eq_nil_of_length_eq_zero h, can_empty hsc] at hpq
   cases hpq
 have hqd : decide (((idsL q).length : Int) = 0) = false := decide_eq_false (by omega)
 have hq8 : (idsL q).length ≤ 8 := by rw [idsL, List.length_map]; have := hq.length_le; omega
 rw [hL] at hh9 hcap ⊢
 rw [hwc]
 rcases r9 with _ | ⟨rb, rcap⟩
 · exact absurd (hh9 rfl) hqn
 have hcap : (idsL q).length ≤ rcap := hcap _ rfl
 refine xc_slots [(2, .int .u8 (s : Int)), (3, .pointer (some ⟨b3, 0, none⟩)), (6, .bool false), (7, .bool true), (8, .pointer (some ⟨b8, 0, none⟩)), (9, .slice (some ⟨rb, 0, none⟩) (idsL q).length rcap), (10, .int .i64 0)] ⟨rfl, rfl, rfl, rfl, rfl, rfl, rfl, trivial⟩ ?_
 refine xc_sub (η' := [(rb, true, orow 3 1 (idsL q).length rcap ((idsL q).map (.int .i64))), (b8, true, cel [.int .i64 room] 3), (b3, true, cel (scnV R A gs.length c E B ms.length c2) 25)]) (List.Sublist.refl _) ?_
 with_reducible ((repeat refine xc_seq ?_); refine xcR ?_)
 refine xo_mv rfl rfl rfl ?_
 refine xo_neq rfl rfl rfl rfl ?_
 with_reducible (refine xo_nil ?_; (repeat (first | refine xqT ?_ | refine xqB ?_ | refine xqS ?_)); (repeat refine xc_seq ?_))
 refine xc_condF rfl ?_
 with_reducible (refine xc_skip ?_; (repeat (first | refine xqT ?_ | refine xqB ?_ | refine xqS ?_)); (repeat refine xc_seq ?_); refine xcR ?_)
 refine xo_mkf rfl rfl rfl rfl ?_
 refine xo_asg rfl rfl rfl ?_
 with_reducible (refine xo_nil ?_; (repeat (first | refine xqT ?_ | refine xqB ?_ | refine xqS ?_)))
 have hpq' : (!canF E R.toNat gs room.toNat q) = true := hpq
 with_reducible ((repeat refine xc_seq ?_); refine xcR ?_)
 refine xo_mv rfl rfl rfl ?_
 refine xo_mv rfl rfl rfl ?_
 refine xo_callB (fs := []) (cs := [.pointer (some ⟨b3, 0, none⟩), .pointer (some ⟨b8, 0, none⟩)]) rfl rfl rfl excl_enters rfl (fun w1 hw1 => excl_calls R E A B (some ⟨rb, 0, none⟩) c c2 rcap b3 b8 gs ms q room w1 (hs.below hw1.kx.below) hsc hrOK hq (hw1.ro (wr := true) (cs := scnV R A gs.length c E B ms.length c2) (t := 25) (by repeat first | exact memH | apply memT | apply memA)) (hw1.ro (wr := true) (cs := [.int .i64 room]) (t := 3) (by repeat first | exact memH | apply memT | apply memA)) (intsAt_row (r := some (rb, rcap)) (hw1.bl_of fun e he => by rw [List.mem_singleton.1 he]; exact List.Mem.head _) (fun q => by cases q))) ?_
 refine xo_mv rfl rfl rfl ?_
 refine xo_ext rfl rfl rfl rfl ?_
 refine xo_ext rfl rfl rfl rfl ?_
 refine xo_asg rfl rfl rfl ?_
 refine xo_asg rfl rfl rfl ?_
 with_reducible (refine xo_nil ?_; (repeat (first | refine xqT ?_ | refine xqB ?_ | refine xqS ?_)))
 refine xc_slots [(2, .int .u8 (s : Int)), (3, .pointer (some ⟨b3, 0, none⟩)), (6, .bool false), (7, .bool true), (8, .pointer (some ⟨b8, 0, none⟩)), (9, .slice (some ⟨rb, 0, none⟩) (idsL q).length rcap), (11, .func (.func 31) #[] #[.pointer (some ⟨b3, 0, none⟩), .pointer (some ⟨b8, 0, none⟩)]), (12, .bool true), (13, .bool true)] ⟨rfl, rfl, rfl, rfl, rfl, rfl, rfl, congrArg (fun b => some (Value.bool b)) hpq', rfl, trivial⟩ ?_
 with_reducible ((repeat refine xc_seq ?_); refine xcR ?_)
 refine xo_mv rfl rfl rfl ?_
 refine xo_notOp rfl rfl rfl ?_
 refine xo_mv rfl rfl rfl ?_
 (first | refine xo_not rfl rfl ?_ | (refine xo_mv rfl rfl rfl ?_))
 (first | refine xo_not rfl rfl ?_ | (refine xo_notOp rfl rfl rfl ?_))
 first | refine xo_pickT rfl rfl rfl rfl ?_ | refine xo_pickF rfl rfl rfl rfl ?_
 refine xo_mv rfl rfl rfl ?_
 (first | refine xo_not rfl rfl ?_ | (refine xo_mv rfl rfl rfl ?_))
 (first | refine xo_not rfl rfl ?_ | (refine xo_len T_ rfl rfl rfl rfl ?_))
 (first | refine xo_not rfl rfl ?_ | (refine xo_eql rfl rfl rfl rfl ?_))
 refine xo_as (i := 69) rfl (congrArg Value.bool hqd) ?_
 first | refine xo_pickT rfl rfl rfl rfl ?_ | refine xo_pickF rfl rfl rfl rfl ?_
 with_reducible (refine xo_nil ?_; (repeat (first | refine xqT ?_ | refine xqB ?_ | refine xqS ?_)); (repeat refine xc_seq ?_))
 refine xc_condF rfl ?_
 with_reducible (refine xc_skip ?_; (repeat (first | refine xqT ?_ | refine xqB ?_ | refine xqS ?_)); (repeat refine xc_seq ?_); refine xcR ?_)
 refine xo_mv rfl rfl rfl ?_
 refine xo_len T_ rfl rfl rfl rfl ?_
 refine xo_mv rfl rfl rfl ?_
 with_reducible (refine xo_nil ?_; (repeat (first | refine xqT ?_ | refine xqB ?_ | refine xqS ?_)); (repeat refine xc_seq ?_); refine xc_block ?_)
 · refine xc_loop (γ := Nat) (fun k => k ≤ (idsL q).length) (fun k => [(2, .int .u8 (s : Int)), (3, .pointer (some ⟨b3, 0, none⟩)), (6, .bool false), (7, .bool true), (9, .slice (some ⟨rb, 0, none⟩) (idsL q).length rcap), (11, .func (.func 31) #[] #[.pointer (some ⟨b3, 0, none⟩), .pointer (some ⟨b8, 0, none⟩)]), (71, .slice (some ⟨rb, 0, none⟩) (idsL q).length rcap), (72, .int .i64 ((idsL q).length : Int)), (73, .int .i64 (k : Int))])
     (fun _ => [(rb, true, orow 3 1 (idsL q).length rcap ((idsL q).map (.int .i64))), (b8, true, cel [.int .i64 room] 3), (b3, true, cel (scnV R A gs.length c E B ms.length c2) 25)]) (fun k => (idsL q).length - k) 0 (Nat.zero_le _) ⟨rfl, rfl, rfl, rfl, rfl, rfl, rfl, rfl, rfl, trivial⟩ (List.Sublist.refl _) ?_
   intro k hkl
   with_reducible ((repeat refine xc_seq ?_); refine xcR ?_)
   refine xo_lss rfl rfl rfl rfl ?_
   with_reducible (refine xo_nil ?_; (repeat (first | refine xqT ?_ | refine xqB ?_ | refine xqS ?_)); (repeat refine xc_seq ?_))
   refine xc_cond rfl (fun h => ?_) (fun h => ?_)
   · have hlt : k < (idsL q).length := by have := of_decide_eq_true h; omega
     have hkq : k < q.length := by rw [idsL, List.length_map] at hlt; exact hlt
     have hno : (!canF E R.toNat gs room.toNat (q.eraseIdx k)) = false := hmin k hkq
     with_reducible (refine xc_skip ?_; (repeat (first | refine xqT ?_ | refine xqB ?_ | refine xqS ?_)); (repeat refine xc_seq ?_); refine xc_block ?_; (repeat refine xc_seq ?_); refine xcR ?_)
     refine xo_mv rfl rfl rfl ?_
     refine xo_asg rfl rfl rfl ?_
     with_reducible (refine xo_nil ?_; (repeat (first | refine xqT ?_ | refine xqB ?_ | refine xqS ?_)))
     refine xc_slots [(2, .int .u8 (s : Int)), (3, .pointer (some ⟨b3, 0, none⟩)), (6, .bool false), (7, .bool true), (9, .slice (some ⟨rb, 0, none⟩) (idsL q).length rcap), (11, .func (.func 31) #[] #[.pointer (some ⟨b3, 0, none⟩), .pointer (some ⟨b8, 0, none⟩)]), (14, .int .i64 (k : Int)), (71, .slice (some ⟨rb, 0, none⟩) (idsL q).length rcap), (72, .int .i64 ((idsL q).length : Int)), (73, .int .i64 (k : Int))] ⟨rfl, rfl, rfl, rfl, rfl, rfl, rfl, rfl, rfl, rfl, trivial⟩ ?_
     with_reducible (repeat refine xc_seq ?_)
     apply xc_drawE (fun g => [(1, .slice (some ⟨(g.getD 0 gv0).b, 0, none⟩) 0 0), (5, .slice (some ⟨(g.getD 1 gv0).b, 0, none⟩) (0 + k) (g.getD 1 gv0).c), (10, .slice (some ⟨(g.getD 2 gv0).b, 0, none⟩) (0 + k + ((idsL q).length - (k + 1))) (g.getD 2 gv0).c)]) (fun (η0 : Hp) g => match g with | [] => (η0) | a0 :: [] => ((a0.b, true, orow 3 1 0 0 []) :: η0) | a0 :: a1 :: [] => ((a1.b, true, orow 3 1 (0 + k) a1.c ([] ++ ((idsL q).take k).map (.int .i64))) :: η0) | a0 :: a1 :: a2 :: [] => ((a2.b, true, orow 3 1 (0 + k + ((idsL q).length - (k + 1))) a2.c (([] ++ ((idsL q).take k).map (.int .i64)) ++ ((idsL q).drop (k + 1)).map (.int .i64))) :: η0) | a0 :: a1 :: a2 :: a3 :: _ => ((a2.b, true, orow 3 1 (0 + k + ((idsL q).length - (k + 1))) a2.c (([] ++ ((idsL q).take k).map (.int .i64)) ++ ((idsL q).drop (k + 1)).map (.int .i64))) :: η0)) (fun _ => True) [0, 1, 0, 0, 0, 2, 0, 0, 0, 0, 3, 4, 4, 4, 4, 4, 4] [1, 5, 10, 11] [[], [1, 4], [5, 9, 5], [0, 10, 10]] (by trivial)
     apply SameLen.cons
     apply SameLen.cons (c := undef)
     apply SameLen.cons
     apply SameLen.cons
     apply SameLen.cons
     apply SameLen.cons (c := undef)
     apply SameLen.cons
     apply SameLen.cons
     apply SameLen.cons
     apply SameLen.cons
     apply SameLen.cons (c := undef)
     apply SameLen.cons
     apply SameLen.cons
     apply SameLen.cons
     apply SameLen.cons
     apply SameLen.cons
     apply SameLen.cons
     exact SameLen.nil
     rotate_left 14
     case hH0 => rfl
     case hmix => exact T_.mixed
     case hbind => rfl
     case hdeps => rfl
     case hdist => rfl
     case hfresh => rfl
     case hE => rfl
     case hEn => decide
     · refine DrawE.pure 0 3 rfl (.inr (by decide)) (fun L g hg hd => Nat.zero_le _) (fun g hlo hhi hF τ => ?_) ?_
       · rcases g with _ | ⟨a0, _ | ⟨a1, _ | ⟨a2, _ | ⟨a3, _ | ⟨a4, g⟩⟩⟩⟩⟩ <;> first | (simp only [lenC, lenN] at hlo hhi; omega) | (refine ⟨_, rfl, ?_⟩; refine xo_mv rfl rfl rfl ?_; exact xo_fin rfl)
       refine DrawE.eff 0 rfl (by decide) rfl (fun j hj => hj) (fun j g a hj => ?_) (fun L g hg hd => Nat.zero_le _) (fun g hgl hF τ => ?_) ?_
       · rcases j with _ | _ | _ | _ | _ | _ | _ | _ | _ | _ | _ | _ | _ | _ | _ | _ | _ | j
         all_goals first | rfl | (rcases g with _ | ⟨a0, _ | ⟨a1, _ | ⟨a2, _ | ⟨a3, _ | ⟨a4, g⟩⟩⟩⟩⟩ <;> first | rfl | exact absurd hj (by decide) | exact absurd hj (by simp [List.getD]))
       · obtain rfl : g = [] := by
           rcases g with _ | ⟨a0, g⟩ <;> first | rfl | (exfalso; simp only [List.length_cons, List.length_nil] at hgl; omega)
         refine xo_bs0 T_ 1 rfl rfl rfl rfl (fun b99 => ?_)
         exact xo_finE ⟨b99, 0, none⟩ rfl trivial
       refine DrawE.pure 0 4 rfl (.inl rfl) (fun L g hg hd => Nat.zero_le _) (fun g hlo hhi hF τ => ?_) ?_
       · rcases g with _ | ⟨a0, _ | ⟨a1, _ | ⟨a2, _ | ⟨a3, _ | ⟨a4, g⟩⟩⟩⟩⟩ <;> first | (simp only [lenC, lenN] at hlo hhi; omega) | (refine ⟨_, rfl, ?_⟩; refine xo_mv rfl rfl rfl ?_; exact xo_fin rfl)
       refine DrawE.pure 0 4 rfl (.inl rfl) (fun L g hg hd => Nat.zero_le _) (fun g hlo hhi hF τ => ?_) ?_
       · rcases g with _ | ⟨a0, _ | ⟨a1, _ | ⟨a2, _ | ⟨a3, _ | ⟨a4, g⟩⟩⟩⟩⟩ <;> first | (simp only [lenC, lenN] at hlo hhi; omega) | (refine ⟨_, rfl, ?_⟩; refine xo_mv rfl rfl rfl ?_; exact xo_fin rfl)
       refine DrawE.pure 0 1 rfl (.inr (by decide)) (fun L g hg hd => Nat.zero_le _) (fun g hlo hhi hF τ => ?_) ?_
       · rcases g with _ | ⟨a0, _ | ⟨a1, _ | ⟨a2, _ | ⟨a3, _ | ⟨a4, g⟩⟩⟩⟩⟩ <;> first | (simp only [lenC, lenN] at hlo hhi; omega) | (refine ⟨_, rfl, ?_⟩; refine xo_sliceHi T_ rfl rfl rfl rfl rfl (by omega) rfl ?_; exact xo_fin rfl)
       refine DrawE.eff 1 rfl (by decide) rfl (fun j hj => hj) (fun j g a hj => ?_) (fun L g hg hd => hg.2.1 1 (hd 1 (by decide))) (fun g hgl hF τ => ?_) ?_
       · rcases j with _ | _ | _ | _ | _ | _ | _ | _ | _ | _ | _ | _ | _ | _ | _ | _ | _ | j
         all_goals first | rfl | (rcases g with _ | ⟨a0, _ | ⟨a1, _ | ⟨a2, _ | ⟨a3, _ | ⟨a4, g⟩⟩⟩⟩⟩ <;> first | rfl | exact absurd hj (by decide) | exact absurd hj (by simp [List.getD]))
       · obtain ⟨a0, rfl⟩ : ∃ a0, g = [a0] := by
           rcases g with _ | ⟨a0, _ | ⟨a1, _ | ⟨a2, _ | ⟨a3, _ | ⟨a4, g⟩⟩⟩⟩⟩ <;> first | exact ⟨_, rfl⟩ | rfl | (exfalso; simp only [List.length_cons, List.length_nil] at hgl; omega)
         refine xo_appN TR_ (r := some (a0.b, 0)) (m := 0) (xs := []) (news := ((idsL q).take k).map (.int .i64)) (η0 := [(rb, true, orow 3 1 (idsL q).length rcap ((idsL q).map (.int .i64))), (b8, true, cel [.int .i64 room] 3), (b3, true, cel (scnV R A gs.length c E B ms.length c2) 25)]) rfl rfl rfl rfl rfl rfl rfl rfl rfl (by rw [List.length_map, List.length_take]; omega) (fun h => by cases h) (fun p hp w1 hw1 j u hj => ?_) (fun u hu => by obtain ⟨x, _, rfl⟩ := List.mem_map.1 hu; rfl) (fun h => by cases h) (by omega) rfl rfl (fun r99 hr99 => ?_)
         · obtain rfl := Option.some.inj hp
           rw [Addr.add_lit, Nat.zero_add]
           refine row_cells (hw1.bl_of fun e he => by rw [List.mem_singleton.1 he]; exact List.Mem.tail _ (List.Mem.head _)) ?_
           rw [List.map_take] at hj
           rw [List.getElem?_take] at hj
           split at hj
           · exact hj
           · cases hj
         rcases r99 with _ | ⟨b99, k99⟩
         · exact absurd (hr99 rfl).1 (by simp)
         exact xo_finE ⟨b99, k99, none⟩ rfl trivial
       refine DrawE.pure 0 4 rfl (.inl rfl) (fun L g hg hd => Nat.zero_le _) (fun g hlo hhi hF τ => ?_) ?_
       · rcases g with _ | ⟨a0, _ | ⟨a1, _ | ⟨a2, _ | ⟨a3, _ | ⟨a4, g⟩⟩⟩⟩⟩ <;> first | (simp only [lenC, lenN] at hlo hhi; omega) | (refine ⟨_, rfl, ?_⟩; refine xo_mv rfl rfl rfl ?_; exact xo_fin rfl)
       refine DrawE.pure 0 4 rfl (.inl rfl) (fun L g hg hd => Nat.zero_le _) (fun g hlo hhi hF τ => ?_) ?_
       · rcases g with _ | ⟨a0, _ | ⟨a1, _ | ⟨a2, _ | ⟨a3, _ | ⟨a4, g⟩⟩⟩⟩⟩ <;> first | (simp only [lenC, lenN] at hlo hhi; omega) | (refine ⟨_, rfl, ?_⟩; refine xo_mv rfl rfl rfl ?_; exact xo_fin rfl)
       refine DrawE.pure 0 4 rfl (.inl rfl) (fun L g hg hd => Nat.zero_le _) (fun g hlo hhi hF τ => ?_) ?_
       · rcases g with _ | ⟨a0, _ | ⟨a1, _ | ⟨a2, _ | ⟨a3, _ | ⟨a4, g⟩⟩⟩⟩⟩ <;> first | (simp only [lenC, lenN] at hlo hhi; omega) | (refine ⟨_, rfl, ?_⟩; refine xo_add rfl rfl rfl (by omega) rfl ?_; exact xo_fin rfl)
       refine DrawE.pure 0 2 rfl (.inr (by decide)) (fun L g hg hd => Nat.zero_le _) (fun g hlo hhi hF τ => ?_) ?_
       · rcases g with _ | ⟨a0, _ | ⟨a1, _ | ⟨a2, _ | ⟨a3, _ | ⟨a4, g⟩⟩⟩⟩⟩ <;> first | (simp only [lenC, lenN] at hlo hhi; omega) | (refine ⟨_, rfl, ?_⟩; refine xo_sliceLoE T_ (i := k + 1) rfl rfl rfl rfl rfl (by omega) rfl ?_; exact xo_fin rfl)
       refine DrawE.eff 2 rfl (by decide) rfl (fun j hj => hj) (fun j g a hj => ?_) (fun L g hg hd => hg.2.1 5 (hd 5 (by decide))) (fun g hgl hF τ => ?_) ?_
       · rcases j with _ | _ | _ | _ | _ | _ | _ | _ | _ | _ | _ | _ | _ | _ | _ | _ | _ | j
         all_goals first | rfl | (rcases g with _ | ⟨a0, _ | ⟨a1, _ | ⟨a2, _ | ⟨a3, _ | ⟨a4, g⟩⟩⟩⟩⟩ <;> first | rfl | exact absurd hj (by decide) | exact absurd hj (by simp [List.getD]))
       · obtain ⟨a0, a1, rfl⟩ : ∃ a0 a1, g = [a0, a1] := by
           rcases g with _ | ⟨a0, _ | ⟨a1, _ | ⟨a2, _ | ⟨a3, _ | ⟨a4, g⟩⟩⟩⟩⟩ <;> first | exact ⟨_, _, rfl⟩ | rfl | (exfalso; simp only [List.length_cons, List.length_nil] at hgl; omega)
         refine xo_appN TR_ (r := some (a1.b, a1.c)) (m := 0 + k) (xs := [] ++ ((idsL q).take k).map (.int .i64)) (news := ((idsL q).drop (k + 1)).map (.int .i64)) (η0 := [(rb, true, orow 3 1 (idsL q).length rcap ((idsL q).map (.int .i64))), (b8, true, cel [.int .i64 room] 3), (b3, true, cel (scnV R A gs.length c E B ms.length c2) 25)]) rfl rfl rfl rfl rfl rfl rfl rfl (by rw [List.nil_append, List.length_map, List.length_take]; omega) (by rw [List.length_map, List.length_drop]; omega) (fun h => by cases h) (fun p hp w1 hw1 j u hj => ?_) (fun u hu => by obtain ⟨x, _, rfl⟩ := List.mem_map.1 hu; rfl) (fun h => by cases h) (by omega) rfl rfl (fun r99 hr99 => ?_)
         · obtain rfl := Option.some.inj hp
           have hjl := (List.getElem?_eq_some_iff.1 hj).1
           rw [List.length_map, List.length_drop] at hjl
           rw [fromB, if_neg (by omega), Addr.add_lit]
           refine row_cells (hw1.bl_of fun e he => by rw [List.mem_singleton.1 he]; exact List.Mem.tail _ (List.Mem.head _)) ?_
           rw [List.map_drop, List.getElem?_drop] at hj
           exact hj
         rcases r99 with _ | ⟨b99, k99⟩
         · exact absurd (hr99 rfl).1 (by simp)
         exact xo_finE ⟨b99, k99, none⟩ rfl trivial
       refine DrawE.eff 3 rfl (by decide) rfl (fun j hj => hj) (fun j g a hj => ?_) (fun L g hg hd => hg.2.1 10 (hd 10 (by decide))) (fun g hgl hF τ => ?_) ?_
       · rcases j with _ | _ | _ | _ | _ | _ | _ | _ | _ | _ | _ | _ | _ | _ | _ | _ | _ | j
         all_goals first | rfl | (rcases g with _ | ⟨a0, _ | ⟨a1, _ | ⟨a2, _ | ⟨a3, _ | ⟨a4, g⟩⟩⟩⟩⟩ <;> first | rfl | exact absurd hj (by decide) | exact absurd hj (by simp [List.getD]))
       · obtain ⟨a0, a1, a2, rfl⟩ : ∃ a0 a1 a2, g = [a0, a1, a2] := by
           rcases g with _ | ⟨a0, _ | ⟨a1, _ | ⟨a2, _ | ⟨a3, _ | ⟨a4, g⟩⟩⟩⟩⟩ <;> first | exact ⟨_, _, _, rfl⟩ | rfl | (exfalso; simp only [List.length_cons, List.length_nil] at hgl; omega)
         refine xo_callB (fs := []) (cs := [.pointer (some ⟨b3, 0, none⟩), .pointer (some ⟨b8, 0, none⟩)]) rfl rfl rfl excl_enters rfl (fun w1 hw1 => excl_less R E A B c c2 a2.b a2.c b3 b8 k gs ms q room w1 (hs.below hw1.kx.below) hsc hrOK hq hlt (hw1.ro (wr := true) (cs := scnV R A gs.length c E B ms.length c2) (t := 25) (by repeat first | exact memH | apply memT | apply memA)) (hw1.ro (wr := true) (cs := [.int .i64 room]) (t := 3) (by repeat first | exact memH | apply memT | apply memA)) (hw1.bl_of fun e he => by rw [List.mem_singleton.1 he]; exact List.Mem.head _)) ?_
         rw [hno]
         exact xo_finE ⟨0, 0, none⟩ rfl trivial
       refine DrawE.pure 4 4 rfl (.inl rfl) (fun L g hg hd => hg.2.1 11 (hd 11 (by decide))) (fun g hlo hhi hF τ => ?_) ?_
       · rcases g with _ | ⟨a0, _ | ⟨a1, _ | ⟨a2, _ | ⟨a3, _ | ⟨a4, g⟩⟩⟩⟩⟩ <;> first | (simp only [lenC, lenN] at hlo hhi; omega) | (refine ⟨_, rfl, ?_⟩; refine xo_mv rfl rfl rfl ?_; exact xo_fin rfl)
       refine DrawE.pure 4 4 rfl (.inl rfl) (fun L g hg hd => hg.2.1 12 (hd 12 (by decide))) (fun g hlo hhi hF τ => ?_) ?_
       · rcases g with _ | ⟨a0, _ | ⟨a1, _ | ⟨a2, _ | ⟨a3, _ | ⟨a4, g⟩⟩⟩⟩⟩ <;> first | (simp only [lenC, lenN] at hlo hhi; omega) | (refine ⟨_, rfl, ?_⟩; refine xo_ext rfl rfl rfl rfl ?_; exact xo_fin rfl)
       refine DrawE.pure 4 4 rfl (.inl rfl) (fun L g hg hd => hg.2.1 12 (hd 12 (by decide))) (fun g hlo hhi hF τ => ?_) ?_
       · rcases g with _ | ⟨a0, _ | ⟨a1, _ | ⟨a2, _ | ⟨a3, _ | ⟨a4, g⟩⟩⟩⟩⟩ <;> first | (simp only [lenC, lenN] at hlo hhi; omega) | (refine ⟨_, rfl, ?_⟩; refine xo_ext rfl rfl rfl rfl ?_; exact xo_fin rfl)
       refine DrawE.pure 4 4 rfl (.inl rfl) (fun L g hg hd => hg.2.1 13 (hd 13 (by decide))) (fun g hlo hhi hF τ => ?_) ?_
       · rcases g with _ | ⟨a0, _ | ⟨a1, _ | ⟨a2, _ | ⟨a3, _ | ⟨a4, g⟩⟩⟩⟩⟩ <;> first | (simp only [lenC, lenN] at hlo hhi; omega) | (refine ⟨_, rfl, ?_⟩; refine xo_asg rfl rfl rfl ?_; exact xo_fin rfl)
       refine DrawE.pure 4 4 rfl (.inl rfl) (fun L g hg hd => hg.2.1 14 (hd 14 (by decide))) (fun g hlo hhi hF τ => ?_) ?_
       · rcases g with _ | ⟨a0, _ | ⟨a1, _ | ⟨a2, _ | ⟨a3, _ | ⟨a4, g⟩⟩⟩⟩⟩ <;> first | (simp only [lenC, lenN] at hlo hhi; omega) | (refine ⟨_, rfl, ?_⟩; refine xo_asg rfl rfl rfl ?_; exact xo_fin rfl)
       exact DrawE.nil
     intro g hgl hF
     obtain ⟨a0, a1, a2, a3, rfl⟩ : ∃ a0 a1 a2 a3, g = [a0, a1, a2, a3] := by
       rcases g with _ | ⟨a0, _ | ⟨a1, _ | ⟨a2, _ | ⟨a3, _ | ⟨a4, g⟩⟩⟩⟩⟩ <;> first | exact ⟨_, _, _, _, rfl⟩ | (exfalso; simp only [List.length_cons, List.length_nil] at hgl; omega)
     with_reducible (repeat (first | refine xqT ?_ | refine xqB ?_ | refine xqS ?_))
     refine xc_slots [(2, .int .u8 (s : Int)), (3, .pointer (some ⟨b3, 0, none⟩)), (6, .bool false), (7, .bool true), (9, .slice (some ⟨rb, 0, none⟩) (idsL q).length rcap), (11, .func (.func 31) #[] #[.pointer (some ⟨b3, 0, none⟩), .pointer (some ⟨b8, 0, none⟩)]), (15, .bool false), (16, .bool true), (71, .slice (some ⟨rb, 0, none⟩) (idsL q).length rcap), (72, .int .i64 ((idsL q).length : Int)), (73, .int .i64 (k : Int))] ⟨rfl, rfl, rfl, rfl, rfl, rfl, rfl, rfl, rfl, rfl, rfl, trivial⟩ ?_
     with_reducible ((repeat refine xc_seq ?_); refine xcR ?_)
     refine xo_mv rfl rfl rfl ?_
     refine xo_mv rfl rfl rfl ?_
     (first | refine xo_not rfl rfl ?_ | (refine xo_mv rfl rfl rfl ?_))
     (first | refine xo_not rfl rfl ?_ | (refine xo_notOp rfl rfl rfl ?_))
     first | refine xo_pickT rfl rfl rfl rfl ?_ | refine xo_pickF rfl rfl rfl rfl ?_
     with_reducible (refine xo_nil ?_; (repeat (first | refine xqT ?_ | refine xqB ?_ | refine xqS ?_)); (repeat refine xc_seq ?_))
     refine xc_condF rfl ?_
     with_reducible (refine xc_skip ?_; (repeat (first | refine xqT ?_ | refine xqB ?_ | refine xqS ?_)); (repeat refine xc_seq ?_); refine xcR ?_)
     refine xo_add rfl rfl rfl (by omega) rfl ?_
     refine xo_mv rfl rfl rfl ?_
     with_reducible (refine xo_nil ?_; (repeat (first | refine xqT ?_ | refine xqB ?_ | refine xqS ?_)))
     exact xq_again _ _ _ _ _ (k + 1) hlt (by omega) ⟨rfl, rfl, rfl, rfl, rfl, rfl, rfl, rfl, rfl, trivial⟩ (by repeat (first | exact List.Sublist.refl _ | refine List.Sublist.trans ?_ (List.sublist_cons_self _ _)))
   · with_reducible refine xc_exit ?_
     with_reducible ((repeat (first | refine xq_blockX ?_ | refine xq_thenE ?_ | refine xq_blockE rfl ?_ | refine xq_scopeE ?_)); (repeat (first | refine xqT ?_ | refine xqB ?_ | refine xqS ?_)); (repeat refine xc_seq ?_); refine xcR ?_)
     refine xo_asg rfl rfl rfl ?_
     with_reducible (refine xo_nil ?_; (repeat (first | refine xqT ?_ | refine xqB ?_ | refine xqS ?_)); (repeat refine xc_seq ?_); refine xcR ?_)
     refine xo_fa T_ rfl rfl rfl rfl rfl ?_
     refine xo_load0 T_ rfl rfl rfl (by repeat first | exact memH | apply memT | apply memA) rfl rfl ?_
     refine xo_len T_ rfl rfl rfl rfl ?_
     refine xo_mv rfl rfl rfl ?_
     with_reducible (refine xo_nil ?_; (repeat (first | refine xqT ?_ | refine xqB ?_ | refine xqS ?_)); (repeat refine xc_seq ?_); refine xc_block ?_)
     · refine xc_loop (γ := Nat × RowR) (fun u => u.1 ≤ ms.length ∧ (u.2 = none → (idsL (chosenL s ms u.1)).length = 0)) (fun u => [(2, .int .u8 (s : Int)), (3, .pointer (some ⟨b3, 0, none⟩)), (6, .bool false), (7, .bool true), (9, .slice (some ⟨rb, 0, none⟩) (idsL q).length rcap), (11, .func (.func 31) #[] #[.pointer (some ⟨b3, 0, none⟩), .pointer (some ⟨b8, 0, none⟩)]), (17, valR u.2 (idsL (chosenL s ms u.1)).length), (98, .slice B ms.length c2), (99, .int .i64 (ms.length : Int)), (100, .int .i64 (u.1 : Int))])
         (fun u => hpR 3 1 u.2 (idsL (chosenL s ms u.1)).length ((idsL (chosenL s ms u.1)).map (.int .i64)) ++ [(rb, true, orow 3 1 (idsL q).length rcap ((idsL q).map (.int .i64))), (b8, true, cel [.int .i64 room] 3), (b3, true, cel (scnV R A gs.length c E B ms.length c2) 25)]) (fun u => ms.length - u.1) (0, none) ⟨Nat.zero_le _, fun _ => rfl⟩ ⟨rfl, rfl, rfl, rfl, rfl, rfl, rfl, rfl, rfl, rfl, trivial⟩ (List.Sublist.refl _) ?_
       rintro ⟨k, rr⟩ ⟨hk2, hrr⟩
       simp only at hk2 hrr
       have hcl := chosenL_len s ms k
       with_reducible ((repeat refine xc_seq ?_); refine xcR ?_)
       refine xo_lss rfl rfl rfl rfl ?_
       with_reducible (refine xo_nil ?_; (repeat (first | refine xqT ?_ | refine xqB ?_ | refine xqS ?_)); (repeat refine xc_seq ?_))
       refine xc_cond rfl (fun h => ?_) (fun h => ?_)
       · have hlt : k < ms.length := by have := of_decide_eq_true h; omega
         obtain ⟨ad, rfl, hRm⟩ := hmr7 k hlt
         have hst : idsL (chosenL s ms (k + 1)) = if bitN s k = true then idsL (chosenL s ms k) ++ [(ms.getD k zMar).f0] else idsL (chosenL s ms k) := by
           rw [chosenL]
           split <;> simp [idsL]
         have hcl : (idsL (chosenL s ms k)).length ≤ k := by rw [idsL, List.length_map]; exact hcl
         generalize idsL (chosenL s ms k) = l at hrr hcl hst ⊢
         generalize ms.getD k zMar = m at hRm hst
         with_reducible (refine xc_skip ?_; (repeat (first | refine xqT ?_ | refine xqB ?_ | refine xqS ?_)); (repeat refine xc_seq ?_); refine xc_block ?_; (repeat refine xc_seq ?_); refine xcR ?_)
         refine xo_mv rfl rfl rfl ?_
         refine xo_ia T_ rfl rfl rfl rfl rfl ⟨by omega, by omega⟩ rfl ?_
         refine xo_loadRN T_ rfl rfl rfl hRm rfl rfl ?_
         refine xo_alloc T_ rfl rfl rfl rfl (fun b19 => ?_)
         refine xo_asg rfl rfl rfl ?_
         refine xo_store T_ rfl rfl rfl rfl (by repeat first | exact memH | apply memT | apply memA) rfl rfl rfl rfl (by repeat (first | exact Upd.head | apply Upd.tail | apply Upd.app)) rfl ?_
         with_reducible (refine xo_nil ?_; (repeat (first | refine xqT ?_ | refine xqB ?_ | refine xqS ?_)))
         cases hb : bitN s k
         · rw [hb, if_neg Bool.false_ne_true] at hst
           with_reducible ((repeat refine xc_seq ?_); refine xcR ?_)
           refine xo_mv rfl rfl rfl ?_
           refine xo_mv rfl rfl rfl ?_
           refine xo_shrB rfl rfl rfl (by omega) rfl ?_
           refine xo_andB rfl rfl rfl (Nat.lt_of_le_of_lt (Nat.div_le_self _ _) (by omega)) rfl ?_
           refine xo_eql rfl rfl rfl rfl ?_
           refine xo_as (i := 109) rfl (congrArg Value.bool hb) ?_
           with_reducible (refine xo_nil ?_; (repeat (first | refine xqT ?_ | refine xqB ?_ | refine xqS ?_)); (repeat refine xc_seq ?_))
           refine xc_condF rfl ?_
           with_reducible (refine xc_skip ?_; (repeat (first | refine xqT ?_ | refine xqB ?_ | refine xqS ?_)); (repeat refine xc_seq ?_); refine xcR ?_)
           refine xo_add rfl rfl rfl (by omega) rfl ?_
           refine xo_mv rfl rfl rfl ?_
           with_reducible (refine xo_nil ?_; (repeat (first | refine xqT ?_ | refine xqB ?_ | refine xqS ?_)))
           exact xq_again _ _ _ _ _ (k + 1, rr) ⟨hlt, fun u => by rw [hst]; exact hrr u⟩ (by simp only; omega) ⟨rfl, rfl, rfl, rfl, rfl, rfl, by rw [hst]; rfl, rfl, rfl, rfl, trivial⟩ (by rw [hst]; exact List.sublist_cons_self _ _)
         · rw [hb, if_pos rfl] at hst
           with_reducible ((repeat refine xc_seq ?_); refine xcR ?_)
           refine xo_mv rfl rfl rfl ?_
           refine xo_mv rfl rfl rfl ?_
           refine xo_shrB rfl rfl rfl (by omega) rfl ?_
           refine xo_andB rfl rfl rfl (Nat.lt_of_le_of_lt (Nat.div_le_self _ _) (by omega)) rfl ?_
           refine xo_eql rfl rfl rfl rfl ?_
           refine xo_as (i := 109) rfl (congrArg Value.bool hb) ?_
           with_reducible (refine xo_nil ?_; (repeat (first | refine xqT ?_ | refine xqB ?_ | refine xqS ?_)); (repeat refine xc_seq ?_))
           refine xc_condT rfl ?_
           with_reducible ((repeat refine xc_seq ?_); refine xcR ?_)
           refine xo_mv rfl rfl rfl ?_
           refine xo_fa T_ rfl rfl rfl rfl rfl ?_
           refine xo_load0 T_ rfl rfl rfl (by repeat first | exact memH | apply memT | apply memA) rfl rfl ?_
           refine xo_bs1 T_ rfl rfl rfl rfl rfl rfl rfl rfl (fun b113 => ?_)
           refine xo_less (η' := (b113, true, cel [.int .i64 m.f0] 3) :: (hpR 3 1 rr l.length (l.map (.int .i64)) ++ [(rb, true, orow 3 1 (idsL q).length rcap ((idsL q).map (.int .i64))), (b8, true, cel [.int .i64 room] 3), (b3, true, cel (scnV R A gs.length c E (some ad) ms.length c2) 25)])) (List.Sublist.cons_cons _ (List.sublist_cons_self _ _)) ?_
           refine xo_app TR_ rfl rfl rfl rfl rfl rfl rfl rfl (by rw [List.length_map, Nat.mul_one]) rfl rfl hrr (by omega) rfl rfl (fun r' hr' => ?_)
           refine xo_asg rfl rfl rfl ?_
           with_reducible (refine xo_nil ?_; (repeat (first | refine xqT ?_ | refine xqB ?_ | refine xqS ?_)); (repeat refine xc_seq ?_); refine xcR ?_)
           refine xo_add rfl rfl rfl (by omega) rfl ?_
           refine xo_mv rfl rfl rfl ?_
           with_reducible (refine xo_nil ?_; (repeat (first | refine xqT ?_ | refine xqB ?_ | refine xqS ?_)))
           exact xq_again _ _ _ _ _ (k + 1, r') ⟨hlt, fun u => absurd u hr'⟩ (by simp only; omega) ⟨rfl, rfl, rfl, rfl, rfl, rfl, by rw [hst, List.length_append]; rfl, rfl, rfl, rfl, trivial⟩ (by rw [hst, List.length_append, List.map_append]; exact List.Sublist.refl _)
       · have hge : k = ms.length := by have := of_decide_eq_false h; omega
         subst hge
         with_reducible (refine xc_exit ?_; (repeat (first | refine xq_blockX ?_ | refine xq_thenE ?_ | refine xq_blockE rfl ?_ | refine xq_scopeE ?_)); (repeat (first | refine xqT ?_ | refine xqB ?_ | refine xqS ?_)))
         have hS : List.Sublist (chosenL s ms ms.length) ms := by
           have := chosen_sub ms s ms.length (Nat.le_refl _)
           rwa [List.take_length] at this
         have hfS := hfirst _ hS
         generalize chosenL s ms ms.length = S at hrr hS hfS ⊢
         have hS8 : (idsL S).length ≤ 8 := by rw [idsL, List.length_map]; have := hS.length_le; omega
         rw [valR_eq hrr]
         with_reducible ((repeat refine xc_seq ?_); refine xcR ?_)
         refine xo_mv rfl rfl rfl ?_
         refine xo_mv rfl rfl rfl ?_
         refine xo_callB (fs := []) (cs := [.pointer (some ⟨b3, 0, none⟩), .pointer (some ⟨b8, 0, none⟩)]) rfl rfl rfl excl_enters rfl (fun w1 hw1 => excl_calls R E A B (valA rr) c c2 (valC rr) b3 b8 gs ms S room w1 (hs.below hw1.kx.below) hsc hrOK hS (hw1.ro (wr := true) (cs := scnV R A gs.length c E B ms.length c2) (t := 25) (by repeat first | exact memH | apply memT | apply memA)) (hw1.ro (wr := true) (cs := [.int .i64 room]) (t := 3) (by repeat first | exact memH | apply memT | apply memA)) (intsAt_row (hw1.bl_of (fun e he => by repeat (first | exact he | exact List.mem_append_left _ he | apply List.mem_append_right | apply List.Mem.tail))) hrr)) ?_
         refine xo_mv rfl rfl rfl ?_
         refine xo_ext rfl rfl rfl rfl ?_
         refine xo_ext rfl rfl rfl rfl ?_
         refine xo_asg rfl rfl rfl ?_
         refine xo_asg rfl rfl rfl ?_
         with_reducible (refine xo_nil ?_; (repeat (first | refine xqT ?_ | refine xqB ?_ | refine xqS ?_)))
         refine xc_slots [(2, .int .u8 (s : Int)), (3, .pointer (some ⟨b3, 0, none⟩)), (6, .bool false), (7, .bool true), (9, .slice (some ⟨rb, 0, none⟩) (idsL q).length rcap), (11, .func (.func 31) #[] #[.pointer (some ⟨b3, 0, none⟩), .pointer (some ⟨b8, 0, none⟩)]), (17, .slice (valA rr) (idsL S).length (valC rr)), (20, .bool (!canF E R.toNat gs room.toNat S)), (21, .bool true)] ⟨rfl, rfl, rfl, rfl, rfl, rfl, rfl, rfl, rfl, trivial⟩ ?_
         with_reducible ((repeat refine xc_seq ?_); refine xcR ?_)
         refine xo_mv rfl rfl rfl ?_
         refine xo_notOp rfl rfl rfl ?_
         with_reducible (refine xo_nil ?_; (repeat (first | refine xqT ?_ | refine xqB ?_ | refine xqS ?_)); (repeat refine xc_seq ?_))
         refine xc_condF rfl ?_
         with_reducible (refine xc_skip ?_; (repeat (first | refine xqT ?_ | refine xqB ?_ | refine xqS ?_)))
         cases hcS : canF E R.toNat gs room.toNat S
         rotate_left
         · with_reducible repeat refine xc_seq ?_
           with_reducible refine xcR ?_
           refine xo_mv rfl rfl rfl ?_
           refine xo_notOp rfl rfl rfl ?_
           refine xo_mv rfl rfl rfl ?_
           (first | refine xo_not rfl rfl ?_ | (refine xo_mv rfl rfl rfl ?_))
           (first | refine xo_not rfl rfl ?_ | (refine xo_len T_ rfl rfl rfl rfl ?_))
           (first | refine xo_not rfl rfl ?_ | (refine xo_mv rfl rfl rfl ?_))
           (first | refine xo_not rfl rfl ?_ | (refine xo_len T_ rfl rfl rfl rfl ?_))
           (first | refine xo_not rfl rfl ?_ | (refine xo_gtr rfl rfl rfl rfl ?_))
           first | refine xo_pickT rfl rfl rfl rfl ?_ | refine xo_pickF rfl rfl rfl rfl ?_
           with_reducible (refine xo_nil ?_; (repeat (first | refine xqT ?_ | refine xqB ?_ | refine xqS ?_)); (repeat refine xc_seq ?_))
           refine xc_condT rfl ?_
           with_reducible ((repeat refine xc_seq ?_); refine xcR ?_)
           refine xo_mv rfl rfl rfl ?_
           refine xo_asg rfl rfl rfl ?_
           with_reducible (refine xo_nil ?_; (repeat (first | refine xqT ?_ | refine xqB ?_ | refine xqS ?_)); (repeat refine xc_seq ?_); refine xc_ret ?_; (repeat (first | refine xq_thenR ?_ | refine xq_blockR ?_ | refine xq_scopeR ?_)))
           exact xq_ret1 rfl rfl fun w' hw => ⟨rfl, hw.kx.below⟩
         have hfS := hfS (by rw [hcS]; rfl)
         cases hmore : decide (((idsL q).length : Int) < ((idsL S).length : Int))
         rotate_left
         · with_reducible repeat refine xc_seq ?_
           with_reducible refine xcR ?_
           refine xo_mv rfl rfl rfl ?_
           refine xo_notOp rfl rfl rfl ?_
           refine xo_mv rfl rfl rfl ?_
           (first | refine xo_not rfl rfl ?_ | (refine xo_mv rfl rfl rfl ?_))
           (first | refine xo_not rfl rfl ?_ | (refine xo_len T_ rfl rfl rfl rfl ?_))
           (first | refine xo_not rfl rfl ?_ | (refine xo_mv rfl rfl rfl ?_))
           (first | refine xo_not rfl rfl ?_ | (refine xo_len T_ rfl rfl rfl rfl ?_))
           (first | refine xo_not rfl rfl ?_ | (refine xo_gtr rfl rfl rfl rfl ?_))
           refine xo_as (i := 131) rfl (congrArg Value.bool hmore) ?_
           first | refine xo_pickT rfl rfl rfl rfl ?_ | refine xo_pickF rfl rfl rfl rfl ?_
           with_reducible (refine xo_nil ?_; (repeat (first | refine xqT ?_ | refine xqB ?_ | refine xqS ?_)); (repeat refine xc_seq ?_))
           refine xc_condT rfl ?_
           with_reducible ((repeat refine xc_seq ?_); refine xcR ?_)
           refine xo_mv rfl rfl rfl ?_
           refine xo_asg rfl rfl rfl ?_
           with_reducible (refine xo_nil ?_; (repeat (first | refine xqT ?_ | refine xqB ?_ | refine xqS ?_)); (repeat refine xc_seq ?_); refine xc_ret ?_; (repeat (first | refine xq_thenR ?_ | refine xq_blockR ?_ | refine xq_scopeR ?_)))
           exact xq_ret1 rfl rfl fun w' hw => ⟨rfl, hw.kx.below⟩
         have hlq : (idsL q).length = q.length := by rw [idsL, List.length_map]
         have hlS : (idsL S).length = S.length := by rw [idsL, List.length_map]
         have hnm := of_decide_eq_false hmore
         have hle : S.length = q.length := by
           unfold cmpS at hfS
           split at hfS <;> omega
         have hcmp : ¬ cmpL S q < 0 := by rw [cmpS, if_pos (by omega)] at hfS; exact hfS
         have hless : decide (((idsL S).length : Int) < ((idsL q).length : Int)) = false := decide_eq_false (by omega)
         with_reducible ((repeat refine xc_seq ?_); refine xcR ?_)
         refine xo_mv rfl rfl rfl ?_
         refine xo_notOp rfl rfl rfl ?_
         refine xo_mv rfl rfl rfl ?_
         (first | refine xo_not rfl rfl ?_ | (refine xo_mv rfl rfl rfl ?_))
         (first | refine xo_not rfl rfl ?_ | (refine xo_len T_ rfl rfl rfl rfl ?_))
         (first | refine xo_not rfl rfl ?_ | (refine xo_mv rfl rfl rfl ?_))
         (first | refine xo_not rfl rfl ?_ | (refine xo_len T_ rfl rfl rfl rfl ?_))
         (first | refine xo_not rfl rfl ?_ | (refine xo_gtr rfl rfl rfl rfl ?_))
         refine xo_as (i := 131) rfl (congrArg Value.bool hmore) ?_
         first | refine xo_pickT rfl rfl rfl rfl ?_ | refine xo_pickF rfl rfl rfl rfl ?_
         with_reducible (refine xo_nil ?_; (repeat (first | refine xqT ?_ | refine xqB ?_ | refine xqS ?_)); (repeat refine xc_seq ?_))
         refine xc_condF rfl ?_
         with_reducible (refine xc_skip ?_; (repeat (first | refine xqT ?_ | refine xqB ?_ | refine xqS ?_)); (repeat refine xc_seq ?_); refine xcR ?_)
         refine xo_mv rfl rfl rfl ?_
         refine xo_len T_ rfl rfl rfl rfl ?_
         refine xo_mv rfl rfl rfl ?_
         refine xo_len T_ rfl rfl rfl rfl ?_
         refine xo_lss rfl rfl rfl rfl ?_
         refine xo_as (i := 138) rfl (congrArg Value.bool hless) ?_
         with_reducible (refine xo_nil ?_; (repeat (first | refine xqT ?_ | refine xqB ?_ | refine xqS ?_)); (repeat refine xc_seq ?_))
         refine xc_condF rfl ?_
         with_reducible (refine xc_skip ?_; (repeat (first | refine xqT ?_ | refine xqB ?_ | refine xqS ?_)))
         rcases rr with _ | ⟨rc, rcc⟩
         · have := hrr rfl
           omega
         with_reducible ((repeat refine xc_seq ?_); refine xcR ?_)
         refine xo_mv rfl rfl rfl ?_
         refine xo_len T_ rfl rfl rfl rfl ?_
         refine xo_mv rfl rfl rfl ?_
         with_reducible (refine xo_nil ?_; (repeat (first | refine xqT ?_ | refine xqB ?_ | refine xqS ?_)); (repeat refine xc_seq ?_); refine xc_block ?_)
         · refine xc_loop (γ := Nat) (fun k => k ≤ (idsL q).length ∧ (idsL q).take k = (idsL S).take k) (fun k => [(7, .bool true), (9, .slice (some ⟨rb, 0, none⟩) (idsL q).length rcap), (17, .slice (some ⟨rc, 0, none⟩) (idsL S).length rcc), (140, .int .i64 ((idsL q).length : Int)), (141, .int .i64 (k : Int))])
             (fun _ => [(rc, true, orow 3 1 (idsL S).length rcc ((idsL S).map (.int .i64))), (rb, true, orow 3 1 (idsL q).length rcap ((idsL q).map (.int .i64)))]) (fun k => (idsL q).length - k) 0 ⟨Nat.zero_le _, rfl⟩ ⟨rfl, rfl, rfl, rfl, rfl, trivial⟩ (List.Sublist.cons_cons _ (List.Sublist.cons_cons _ (List.nil_sublist _))) ?_
           rintro k ⟨hkl, htk⟩
           with_reducible ((repeat refine xc_seq ?_); refine xcR ?_)
           refine xo_lss rfl rfl rfl rfl ?_
           with_reducible (refine xo_nil ?_; (repeat (first | refine xqT ?_ | refine xqB ?_ | refine xqS ?_)); (repeat refine xc_seq ?_))
           refine xc_cond rfl (fun h => ?_) (fun h => ?_)
           · have hlt : k < (idsL q).length := by have := of_decide_eq_true h; omega
             have hltS : k < (idsL S).length := by omega
             have hgq : ((idsL q).map (Value.int .i64))[k]? = some (.int .i64 ((idsL q).getD k 0)) := by simp [List.getElem?_eq_getElem hlt, List.getD_eq_getElem?_getD]
             have hgS : ((idsL S).map (Value.int .i64))[k]? = some (.int .i64 ((idsL S).getD k 0)) := by simp [List.getElem?_eq_getElem hltS, List.getD_eq_getElem?_getD]
             with_reducible (refine xc_skip ?_; (repeat (first | refine xqT ?_ | refine xqB ?_ | refine xqS ?_)); (repeat refine xc_seq ?_); refine xc_block ?_; (repeat refine xc_seq ?_); refine xcR ?_)
             refine xo_mv rfl rfl rfl ?_
             refine xo_asg rfl rfl rfl ?_
             with_reducible (refine xo_nil ?_; (repeat (first | refine xqT ?_ | refine xqB ?_ | refine xqS ?_)))
             refine xc_slots [(7, .bool true), (9, .slice (some ⟨rb, 0, none⟩) (idsL q).length rcap), (17, .slice (some ⟨rc, 0, none⟩) (idsL S).length rcc), (22, .int .i64 (k : Int)), (140, .int .i64 ((idsL q).length : Int)), (141, .int .i64 (k : Int))] ⟨rfl, rfl, rfl, rfl, rfl, rfl, trivial⟩ ?_
             with_reducible (repeat refine xc_seq ?_)
             apply xc_drawN
             · exact T_.mixed
             · rfl
             · rfl
             · rfl
             · rfl
             · apply DrawOps.cons
               · intro τ
                 refine xo_mv rfl rfl rfl ?_
                 exact xo_fin rfl
               apply DrawOps.cons
               · intro τ
                 refine xo_mv rfl rfl rfl ?_
                 exact xo_fin rfl
               apply DrawOps.cons
               · intro τ
                 refine xo_ia T_ rfl rfl rfl rfl rfl ⟨by omega, by omega⟩ rfl ?_
                 exact xo_fin rfl
               apply DrawOps.cons
               · intro τ
                 refine xo_loadO T_ (k := (k : Int).toNat * szN 0) (v := .int .i64 ((idsL q).getD k 0)) rfl rfl rfl (List.Mem.tail _ (List.Mem.head _)) (by rw [show (k : Int).toNat * szN 0 = k by simp [szN]]; exact hgq) rfl ?_
                 exact xo_fin rfl
               apply DrawOps.cons
               · intro τ
                 refine xo_mv rfl rfl rfl ?_
                 exact xo_fin rfl
               apply DrawOps.cons
               · intro τ
                 refine xo_mv rfl rfl rfl ?_
                 exact xo_fin rfl
               apply DrawOps.cons
               · intro τ
                 refine xo_ia T_ rfl rfl rfl rfl rfl ⟨by omega, by omega⟩ rfl ?_
                 exact xo_fin rfl
               apply DrawOps.cons
               · intro τ
                 refine xo_loadO T_ (k := (k : Int).toNat * szN 0) (v := .int .i64 ((idsL S).getD k 0)) rfl rfl rfl (List.Mem.head _) (by rw [show (k : Int).toNat * szN 0 = k by simp [szN]]; exact hgS) rfl ?_
                 exact xo_fin rfl
               apply DrawOps.cons
               · intro τ
                 refine xo_neq rfl rfl rfl rfl ?_
                 exact xo_fin rfl
               exact DrawOps.nil
             · rfl
             with_reducible ((repeat (first | refine xqT ?_ | refine xqB ?_ | refine xqS ?_)); (repeat refine xc_seq ?_))
             refine xc_cond rfl (fun h2 => ?_) (fun h2 => ?_)
             · have hne : (idsL q).getD k 0 ≠ (idsL S).getD k 0 := by simpa using h2
               have hlt9 : decide ((idsL q).getD k 0 < (idsL S).getD k 0) = true := decide_eq_true (cmp_first hle hcmp k htk (by omega) hne)
               refine xc_slots [(7, .bool true), (9, .slice (some ⟨rb, 0, none⟩) (idsL q).length rcap), (17, .slice (some ⟨rc, 0, none⟩) (idsL S).length rcc), (22, .int .i64 (k : Int))] ⟨rfl, rfl, rfl, rfl, trivial⟩ ?_
               with_reducible (repeat refine xc_seq ?_)
               apply xc_drawN
               · exact T_.mixed
               · rfl
               · rfl
               · rfl
               · rfl
               · apply DrawOps.cons
                 · intro τ
                   refine xo_mv rfl rfl rfl ?_
                   exact xo_fin rfl
                 apply DrawOps.cons
                 · intro τ
                   refine xo_mv rfl rfl rfl ?_
                   exact xo_fin rfl
                 apply DrawOps.cons
                 · intro τ
                   (first | refine xo_not rfl rfl ?_ | (refine xo_mv rfl rfl rfl ?_))
                   exact xo_fin rfl
                 apply DrawOps.cons
                 · intro τ
                   (first | refine xo_not rfl rfl ?_ | (refine xo_mv rfl rfl rfl ?_))
                   exact xo_fin rfl
                 apply DrawOps.cons
                 · intro τ
                   (first | refine xo_not rfl rfl ?_ | (refine xo_ia T_ rfl rfl rfl rfl rfl ⟨by omega, by omega⟩ rfl ?_))
                   exact xo_fin rfl
                 apply DrawOps.cons
                 · intro τ
                   (first | refine xo_not rfl rfl ?_ | (refine xo_loadO T_ (k := (k : Int).toNat * szN 0) (v := .int .i64 ((idsL q).getD k 0)) rfl rfl rfl (List.Mem.tail _ (List.Mem.head _)) (by rw [show (k : Int).toNat * szN 0 = k by simp [szN]]; exact hgq) rfl ?_))
                   exact xo_fin rfl
                 apply DrawOps.cons
                 · intro τ
                   (first | refine xo_not rfl rfl ?_ | (refine xo_mv rfl rfl rfl ?_))
                   exact xo_fin rfl
                 apply DrawOps.cons
                 · intro τ
                   (first | refine xo_not rfl rfl ?_ | (refine xo_mv rfl rfl rfl ?_))
                   exact xo_fin rfl
                 apply DrawOps.cons
                 · intro τ
                   (first | refine xo_not rfl rfl ?_ | (refine xo_ia T_ rfl rfl rfl rfl rfl ⟨by omega, by omega⟩ rfl ?_))
                   exact xo_fin rfl
                 apply DrawOps.cons
                 · intro τ
                   (first | refine xo_not rfl rfl ?_ | (refine xo_loadO T_ (k := (k : Int).toNat * szN 0) (v := .int .i64 ((idsL S).getD k 0)) rfl rfl rfl (List.Mem.head _) (by rw [show (k : Int).toNat * szN 0 = k by simp [szN]]; exact hgS) rfl ?_))
                   exact xo_fin rfl
                 apply DrawOps.cons
                 · intro τ
                   (first | refine xo_not rfl rfl ?_ | (refine xo_lss rfl rfl rfl rfl ?_))
                   first
                     | exact xo_fin (congrArg Value.bool hlt9)
                     | exact xo_fin rfl
                 apply DrawOps.cons
                 · intro τ
                   first | refine xo_pickT rfl rfl rfl rfl ?_ | refine xo_pickF rfl rfl rfl rfl ?_
                   exact xo_fin rfl
                 apply DrawOps.cons
                 · intro τ
                   refine xo_asg rfl rfl rfl ?_
                   exact xo_fin rfl
                 exact DrawOps.nil
               · rfl
               with_reducible ((repeat (first | refine xqT ?_ | refine xqB ?_ | refine xqS ?_)); (repeat refine xc_seq ?_); refine xc_ret ?_; (repeat (first | refine xq_thenR ?_ | refine xq_blockR ?_ | refine xq_scopeR ?_)))
               exact xq_ret1 rfl rfl fun w' hw => ⟨rfl, hw.kx.below⟩
             · have he : (idsL q).getD k 0 = (idsL S).getD k 0 := by simpa using h2
               with_reducible (refine xc_skip ?_; (repeat (first | refine xqT ?_ | refine xqB ?_ | refine xqS ?_)); (repeat refine xc_seq ?_); refine xcR ?_)
               refine xo_add rfl rfl rfl (by omega) rfl ?_
               refine xo_mv rfl rfl rfl ?_
               with_reducible (refine xo_nil ?_; (repeat (first | refine xqT ?_ | refine xqB ?_ | refine xqS ?_)))
               exact xq_again _ _ _ _ _ (k + 1) ⟨hlt, take_eq_succ 0 hlt hltS htk he⟩ (by omega) ⟨rfl, rfl, rfl, rfl, rfl, trivial⟩ (List.Sublist.refl _)
           · with_reducible refine xc_exit ?_
             with_reducible ((repeat (first | refine xq_blockX ?_ | refine xq_thenE ?_ | refine xq_blockE rfl ?_ | refine xq_scopeE ?_)); (repeat (first | refine xqT ?_ | refine xqB ?_ | refine xqS ?_)); (repeat refine xc_seq ?_); refine xcR ?_)
             refine xo_mv rfl rfl rfl ?_
             refine xo_asg rfl rfl rfl ?_
             with_reducible (refine xo_nil ?_; (repeat (first | refine xqT ?_ | refine xqB ?_ | refine xqS ?_)); (repeat refine xc_seq ?_); refine xc_ret ?_; (repeat (first | refine xq_thenR ?_ | refine xq_blockR ?_ | refine xq_scopeR ?_)))
             exact xq_ret1 rfl rfl fun w' hw => ⟨rfl, hw.kx.below⟩
end Go.Proofs.YtommeljlfkmpjaaGreatDoor
namespace Go.Proofs.YtommeljlfkmpjaaGreatDoor
open Go.ChangeShapes Go.WideShapes Go.RowKit
set_option linter.unusedVariables false
set_option linter.unusedSimpArgs false
def laidL : List (String × DataW Unit) := [("cottonpad/origin.nowhere", Rows.laid_cottonpad_origin_nowhere)]
theorem gNow : Tryz.prog.globalNamed "cottonpad/origin.nowhere" = some 0 := by kernel_rfl
theorem tNow : (Tryz.prog.globals[0]?).map (·.type) = some 45 := by kernel_rfl
theorem door_met (os : Os) (args : Array Value) : laidMetH Tryz.prog laidL ((World.doorLaid Tryz.prog 400 os).forCall (fun _ _ => 0) ⟨#[], args, []⟩).memory :=
 laidMetH_of_parts3 (fuel := 8) (laidMet_of_run' 8 (by kernel_rfl) (by kernel_rfl)) (by kernel_rfl) (by kernel_rfl)
theorem trod_pair {P : Program} {H : Type} {enc : TypeId × Value → H} {w : World} {fuel : Nat} {bb : Bool} {t ta tb : TypeId} {f g : Field} {a b : Value} {d : DataW H} {ps : List MemPlace}
   (ht : P.underlying t = some (.struct #[f, g])) (h1 : f.type = ta) (h2 : f.offset = 0) (h3 : g.type = tb) (h4 : g.offset = 1) (hA : P.cellsOf ta = 1) (hB : P.cellsOf tb = 1)
   (h : DataW.trod enc P w 0 (fun _ => true) bb (fuel + 1) t [a, b] = some (d, ps)) :
   ∃ x y, DataW.trod enc P w 0 (fun _ => true) bb fuel ta [a] = some x ∧ DataW.trod enc P w 0 (fun _ => true) bb fuel tb [b] = some y ∧ d = .agg [x.1, y.1] := by
 unfold DataW.trod at h
 rw [ht] at h
 simp only [List.length_cons, List.length_nil] at h
 split at h
 · simp only [List.mapM_cons, List.mapM_nil, h1, h2, h3, h4, hA, hB, List.drop_zero, List.take_succ_cons, List.take_zero, List.drop_succ_cons, Option.map_eq_some_iff] at h
   obtain ⟨xs, h, e⟩ := h
   cases hx : DataW.trod enc P w 0 (fun _ => true) bb fuel ta [a] with
   | none => simp [hx] at h
   | some x =>
     cases hy : DataW.trod enc P w 0 (fun _ => true) bb fuel tb [b] with
     | none => simp [hx, hy] at h
     | some y =>
       simp [hx, hy] at h
       subst h
       simp at e
       exact ⟨x, y, rfl, rfl, e.1.symm⟩
 · simp at h
theorem trod_lenS {P : Program} {H : Type} {enc : TypeId × Value → H} {w : World} {fuel : Nat} {bb : Bool} {t : TypeId} {fs : Array Field} {l : List Value} {x : DataW H × List MemPlace}
   (ht : P.underlying t = some (.struct fs)) (h : DataW.trod enc P w 0 (fun _ => true) bb fuel t l = some x) : l.length = P.cellsOf t := by
 cases fuel with
 | zero => simp [DataW.trod] at h
 | succ m =>
   by_cases hl : l.length = P.cellsOf t
   · exact hl
   · exfalso
     unfold DataW.trod at h
     rw [ht] at h
     simp [hl] at h
theorem trod_int {P : Program} {H : Type} {enc : TypeId × Value → H} {w : World} {fuel : Nat} {bb : Bool} {t : TypeId} {k : IntKind} {a : Value} {n : Int} {ps : List MemPlace} (hu : P.underlying t = some (.int k))
   (h : DataW.trod enc P w 0 (fun _ => true) bb fuel t [a] = some (.lit (.int .i64 n), ps)) : a = .int .i64 n := by
 cases fuel with
 | zero => simp [DataW.trod] at h
 | succ fuel =>
   unfold DataW.trod at h
   rw [hu] at h
   split at h <;> simp_all
set_option maxRecDepth 100000 in
theorem glob_of_laid {W : World} (h : laidMetH Tryz.prog laidL W) : GlobO W := by
 have h' : laidMet Tryz.prog laidL W := h
 obtain ⟨ps, ⟨g, t, cs, fuel, p, q, hg, ht, hv, hd, _, _⟩, _, _⟩ := h'
 obtain rfl := Option.some.inj (gNow.symm.trans hg)
 obtain rfl := Option.some.inj (tNow.symm.trans ht)
 have hd' : DataW.trod (fun _ => ()) Tryz.prog W 0 (fun _ => true) false fuel 45 cs.toList = some (.agg [.lit (.int .i64 1073741824), .lit (.int .i64 (-1073741824))], p) := hd
 have hlen : cs.toList.length = 2 := (trod_lenS Tryz.underlying45 hd').trans (by kernel_rfl)
 obtain ⟨l⟩ := cs
 match l, hlen with
 | [a, b], _ =>
   cases fuel with
   | zero => simp [DataW.trod] at hd'
   | succ n =>
     obtain ⟨x, y, hx, hy, e⟩ := trod_pair (ta := 3) (tb := 3) Tryz.underlying45 rfl rfl rfl rfl (by kernel_rfl) (by kernel_rfl) hd'
     simp only [DataW.agg.injEq, List.cons.injEq, and_true] at e
     obtain ⟨x1, x2⟩ := x
     obtain ⟨y1, y2⟩ := y
     simp only at e
     obtain ⟨rfl, rfl⟩ := e
     obtain rfl := trod_int Tryz.underlying3 hx
     obtain rfl := trod_int Tryz.underlying3 hy
     unfold World.var? at hv
     rw [gNow] at hv
     simp only [Option.bind_some] at hv
     cases hh : W.heap[0]? with
     | none => simp [hh] at hv
     | some o =>
       cases o <;> simp [hh] at hv
       subst hv
       refine ro_of fun j v hj => ?_
       rw [Addr.add_lit, Nat.zero_add]
       unfold World.cell?
       rw [hh]
       have hj' : ([.int .i64 1073741824, .int .i64 (-1073741824)] : List Value)[j]? = some v := hj
       simpa using hj'
end Go.Proofs.YtommeljlfkmpjaaGreatDoor
