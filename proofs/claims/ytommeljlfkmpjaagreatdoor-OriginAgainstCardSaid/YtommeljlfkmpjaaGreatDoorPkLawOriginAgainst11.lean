/- law09.with: the marks with some Ids, in order. / origin: marks chosen by their Ids; sets of marks that are fewer. Plain. / a chain of makers beside a cell: where they stand. / law09: a row without one. / law09.OriginAgainst: the walk. / The variable origin.nowhere, as the rows' condition lays it, and the door's own heap, which meets that condition. -/
import Derived.Test.YtommeljlfkmpjaaGreatDoorPkLawOriginAgainst10
import Derived.Test.YtommeljlfkmpjaaGreatDoorPkLawOriginAgainst3
import Derived.Test.YtommeljlfkmpjaaGreatDoorRows
import Derived.Test.YtommeljlfkmpjaaGreatDoorPkLawOriginAgainst4
import Derived.LaidLaws
import Derived.LaidHandle
import Derived.LaidMore
import Derived.ChangeVars
import Derived.ChangeShapes
namespace Go.Proofs.YtommeljlfkmpjaaGreatDoor
open Go.RowKit Go.Proofs.YtommeljlfkmpjaaGreatDoorW.PrintWords
set_option linter.unusedVariables false
set_option linter.unusedSimpArgs false
def pickB (ids : List Int) (l : List MarT) (m : MarT) : Bool := decide (l.length < ids.length) && decide (ids.getD l.length 0 = m.f0)
def pickL (ids : List Int) (ms : List MarT) : Nat → List MarT
 | 0 => []
 | k + 1 => if pickB ids (pickL ids ms k) (ms.getD k zMar) = true then pickL ids ms k ++ [ms.getD k zMar] else pickL ids ms k
theorem pickL_len (ids : List Int) (ms : List MarT) : ∀ k, (pickL ids ms k).length ≤ k
 | 0 => Nat.le_refl _
 | k + 1 => by
   have := pickL_len ids ms k
   rw [pickL]
   split
   · rw [List.length_append]; simp; omega
   · omega
def withL (ids : List Int) (ms : List MarT) : List MarT := pickL ids ms ms.length
set_option maxHeartbeats 8000000 in
theorem with_calls (R E : Int) (A B I : Option Addr) (c c2 ci : Nat) (gs : List GatT) (ms : List MarT) (ids : List Int) (w : World) (hM : RowOf marV 7 zMar w B ms) (hI : IntsAt w I ids) (hm8 : ms.length ≤ 8) (hi8 : ids.length ≤ 8) :
   Calls Tryz.prog 32 #[.agg (scnV R A gs.length c E B ms.length c2).toArray, .slice I ids.length ci] w fun e w' => ∃ r : RowR, e = .returned (.tuple #[.agg (scnV R A gs.length c E (valA r) (withL ids ms).length (valC r)).toArray, .bool (decide (((withL ids ms).length : Int) = ids.length))]) ∧ RowZ 56 7 (withL ids ms).length w.heap.size w' r (marL (withL ids ms)) ∧ Below w.heap.size w w' := by
 refine x_calls (X := XNone) Tryz.func32 rfl rfl rfl ?_
 with_reducible ((repeat refine xc_seq ?_); refine xcR ?_)
 refine xo_box rfl rfl rfl rfl (fun b2 => ?_)
 refine xo_alloc T_ rfl rfl rfl rfl (fun b4 => ?_)
 refine xo_asg rfl rfl rfl ?_
 with_reducible (refine xo_nil ?_; (repeat (first | refine xqT ?_ | refine xqB ?_ | refine xqS ?_)); (repeat refine xc_seq ?_); refine xcR ?_)
 refine xo_loadN T_ rfl rfl rfl (by repeat first | exact memH | apply memT | apply memA) rfl rfl ?_
 refine xo_alloc T_ rfl rfl rfl rfl (fun b6 => ?_)
 refine xo_store T_ rfl rfl rfl rfl (by repeat first | exact memH | apply memT | apply memA) rfl rfl rfl rfl (by repeat (first | exact Upd.head | apply Upd.tail | apply Upd.app)) rfl ?_
 with_reducible (refine xo_nil ?_; (repeat (first | refine xqT ?_ | refine xqB ?_ | refine xqS ?_)); (repeat refine xc_seq ?_); refine xcR ?_)
 refine xo_fa T_ rfl rfl rfl rfl rfl ?_
 refine xo_store T_ rfl rfl rfl rfl (by repeat first | exact memH | apply memT | apply memA) rfl rfl rfl rfl (by repeat (first | exact Upd.head | apply Upd.tail | apply Upd.app)) rfl ?_
 with_reducible (refine xo_nil ?_; (repeat (first | refine xqT ?_ | refine xqB ?_ | refine xqS ?_)); (repeat refine xc_seq ?_); refine xcR ?_)
 refine xo_asg rfl rfl rfl ?_
 with_reducible (refine xo_nil ?_; (repeat (first | refine xqT ?_ | refine xqB ?_ | refine xqS ?_)); (repeat refine xc_seq ?_); refine xcR ?_)
 refine xo_fa T_ rfl rfl rfl rfl rfl ?_
 refine xo_load0 T_ rfl rfl rfl (by repeat first | exact memH | apply memT | apply memA) rfl rfl ?_
 refine xo_len T_ rfl rfl rfl rfl ?_
 refine xo_mv rfl rfl rfl ?_
 with_reducible (refine xo_nil ?_; (repeat (first | refine xqT ?_ | refine xqB ?_ | refine xqS ?_)); (repeat refine xc_seq ?_); refine xc_block ?_)
 · refine xc_loop (γ := Nat × RowR) (fun q => q.1 ≤ ms.length ∧ (q.2 = none → (pickL ids ms q.1).length = 0)) (fun q => [(1, .slice I ids.length ci), (4, .pointer (some ⟨b4, 0, none⟩)), (5, .bool false), (6, .pointer (some ⟨b6, 0, none⟩)), (7, .int .i64 ((pickL ids ms q.1).length : Int)), (13, .slice B ms.length c2), (14, .int .i64 (ms.length : Int)), (15, .int .i64 (q.1 : Int))])
     (fun q => hpR 56 7 q.2 (pickL ids ms q.1).length (marL (pickL ids ms q.1)) ++ [(b6, true, cel [.int .i64 R, .slice A gs.length c, .int .i64 E, valR q.2 (pickL ids ms q.1).length] 25), (b4, true, cel [.int .i64 0, .slice none 0 0, .int .i64 0, .slice none 0 0] 25)]) (fun q => ms.length - q.1) (0, none) ⟨Nat.zero_le _, fun _ => rfl⟩ ⟨rfl, rfl, rfl, rfl, rfl, rfl, rfl, rfl, trivial⟩ (by repeat (first | exact List.Sublist.refl _ | apply List.Sublist.cons_cons | apply List.Sublist.cons | exact List.nil_sublist _)) ?_
   rintro ⟨k, rr⟩ ⟨hk, hrr⟩
   simp only at hk hrr
   have hpl := pickL_len ids ms k
   with_reducible ((repeat refine xc_seq ?_); refine xcR ?_)
   refine xo_lss rfl rfl rfl rfl ?_
   with_reducible (refine xo_nil ?_; (repeat (first | refine xqT ?_ | refine xqB ?_ | refine xqS ?_)); (repeat refine xc_seq ?_))
   refine xc_cond rfl (fun h => ?_) (fun h => ?_)
   · have hlt : k < ms.length := by have := of_decide_eq_true h; omega
     obtain ⟨ad, rfl, hRm⟩ := hM k hlt
     have hst : pickL ids ms (k + 1) = if pickB ids (pickL ids ms k) (ms.getD k zMar) = true then pickL ids ms k ++ [ms.getD k zMar] else pickL ids ms k := rfl
     generalize pickL ids ms k = l at hrr hpl hst ⊢
     generalize ms.getD k zMar = m at hRm hst
     with_reducible (refine xc_skip ?_; (repeat (first | refine xqT ?_ | refine xqB ?_ | refine xqS ?_)); (repeat refine xc_seq ?_); refine xc_block ?_; (repeat refine xc_seq ?_); refine xcR ?_)
     refine xo_ia T_ rfl rfl rfl rfl rfl ⟨by omega, by omega⟩ rfl ?_
     refine xo_loadRN T_ rfl rfl rfl hRm rfl rfl ?_
     refine xo_alloc T_ rfl rfl rfl rfl (fun b9 => ?_)
     refine xo_store T_ rfl rfl rfl rfl (by repeat first | exact memH | apply memT | apply memA) rfl rfl rfl rfl (by repeat (first | exact Upd.head | apply Upd.tail | apply Upd.app)) rfl ?_
     with_reducible (refine xo_nil ?_; (repeat (first | refine xqT ?_ | refine xqB ?_ | refine xqS ?_)))
     refine xc_slots [(1, .slice I ids.length ci), (4, .pointer (some ⟨b4, 0, none⟩)), (5, .bool false), (6, .pointer (some ⟨b6, 0, none⟩)), (7, .int .i64 (l.length : Int)), (9, .pointer (some ⟨b9, 0, none⟩)), (13, .slice (some ad) ms.length c2), (14, .int .i64 (ms.length : Int)), (15, .int .i64 (k : Int))] ⟨rfl, rfl, rfl, rfl, rfl, rfl, rfl, rfl, rfl, trivial⟩ ?_
     cases h1 : decide ((l.length : Int) < (ids.length : Int))
     · have hb : pickB ids l m = false := by
         have := of_decide_eq_false h1
         simp [pickB]; intro h; omega
       rw [hb, if_neg Bool.false_ne_true] at hst
       with_reducible (repeat refine xc_seq ?_)
       apply xc_drawN
       · exact T_.mixed
       · rfl
       · rfl
       · rfl
       · rfl
       · apply DrawOps.cons
         · intro τ
           refine xo_mv rfl rfl rfl ?_
           exact xo_fin rfl
         apply DrawOps.cons
         · intro τ
           refine xo_mv rfl rfl rfl ?_
           exact xo_fin rfl
         apply DrawOps.cons
         · intro τ
           refine xo_len T_ rfl rfl rfl rfl ?_
           exact xo_fin rfl
         apply DrawOps.cons
         · intro τ
           refine xo_lss rfl rfl rfl rfl ?_
           first
             | exact xo_fin (congrArg Value.bool h1)
             | exact xo_fin rfl
         apply DrawOps.cons
         · intro τ
           refine xo_mv rfl rfl rfl ?_
           exact xo_fin rfl
         apply DrawOps.cons
         · intro τ
           (first | refine xo_not rfl rfl ?_ | (refine xo_mv rfl rfl rfl ?_))
           exact xo_fin rfl
         apply DrawOps.cons
         · intro τ
           (first | refine xo_not rfl rfl ?_ | (refine xo_mv rfl rfl rfl ?_))
           exact xo_fin rfl
         apply DrawOps.cons
         · intro τ
           (first | refine xo_not rfl rfl ?_ | (refine xo_ia T_ rfl rfl rfl rfl rfl ⟨by omega, by omega⟩ rfl ?_))
           exact xo_fin rfl
         apply DrawOps.cons
         · intro τ
           (first | refine xo_not rfl rfl ?_ | (refine xo_loadR0 T_ rfl rfl rfl (by first | assumption | exact RO.fld (by assumption) rfl) rfl ?_))
           exact xo_fin rfl
         apply DrawOps.cons
         · intro τ
           (first | refine xo_not rfl rfl ?_ | (refine xo_fa T_ rfl rfl rfl rfl rfl ?_))
           exact xo_fin rfl
         apply DrawOps.cons
         · intro τ
           (first | refine xo_not rfl rfl ?_ | (refine xo_load0 T_ rfl rfl rfl (by repeat first | exact memH | apply memT | apply memA) rfl rfl ?_))
           exact xo_fin rfl
         apply DrawOps.cons
         · intro τ
           (first | refine xo_not rfl rfl ?_ | (refine xo_eql rfl rfl rfl rfl ?_))
           exact xo_fin rfl
         apply DrawOps.cons
         · intro τ
           first | refine xo_pickT rfl rfl rfl rfl ?_ | refine xo_pickF rfl rfl rfl rfl ?_
           exact xo_fin rfl
         exact DrawOps.nil
       · rfl
       with_reducible ((repeat (first | refine xqT ?_ | refine xqB ?_ | refine xqS ?_)); (repeat refine xc_seq ?_))
       refine xc_condF rfl ?_
       with_reducible (refine xc_skip ?_; (repeat (first | refine xqT ?_ | refine xqB ?_ | refine xqS ?_)); (repeat refine xc_seq ?_); refine xcR ?_)
       refine xo_add rfl rfl rfl (by omega) rfl ?_
       refine xo_mv rfl rfl rfl ?_
       with_reducible (refine xo_nil ?_; (repeat (first | refine xqT ?_ | refine xqB ?_ | refine xqS ?_)))
       exact xq_again _ _ _ _ _ (k + 1, rr) ⟨hlt, fun q => by rw [hst]; exact hrr q⟩ (by simp only; omega) ⟨rfl, rfl, rfl, rfl, by rw [hst]; rfl, rfl, rfl, rfl, trivial⟩ (by rw [hst]; exact List.sublist_cons_self _ _)
     · have hlt2 : l.length < ids.length := by have := of_decide_eq_true h1; omega
       obtain ⟨ai, rfl, hRi⟩ := hI _ hlt2
       cases h2 : decide (ids.getD l.length 0 = m.f0)
       · have hb : pickB ids l m = false := by rw [pickB, h2, Bool.and_false]
         rw [hb, if_neg Bool.false_ne_true] at hst
         with_reducible (repeat refine xc_seq ?_)
         apply xc_drawN
         · exact T_.mixed
         · rfl
         · rfl
         · rfl
         · rfl
         · apply DrawOps.cons
           · intro τ
             refine xo_mv rfl rfl rfl ?_
             exact xo_fin rfl
           apply DrawOps.cons
           · intro τ
             refine xo_mv rfl rfl rfl ?_
             exact xo_fin rfl
           apply DrawOps.cons
           · intro τ
             refine xo_len T_ rfl rfl rfl rfl ?_
             exact xo_fin rfl
           apply DrawOps.cons
           · intro τ
             refine xo_lss rfl rfl rfl rfl ?_
             first
               | exact xo_fin (congrArg Value.bool h1)
               | exact xo_fin rfl
           apply DrawOps.cons
           · intro τ
             refine xo_mv rfl rfl rfl ?_
             exact xo_fin rfl
           apply DrawOps.cons
           · intro τ
             (first | refine xo_not rfl rfl ?_ | (refine xo_mv rfl rfl rfl ?_))
             exact xo_fin rfl
           apply DrawOps.cons
           · intro τ
             (first | refine xo_not rfl rfl ?_ | (refine xo_mv rfl rfl rfl ?_))
             exact xo_fin rfl
           apply DrawOps.cons
           · intro τ
             (first | refine xo_not rfl rfl ?_ | (refine xo_ia T_ rfl rfl rfl rfl rfl ⟨by omega, by omega⟩ rfl ?_))
             exact xo_fin rfl
           apply DrawOps.cons
           · intro τ
             (first | refine xo_not rfl rfl ?_ | (refine xo_loadR0 T_ rfl rfl rfl hRi rfl ?_))
             exact xo_fin rfl
           apply DrawOps.cons
           · intro τ
             (first | refine xo_not rfl rfl ?_ | (refine xo_fa T_ rfl rfl rfl rfl rfl ?_))
             exact xo_fin rfl
           apply DrawOps.cons
           · intro τ
             (first | refine xo_not rfl rfl ?_ | (refine xo_load0 T_ rfl rfl rfl (by repeat first | exact memH | apply memT | apply memA) rfl rfl ?_))
             exact xo_fin rfl
           apply DrawOps.cons
           · intro τ
             (first | refine xo_not rfl rfl ?_ | (refine xo_eql rfl rfl rfl rfl ?_))
             first
               | exact xo_fin (congrArg Value.bool h2)
               | exact xo_fin rfl
           apply DrawOps.cons
           · intro τ
             first | refine xo_pickT rfl rfl rfl rfl ?_ | refine xo_pickF rfl rfl rfl rfl ?_
             exact xo_fin rfl
           exact DrawOps.nil
         · rfl
         with_reducible ((repeat (first | refine xqT ?_ | refine xqB ?_ | refine xqS ?_)); (repeat refine xc_seq ?_))
         refine xc_condF rfl ?_
         with_reducible (refine xc_skip ?_; (repeat (first | refine xqT ?_ | refine xqB ?_ | refine xqS ?_)); (repeat refine xc_seq ?_); refine xcR ?_)
         refine xo_add rfl rfl rfl (by omega) rfl ?_
         refine xo_mv rfl rfl rfl ?_
         with_reducible (refine xo_nil ?_; (repeat (first | refine xqT ?_ | refine xqB ?_ | refine xqS ?_)))
         exact xq_again _ _ _ _ _ (k + 1, rr) ⟨hlt, fun q => by rw [hst]; exact hrr q⟩ (by simp only; omega) ⟨rfl, rfl, rfl, rfl, by rw [hst]; rfl, rfl, rfl, rfl, trivial⟩ (by rw [hst]; exact List.sublist_cons_self _ _)
       · have hb : pickB ids l m = true := by rw [pickB, h2, decide_eq_true hlt2]; rfl
         rw [hb, if_pos rfl] at hst
         with_reducible (repeat refine xc_seq ?_)
         apply xc_drawN
         · exact T_.mixed
         · rfl
         · rfl
         · rfl
         · rfl
         · apply DrawOps.cons
           · intro τ
             refine xo_mv rfl rfl rfl ?_
             exact xo_fin rfl
           apply DrawOps.cons
           · intro τ
             refine xo_mv rfl rfl rfl ?_
             exact xo_fin rfl
           apply DrawOps.cons
           · intro τ
             refine xo_len T_ rfl rfl rfl rfl ?_
             exact xo_fin rfl
           apply DrawOps.cons
           · intro τ
             refine xo_lss rfl rfl rfl rfl ?_
             first
               | exact xo_fin (congrArg Value.bool h1)
               | exact xo_fin rfl
           apply DrawOps.cons
           · intro τ
             refine xo_mv rfl rfl rfl ?_
             exact xo_fin rfl
           apply DrawOps.cons
           · intro τ
             (first | refine xo_not rfl rfl ?_ | (refine xo_mv rfl rfl rfl ?_))
             exact xo_fin rfl
           apply DrawOps.cons
           · intro τ
             (first | refine xo_not rfl rfl ?_ | (refine xo_mv rfl rfl rfl ?_))
             exact xo_fin rfl
           apply DrawOps.cons
           · intro τ
             (first | refine xo_not rfl rfl ?_ | (refine xo_ia T_ rfl rfl rfl rfl rfl ⟨by omega, by omega⟩ rfl ?_))
             exact xo_fin rfl
           apply DrawOps.cons
           · intro τ
             (first | refine xo_not rfl rfl ?_ | (refine xo_loadR0 T_ rfl rfl rfl hRi rfl ?_))
             exact xo_fin rfl
           apply DrawOps.cons
           · intro τ
             (first | refine xo_not rfl rfl ?_ | (refine xo_fa T_ rfl rfl rfl rfl rfl ?_))
             exact xo_fin rfl
           apply DrawOps.cons
           · intro τ
             (first | refine xo_not rfl rfl ?_ | (refine xo_load0 T_ rfl rfl rfl (by repeat first | exact memH | apply memT | apply memA) rfl rfl ?_))
             exact xo_fin rfl
           apply DrawOps.cons
           · intro τ
             (first | refine xo_not rfl rfl ?_ | (refine xo_eql rfl rfl rfl rfl ?_))
             first
               | exact xo_fin (congrArg Value.bool h2)
               | exact xo_fin rfl
           apply DrawOps.cons
           · intro τ
             first | refine xo_pickT rfl rfl rfl rfl ?_ | refine xo_pickF rfl rfl rfl rfl ?_
             exact xo_fin rfl
           exact DrawOps.nil
         · rfl
         with_reducible ((repeat (first | refine xqT ?_ | refine xqB ?_ | refine xqS ?_)); (repeat refine xc_seq ?_))
         refine xc_condT rfl ?_
         with_reducible ((repeat refine xc_seq ?_); refine xcR ?_)
         refine xo_fa T_ rfl rfl rfl rfl rfl ?_
         refine xo_load0 T_ rfl rfl rfl (by repeat first | exact memH | apply memT | apply memA) rfl rfl ?_
         refine xo_loadN T_ rfl rfl rfl (by repeat first | exact memH | apply memT | apply memA) rfl rfl ?_
         refine xo_bsG T_ 7 rfl rfl rfl rfl rfl rfl rfl rfl rfl rfl (fun b35 => ?_)
         refine xo_less (η' := (b35, true, cel (marV m) 56) :: (hpR 56 7 rr l.length (marL l) ++ [(b6, true, cel [.int .i64 R, .slice A gs.length c, .int .i64 E, valR rr l.length] 25), (b4, true, cel [.int .i64 0, .slice none 0 0, .int .i64 0, .slice none 0 0] 25)])) (List.Sublist.cons_cons _ (List.sublist_cons_self _ _)) ?_
         refine xo_app TR_ rfl rfl rfl rfl rfl rfl rfl rfl (marL_len l) rfl rfl hrr (by omega) rfl rfl (fun r' hr' => ?_)
         rcases r' with _ | ⟨rb, rc⟩
         · exact absurd rfl hr'
         refine xo_fa T_ rfl rfl rfl rfl rfl ?_
         refine xo_store T_ rfl rfl rfl rfl (by repeat first | exact memH | apply memT | apply memA) rfl rfl rfl rfl (by repeat (first | exact Upd.head | apply Upd.tail | apply Upd.app)) rfl ?_
         with_reducible (refine xo_nil ?_; (repeat (first | refine xqT ?_ | refine xqB ?_ | refine xqS ?_)); (repeat refine xc_seq ?_); refine xcR ?_)
         refine xo_mv rfl rfl rfl ?_
         refine xo_add rfl rfl rfl (by omega) rfl ?_
         refine xo_asg rfl rfl rfl ?_
         with_reducible (refine xo_nil ?_; (repeat (first | refine xqT ?_ | refine xqB ?_ | refine xqS ?_)); (repeat refine xc_seq ?_); refine xcR ?_)
         refine xo_add rfl rfl rfl (by omega) rfl ?_
         refine xo_mv rfl rfl rfl ?_
         with_reducible (refine xo_nil ?_; (repeat (first | refine xqT ?_ | refine xqB ?_ | refine xqS ?_)))
         exact xq_again _ _ _ _ _ (k + 1, some (rb, rc)) ⟨hlt, fun q => by cases q⟩ (by simp only; omega) ⟨rfl, rfl, rfl, rfl, by rw [hst, List.length_append]; rfl, rfl, rfl, rfl, trivial⟩ (by rw [hst, List.length_append, marL_app]; exact List.Sublist.refl _)
   · have hge : k = ms.length := by have := of_decide_eq_false h; omega
     subst hge
     with_reducible (refine xc_exit ?_; (repeat (first | refine xq_blockX ?_ | refine xq_thenE ?_ | refine xq_blockE rfl ?_ | refine xq_scopeE ?_)); (repeat (first | refine xqT ?_ | refine xqB ?_ | refine xqS ?_)))
     have hl := pickL_len ids ms ms.length
     unfold withL
     generalize pickL ids ms ms.length = l at hrr hl ⊢
     rw [valR_eq hrr]
     with_reducible ((repeat refine xc_seq ?_); refine xcR ?_)
     refine xo_loadN T_ rfl rfl rfl (by repeat first | exact memH | apply memT | apply memA) rfl rfl ?_
     refine xo_mv rfl rfl rfl ?_
     refine xo_mv rfl rfl rfl ?_
     refine xo_len T_ rfl rfl rfl rfl ?_
     refine xo_eql rfl rfl rfl rfl ?_
     refine xo_store T_ rfl rfl rfl rfl (by repeat first | exact memH | apply memT | apply memA) rfl rfl rfl rfl (by repeat (first | exact Upd.head | apply Upd.tail | apply Upd.app)) rfl ?_
     refine xo_asg rfl rfl rfl ?_
     with_reducible (refine xo_nil ?_; (repeat (first | refine xqT ?_ | refine xqB ?_ | refine xqS ?_)); (repeat refine xc_seq ?_); refine xc_ret ?_; (repeat (first | refine xq_thenR ?_ | refine xq_blockR ?_ | refine xq_scopeR ?_)))
     exact xq_retC1 T_ rfl rfl rfl rfl (by repeat first | exact memH | apply memT | apply memA) rfl fun w' hw => ⟨rr, rfl, RowZ.of hw hrr, hw.kx.below⟩
theorem with_enters : ∀ args w, (callFunc 32 args).run Tryz.prog w = .ok (.enter 32 args) w := enters_of Tryz.func32 (by kernel_rfl) rfl
/-! ### all sets are all parts -/
theorem bitN_test (s i : Nat) : bitN s i = s.testBit i := by
 rw [bitN, Nat.testBit_eq_decide_div_mod_eq, Bool.eq_iff_iff, decide_eq_true_iff, decide_eq_true_iff]
 omega
theorem chosen_low (ms : List MarT) {s s' : Nat} : ∀ k, (∀ i, i < k → bitN s i = bitN s' i) → chosenL s ms k = chosenL s' ms k
 | 0, _ => rfl
 | k + 1, h => by
   rw [chosenL, chosenL, chosen_low ms k (fun i hi => h i (by omega)), h k (by omega)]
theorem take_get {α : Type} (z : α) {l : List α} {k : Nat} (h : k < l.length) : l.take (k + 1) = l.take k ++ [l.getD k z] := by
 rw [List.take_succ_eq_append_getElem h, List.getD_eq_getElem?_getD, List.getElem?_eq_getElem h]
 rfl
theorem sub_one {b : List MarT} {m : MarT} (h : List.Sublist b [m]) : b = [] ∨ b = [m] := by
 cases h with
 | cons _ h => exact .inl (List.sublist_nil.1 h)
 | cons_cons _ h => exact .inr (by rw [List.sublist_nil.1 h])
theorem sub_chosen (ms : List MarT) : ∀ k, k ≤ ms.length → ∀ q : List MarT, List.Sublist q (ms.take k) → ∃ s, s < 2 ^ k ∧ chosenL s ms k = q
 | 0, _, q, h => by
   rw [List.take_zero] at h
   exact ⟨0, by simp, (List.sublist_nil.1 h).symm⟩
 | k + 1, hk, q, h => by
   rw [take_get zMar (by omega)] at h
   obtain ⟨a, b, rfl, ha, hb⟩ := List.sublist_append_iff.1 h
   obtain ⟨s, hs, he⟩ := sub_chosen ms k (by omega) a ha
   have hbk : bitN s k = false := by rw [bitN_test]; exact Nat.testBit_lt_two_pow hs
   rcases sub_one hb with rfl | rfl
   · exact ⟨s, by rw [Nat.pow_succ]; omega, by rw [chosenL, hbk, if_neg Bool.false_ne_true, he, List.append_nil]⟩
   · have h1 : bitN (2 ^ k + s) k = true := by rw [bitN_test, Nat.testBit_two_pow_add_eq, ← bitN_test, hbk]; rfl
     refine ⟨2 ^ k + s, by rw [Nat.pow_succ]; omega, ?_⟩
     rw [chosenL, h1, if_pos rfl, chosen_low ms k (s' := s) (fun i hi => by rw [bitN_test, bitN_test, Nat.testBit_two_pow_add_gt hi]), he]
theorem chosen_sub (ms : List MarT) (s : Nat) : ∀ k, k ≤ ms.length → List.Sublist (chosenL s ms k) (ms.take k)
 | 0, _ => by rw [chosenL]; exact List.nil_sublist _
 | k + 1, hk => by
   rw [take_get zMar (by omega), chosenL]
   split
   · exact (chosen_sub ms s k (by omega)).append (List.Sublist.refl _)
   · exact (chosen_sub ms s k (by omega)).trans (List.sublist_append_left _ _)
theorem sets_sub {ms q : List MarT} : q ∈ allSets ms ↔ List.Sublist q ms := by
 unfold allSets
 constructor
 · intro h
   obtain ⟨s, _, rfl⟩ := List.mem_map.1 h
   have := chosen_sub ms s ms.length (Nat.le_refl _)
   rwa [List.take_length] at this
 · intro h
   obtain ⟨s, hs, he⟩ := sub_chosen ms ms.length (Nat.le_refl _) q (by rw [List.take_length]; exact h)
   exact List.mem_map.2 ⟨s, List.mem_range.2 hs, he⟩
/-! ### marks in order -/
theorem marks_rise {R : Int} : ∀ {last : Int} {ms : List MarT}, marksF R last ms = true → ms.Pairwise (fun x y => x.f0 < y.f0) ∧ ∀ m ∈ ms, last < m.f0
 | last, [], _ => ⟨List.Pairwise.nil, fun m h => by cases h⟩
 | last, m :: ms, h => by
   rw [marksF, Bool.and_eq_true] at h
   obtain ⟨h1, h2⟩ := h
   simp only [Bool.and_eq_true] at h1
   have hi := inF_iff.1 h1.1.1.1
   obtain ⟨h3, h4⟩ := marks_rise h2
   refine ⟨List.Pairwise.cons h4 h3, fun x hx => ?_⟩
   rcases List.mem_cons.1 hx with rfl | hx
   · omega
   · have := h4 x hx; omega
theorem marks_low {R : Int} {last last' : Int} (hl : last' ≤ last) : ∀ {ms : List MarT}, marksF R last ms = true → marksF R last' ms = true
 | [], _ => rfl
 | m :: ms, h => by
   rw [marksF, Bool.and_eq_true] at h ⊢
   refine ⟨?_, h.2⟩
   have h1 := h.1
   simp only [Bool.and_eq_true] at h1 ⊢
   have hi := inF_iff.1 h1.1.1.1
   exact ⟨⟨⟨inF_iff.2 ⟨by omega, hi.2⟩, h1.1.1.2⟩, h1.1.2⟩, h1.2⟩
theorem marks_sub {R : Int} : ∀ {ms q : List MarT} {last : Int}, List.Sublist q ms → marksF R last ms = true → marksF R last q = true := by
 intro ms
 induction ms with
 | nil => intro q last h _; rw [List.sublist_nil.1 h]; rfl
 | cons m ms ih =>
   intro q last h hm
   rw [marksF, Bool.and_eq_true] at hm
   have h1 := hm.1
   simp only [Bool.and_eq_true] at h1
   have hi := inF_iff.1 h1.1.1.1
   cases h with
   | cons _ h => exact marks_low (by omega) (ih h hm.2)
   | cons_cons _ h => rw [marksF, hm.1, ih h hm.2]; rfl
theorem scene_sub {R E : Int} {gs : List GatT} {ms q : List MarT} (h : sceneF R E gs ms = true) (hq : List.Sublist q ms) : sceneF R E gs q = true := by
 obtain ⟨h1, h2, h3, h4, h5⟩ := sceneF_ok h
 have hl := hq.length_le
 unfold sceneF at h ⊢
 simp only [Bool.and_eq_true] at h ⊢
 exact ⟨⟨⟨h.1.1.1, decide_eq_true (by omega)⟩, h.1.2⟩, marks_sub hq h.2⟩
theorem with_sub {ms : List MarT} (hp : ms.Pairwise fun x y => x.f0 < y.f0) {q : List MarT} (hq : List.Sublist q ms) : withL (idsL q) ms = q := by
 have key : ∀ j, j ≤ ms.length → ∃ a b, q = a ++ b ∧ List.Sublist b (ms.drop j) ∧ pickL (idsL q) ms j = a := by
   intro j
   induction j with
   | zero => intro _; exact ⟨[], q, rfl, hq, rfl⟩
   | succ j ih =>
     intro hj
     obtain ⟨a, b, rfl, hb, hpk⟩ := ih (by omega)
     have hd := drop_at ms zMar j (by omega)
     rw [hd] at hb
     have hpd : (ms.getD j zMar :: ms.drop (j + 1)).Pairwise fun x y => x.f0 < y.f0 := by rw [← hd]; exact hp.sublist (List.drop_sublist _ _)
     have hlt := (List.pairwise_cons.1 hpd).1
     rw [pickL, hpk]
     cases hb with
     | cons _ hb =>
       refine ⟨a, b, rfl, hb, ?_⟩
       rw [if_neg]
       intro h
       rw [pickB, Bool.and_eq_true, decide_eq_true_iff, decide_eq_true_iff] at h
       cases b with
       | nil => rw [List.append_nil, idsL, List.length_map] at h; omega
       | cons x b =>
         have h1 := hlt x (hb.subset List.mem_cons_self)
         have h2 : x.f0 = (ms.getD j zMar).f0 := by rw [← h.2]; simp [idsL]
         omega
     | cons_cons _ hb =>
       rename_i b
       refine ⟨a ++ [ms.getD j zMar], b, by simp, hb, ?_⟩
       rw [if_pos]
       rw [pickB, Bool.and_eq_true, decide_eq_true_iff, decide_eq_true_iff]
       constructor
       · simp [idsL]
       · simp [idsL, List.getD_eq_getElem?_getD]
 obtain ⟨a, b, he, hb, hpk⟩ := key ms.length (Nat.le_refl _)
 rw [List.drop_length] at hb
 rw [List.sublist_nil.1 hb, List.append_nil] at he
 rw [withL, hpk, he]
theorem ids_erase (q : List MarT) (i : Nat) : (idsL q).take i ++ (idsL q).drop (i + 1) = idsL (q.eraseIdx i) := by
 rw [List.eraseIdx_eq_take_drop_succ, idsL, idsL, List.map_append, List.map_take, List.map_drop]
/-- the fewest of which something is so: without any one of them it is not -/
theorem fewest_least {p : List MarT → Bool} {ms : List MarT} (hfull : p ms = true) : ∃ q, List.Sublist q ms ∧ p q = true ∧ fewestL p (allSets ms) = idsL q ∧ ∀ i, i < q.length → p (q.eraseIdx i) = false := by
 obtain ⟨q, h1, h2, h3, h4⟩ := fewest_spec p ms hfull
 have hs := sets_sub.1 h1
 refine ⟨q, hs, h2, h3, fun i hi => ?_⟩
 cases hp : p (q.eraseIdx i)
 · rfl
 · refine absurd ?_ (h4 _ (sets_sub.2 ((List.eraseIdx_sublist q i).trans hs)) hp)
   have := List.length_eraseIdx_of_lt hi
   rw [cmpS, if_neg (by omega)]
   omega
/-! ### a row without one, and what is asked of it, in whatever order they are made -/
inductive CH where
 | c0
 | c1 (b1 : Nat)
 | c2 (b1 b5 k5 : Nat)
 | c3 (b1 b5 k5 b10 k10 : Nat)
 | c4 (b1 b5 k5 b10 k10 : Nat) (r : RowR)
inductive AL where
 | a0
 | a1 (b : Nat)
 | a2 (b : Nat) (r : RowR)
def CH.b1 : CH → Nat
 | .c0 => 0
 | .c1 b => b
 | .c2 b _ _ => b
 | .c3 b _ _ _ _ => b
 | .c4 b _ _ _ _ _ => b
def CH.b5 : CH → Nat
 | .c2 _ b _ => b
 | .c3 _ b _ _ _ => b
 | .c4 _ b _ _ _ _ => b
 | _ => 0
def CH.k5 : CH → Nat
 | .c2 _ _ b => b
 | .c3 _ _ b _ _ => b
 | .c4 _ _ b _ _ _ => b
 | _ => 0
def CH.b10 : CH → Nat
 | .c3 _ _ _ b _ => b
 | .c4 _ _ _ b _ _ => b
 | _ => 0
def CH.k10 : CH → Nat
 | .c3 _ _ _ _ b => b
 | .c4 _ _ _ _ b _ => b
 | _ => 0
def CH.r : CH → RowR
 | .c4 _ _ _ _ _ r => r
 | _ => none
def AL.b : AL → Nat
 | .a0 => 0
 | .a1 b => b
 | .a2 b _ => b
def okC (L : List Nat) : CH → Prop
 | .c0 => 1 ∉ L ∧ 5 ∉ L ∧ 10 ∉ L ∧ 11 ∉ L
 | .c1 _ => 1 ∈ L ∧ 5 ∉ L ∧ 10 ∉ L ∧ 11 ∉ L
 | .c2 _ _ _ => 1 ∈ L ∧ 5 ∈ L ∧ 10 ∉ L ∧ 11 ∉ L
 | .c3 _ _ _ _ _ => 1 ∈ L ∧ 5 ∈ L ∧ 10 ∈ L ∧ 11 ∉ L
 | .c4 _ _ _ _ _ _ => 1 ∈ L ∧ 5 ∈ L ∧ 10 ∈ L ∧ 11 ∈ L
def okA (L : List Nat) (c : CH) : AL → Prop
 | .a0 => 15 ∉ L ∧ 16 ∉ L
 | .a1 _ => 15 ∈ L ∧ 16 ∉ L
 | .a2 _ r => 15 ∈ L ∧ 16 ∈ L ∧ 11 ∈ L ∧ r = c.r
def okW (L : List Nat) (g : CH × AL) : Prop := okC L g.1 ∧ okA L g.1 g.2 ∧ (12 ∈ L → 11 ∈ L) ∧ (13 ∈ L → 11 ∈ L)
theorem okW_0 : okW [] (.c0, .a0) := by simp [okW, okC, okA]
theorem okW_pure {i : Nat} {L : List Nat} {g : CH × AL} (hi : i ∉ [1, 5, 10, 11, 12, 13, 15, 16]) (h : okW L g) : okW (i :: L) g := by
 simp only [List.mem_cons, List.not_mem_nil, or_false, not_or] at hi
 obtain ⟨h1, h5, h10, h11, h12, h13, h15, h16⟩ := hi
 obtain ⟨c, a⟩ := g
 have e1 : (1 ∈ i :: L) ↔ 1 ∈ L := by simp [Ne.symm h1]
 have e5 : (5 ∈ i :: L) ↔ 5 ∈ L := by simp [Ne.symm h5]
 have e10 : (10 ∈ i :: L) ↔ 10 ∈ L := by simp [Ne.symm h10]
 have e11 : (11 ∈ i :: L) ↔ 11 ∈ L := by simp [Ne.symm h11]
 have e12 : (12 ∈ i :: L) ↔ 12 ∈ L := by simp [Ne.symm h12]
 have e13 : (13 ∈ i :: L) ↔ 13 ∈ L := by simp [Ne.symm h13]
 have e15 : (15 ∈ i :: L) ↔ 15 ∈ L := by simp [Ne.symm h15]
 have e16 : (16 ∈ i :: L) ↔ 16 ∈ L := by simp [Ne.symm h16]
 cases c <;> cases a <;> simp only [okW, okC, okA, e1, e5, e10, e11, e12, e13, e15, e16] at h ⊢ <;> exact h
theorem okW_12 {L : List Nat} {g : CH × AL} (h : okW L g) (hd : 11 ∈ L) : okW (12 :: L) g := by
 obtain ⟨c, a⟩ := g
 cases c <;> cases a <;> simp [okW, okC, okA, CH.r, CH.b1, CH.b5, CH.k5, CH.b10, CH.k10, AL.b] at * <;> grind
theorem okW_13 {L : List Nat} {g : CH × AL} (h : okW L g) (hd : 12 ∈ L) : okW (13 :: L) g := by
 have h11 : 11 ∈ L := h.2.2.1 hd
 clear hd
 obtain ⟨c, a⟩ := g
 cases c <;> cases a <;> simp [okW, okC, okA, CH.r, CH.b1, CH.b5, CH.k5, CH.b10, CH.k10, AL.b] at * <;> grind
theorem okW_1 {L : List Nat} {c : CH} {a : AL} (h : okW L (c, a)) (hi : 1 ∉ L) : c = .c0 ∧ ∀ b, okW (1 :: L) (.c1 b, a) := by
 cases c <;> cases a <;> simp [okW, okC, okA, CH.r, CH.b1, CH.b5, CH.k5, CH.b10, CH.k10, AL.b] at * <;> grind
theorem okW_5 {L : List Nat} {c : CH} {a : AL} (h : okW L (c, a)) (hi : 5 ∉ L) (hd : 1 ∈ L) : (∃ b1, c = .c1 b1) ∧ ∀ b k, okW (5 :: L) (.c2 c.b1 b k, a) := by
 cases c <;> cases a <;> simp [okW, okC, okA, CH.r, CH.b1, CH.b5, CH.k5, CH.b10, CH.k10, AL.b] at * <;> grind
theorem okW_10 {L : List Nat} {c : CH} {a : AL} (h : okW L (c, a)) (hi : 10 ∉ L) (hd : 5 ∈ L) : (∃ b1 b5 k5, c = .c2 b1 b5 k5) ∧ ∀ b k, okW (10 :: L) (.c3 c.b1 c.b5 c.k5 b k, a) := by
 cases c <;> cases a <;> simp [okW, okC, okA, CH.r, CH.b1, CH.b5, CH.k5, CH.b10, CH.k10, AL.b] at * <;> grind
theorem okW_11 {L : List Nat} {c : CH} {a : AL} (h : okW L (c, a)) (hi : 11 ∉ L) (hd : 10 ∈ L) : (∃ b1 b5 k5 b10 k10, c = .c3 b1 b5 k5 b10 k10) ∧ (12 ∉ L ∧ 13 ∉ L) ∧ ∀ r, okW (11 :: L) (.c4 c.b1 c.b5 c.k5 c.b10 c.k10 r, a) := by
 have h12 : 12 ∉ L := fun q => hi (h.2.2.1 q)
 have h13 : 13 ∉ L := fun q => hi (h.2.2.2 q)
 cases c <;> cases a <;> simp [okW, okC, okA, CH.r, CH.b1, CH.b5, CH.k5, CH.b10, CH.k10, AL.b] at * <;> grind
theorem okW_15 {L : List Nat} {c : CH} {a : AL} (h : okW L (c, a)) (hi : 15 ∉ L) : a = .a0 ∧ ∀ b, okW (15 :: L) (c, .a1 b) := by
 cases c <;> cases a <;> simp [okW, okC, okA, CH.r, CH.b1, CH.b5, CH.k5, CH.b10, CH.k10, AL.b] at * <;> grind
theorem okW_16 {L : List Nat} {c : CH} {a : AL} (h : okW L (c, a)) (hi : 16 ∉ L) (h11 : 11 ∈ L) (h15 : 15 ∈ L) : (∃ b1 b5 k5 b10 k10 r, c = .c4 b1 b5 k5 b10 k10 r) ∧ (∃ b, a = .a1 b) ∧ okW (16 :: L) (c, .a2 a.b c.r) := by
 cases c <;> cases a <;> simp [okW, okC, okA, CH.r, CH.b1, CH.b5, CH.k5, CH.b10, CH.k10, AL.b] at * <;> grind
theorem okW_all {L : List Nat} {c : CH} {a : AL} (h : okW L (c, a)) (h16 : 16 ∈ L) : (∃ b1 b5 k5 b10 k10 r, c = .c4 b1 b5 k5 b10 k10 r) ∧ ∃ b, a = .a2 b c.r := by
 cases c <;> cases a <;> simp [okW, okC, okA, CH.r, CH.b1, CH.b5, CH.k5, CH.b10, CH.k10, AL.b] at * <;> grind
section
variable {P : Program} {ro : Option Nat} {n N : Nat} {ds : List Deferred} {w0 : World} {X : Nat → Prop} {Q : Exit → Act → World → Prop} {σ : Slots} {η : Hp} {ops rest : List Oper} {d : Option Tmp} {ty : TypeId} {pos : String} {aft : Array Edge} {g : Option (Nat × Bool)}
/-- where a row goes on: its end is told by its start -/
def fromB (b i cap : Nat) : Addr := if cap = i then ⟨b, 0, none⟩ else ⟨b, i, none⟩
theorem xo_sliceLoE (T : Tys P) {t e : TypeId} {x lo : Operand} {b m cap i : Nat} (hg : gS ops σ g = some true) (ht : look t T.el = some e) (hk : look e T.tk = some 0) (hx : ev σ x = some (.slice (some ⟨b, 0, none⟩) m cap)) (hl : ev σ lo = some (.int .i64 (i : Int))) (hi : i ≤ m) (hN : dstOK N d = true)
   (h : XO P ro n N ds w0 X Q ops (putS d (.slice (some (fromB b i cap)) (m - i) (cap - i)) σ) η rest) : XO P ro n N ds w0 X Q ops σ η (⟨d, .slice t x (some lo) none none, ty, pos, aft, g⟩ :: rest) :=
 xo_val _ rfl hg hN (fun a w ha hw => by
   have h1 := T.hel _ (look_mem ht)
   simp only at h1
   have h2 : (sizeOf e).run P w = .ok 1 w := (T.htk _ (look_mem hk)).2 w
   have hel : P.elem t = e := by simp [Program.elem, h1]
   have hu : P.underlying t = some (.slice (P.elem t)) := by rw [hel]; exact h1
   have h3 := run_slice_l (P := P) w t (some ⟨b, 0, none⟩) m cap hu .i64 (i : Int) (by omega) (by omega)
   rw [hel, h2] at h3
   simp only [execOp, Option.map_some, Option.map_none, ha.ev hx, ha.ev hl, Sem.run_bind, run_sliceAt_slice (P := P) w t _ _ _ _ hu, h3, Result.andThen_ok, sliced]
   by_cases q : cap = i <;> simp [q, fromB, Addr.add_lit]) h
end
/-- what lies in a row of whole numbers, from a place on -/
theorem row_cells {w : World} {b m cap : Nat} {L : List Int} {te : TypeId} (h : BlIn [(b, true, orow te 1 m cap (L.map (.int .i64)))] w) {j : Nat} {v : Value} (hv : (L.map (Value.int .i64))[j]? = some v) : w.cell? ⟨b, j, none⟩ = some v := by
 obtain ⟨o, h4, cur, rfl, h5, h6, h7, h8⟩ := h _ List.mem_cons_self
 rw [cell_of_row w b j _ te _ h4, ← Array.getElem?_toList]
 rw [← h8] at hv
 rw [List.getElem?_take] at hv
 split at hv
 · exact hv
 · cases hv
theorem marks_Z {w : World} {r : RowR} {ms : List MarT} (hl : ms.length ≤ 1000000) (h0 : r = none → ms.length = 0) (h : BlIn (hpR 56 7 r ms.length (marL ms)) w) : Kd.C marK w (valA r) ms.length ms := by
 cases r with
 | none =>
   have := List.eq_nil_of_length_eq_zero (h0 rfl)
   subst this
   exact Kd.C_nil _ _
 | some p => exact marks_C hl h
theorem with_less (R E : Int) (A B : Option Addr) (c c2 b cap k : Nat) (gs : List GatT) (ms q : List MarT) (w : World) (hM : RowOf marV 7 zMar w B ms) (hm8 : ms.length ≤ 8) (hp : ms.Pairwise fun x y => x.f0 < y.f0) (hq : List.Sublist q ms) (hk : k < (idsL q).length)
   (hI : BlIn [(b, true, orow 3 1 (0 + k + ((idsL q).length - (k + 1))) cap (([] ++ ((idsL q).take k).map (.int .i64)) ++ ((idsL q).drop (k + 1)).map (.int .i64)))] w) :
   Calls Tryz.prog 32 #[.agg (scnV R A gs.length c E B ms.length c2).toArray, .slice (some ⟨b, 0, none⟩) (0 + k + ((idsL q).length - (k + 1))) cap] w fun e w' => ∃ r : RowR, e = .returned (.tuple #[.agg (scnV R A gs.length c E (valA r) (q.eraseIdx k).length (valC r)).toArray, .bool true]) ∧ RowZ 56 7 (q.eraseIdx k).length w.heap.size w' r (marL (q.eraseIdx k)) ∧ Below w.heap.size w w' := by
 have hids : idsL (q.eraseIdx k) = (idsL q).take k ++ (idsL q).drop (k + 1) := (ids_erase q k).symm
 have hlen : (idsL (q.eraseIdx k)).length = 0 + k + ((idsL q).length - (k + 1)) := by rw [hids, List.length_append, List.length_take, List.length_drop]; omega
 have hsub : List.Sublist (q.eraseIdx k) ms := (List.eraseIdx_sublist q k).trans hq
 have hl8 : (idsL (q.eraseIdx k)).length ≤ 8 := by
   have := hsub.length_le
   rw [idsL, List.length_map]
   omega
 rw [List.nil_append, ← List.map_append, ← hids, ← hlen] at hI
 have h := with_calls R E A B (some ⟨b, 0, none⟩) c c2 cap gs ms (idsL (q.eraseIdx k)) w hM (intsAt_row (r := some (b, cap)) hI (fun q => by cases q)) hm8 hl8
 rw [with_sub hp hsub, hlen] at h
 have hd : decide (((q.eraseIdx k).length : Int) = (0 + k + ((idsL q).length - (k + 1)) : Nat)) = true := decide_eq_true (by rw [← hlen, idsL, List.length_map])
 rw [hd] at h
 exact h
/-- what with returns, as_ a value -/
abbrev aggW (R E : Int) (A : Option Addr) (c : Nat) (gs : List GatT) (q : List MarT) (k : Nat) (r : RowR) : Value := .agg (scnV R A gs.length c E (valA r) (q.eraseIdx k).length (valC r)).toArray
abbrev tupW (R E : Int) (A : Option Addr) (c : Nat) (gs : List GatT) (q : List MarT) (k : Nat) (r : RowR) : Value := .tuple #[aggW R E A c gs q k r, .bool true]
def CH.fact (n : Nat) : CH → Prop
 | .c4 _ _ _ _ _ r => r = none → n = 0
 | _ => True
def chH (q : List MarT) (k : Nat) : CH → Hp
 | .c0 => []
 | .c1 b => [(b, true, orow 3 1 0 0 [])]
 | .c2 _ b kk => [(b, true, orow 3 1 (0 + k) kk ([] ++ ((idsL q).take k).map (.int .i64)))]
 | .c3 _ _ _ b kk => [(b, true, orow 3 1 (0 + k + ((idsL q).length - (k + 1))) kk (([] ++ ((idsL q).take k).map (.int .i64)) ++ ((idsL q).drop (k + 1)).map (.int .i64)))]
 | .c4 _ _ _ _ _ r => hpR 56 7 r (q.eraseIdx k).length (marL (q.eraseIdx k))
def alH (R E : Int) (A : Option Addr) (c : Nat) (gs : List GatT) (q : List MarT) (k : Nat) : AL → Hp
 | .a0 => []
 | .a1 b => [(b, true, cel [.int .i64 0, .slice none 0 0, .int .i64 0, .slice none 0 0] 25)]
 | .a2 b r => [(b, true, cel (scnV R A gs.length c E (valA r) (q.eraseIdx k).length (valC r)) 25)]
def wgH (R E : Int) (A : Option Addr) (c : Nat) (gs : List GatT) (q : List MarT) (k : Nat) (η1 : Hp) (g : CH × AL) : Hp := chH q k g.1 ++ (alH R E A c gs q k g.2 ++ η1)
set_option maxHeartbeats 16000000 in
theorem originAgainst_law (R E : Int) (A B : Option Addr) (c c2 : Nat) (gs : List GatT) (ms : List MarT) (w : World) (hA : Kd.C gatK w A gs.length gs) (hB : Kd.C marK w B ms.length ms) (hk : BytesK ms) (hglob : GlobO w) :
   Calls Tryz.prog 8 #[.agg (scnV R A gs.length c E B ms.length c2).toArray] w fun e w' => e = .returned (.bool true) ∧ Below w.heap.size w w' := by
 have hgr4 := gat_row hA
 have hmr7 := mar_row hB
 have hs : SceneAt w A B gs ms := ⟨hA, hB, hk, hglob⟩
 refine x_calls (X := XNone) Tryz.func8 rfl rfl rfl ?_
 with_reducible ((repeat refine xc_seq ?_); refine xcR ?_)
 refine xo_box rfl rfl rfl rfl (fun b1 => ?_)
 refine xo_asg rfl rfl rfl ?_
 with_reducible (refine xo_nil ?_; (repeat (first | refine xqT ?_ | refine xqB ?_ | refine xqS ?_)); (repeat refine xc_seq ?_); refine xcR ?_)
 refine xo_callB (fs := []) (cs := []) rfl rfl rfl alive_enters rfl (fun w1 hw1 => alive_calls w1 (hglob.below hw1.kx.below)) ?_
 refine xo_asg rfl rfl rfl ?_
 with_reducible (refine xo_nil ?_; (repeat (first | refine xqT ?_ | refine xqB ?_ | refine xqS ?_)); (repeat refine xc_seq ?_); refine xcR ?_)
 refine xo_mv rfl rfl rfl ?_
 refine xo_notOp rfl rfl rfl ?_
 with_reducible (refine xo_nil ?_; (repeat (first | refine xqT ?_ | refine xqB ?_ | refine xqS ?_)); (repeat refine xc_seq ?_))
 refine xc_condF rfl ?_
 with_reducible (refine xc_skip ?_; (repeat (first | refine xqT ?_ | refine xqB ?_ | refine xqS ?_)))
 cases hsc : sceneF R E gs ms
 · with_reducible repeat refine xc_seq ?_
   with_reducible refine xcR ?_
   refine xo_loadN T_ rfl rfl rfl (by repeat first | exact memH | apply memT | apply memA) rfl rfl ?_
   refine xo_callB (fs := []) (cs := []) rfl rfl rfl ready_enters rfl (fun w1 hw1 => ready_calls R E A B c c2 gs ms w1 (hgr4.below hw1.kx.below) (hmr7.below hw1.kx.below)) ?_
   refine xo_as (i := 21) rfl (congrArg Value.bool hsc) ?_
   refine xo_notOp rfl rfl rfl ?_
   with_reducible (refine xo_nil ?_; (repeat (first | refine xqT ?_ | refine xqB ?_ | refine xqS ?_)); (repeat refine xc_seq ?_))
   refine xc_condT rfl ?_
   with_reducible ((repeat refine xc_seq ?_); refine xcR ?_)
   refine xo_mv rfl rfl rfl ?_
   refine xo_asg rfl rfl rfl ?_
   with_reducible (refine xo_nil ?_; (repeat (first | refine xqT ?_ | refine xqB ?_ | refine xqS ?_)); (repeat refine xc_seq ?_); refine xc_ret ?_; (repeat (first | refine xq_thenR ?_ | refine xq_blockR ?_ | refine xq_scopeR ?_)))
   exact xq_ret1 rfl rfl fun w' hw => ⟨rfl, hw.kx.below⟩
 obtain ⟨hR6, hE6, hG, hm8, hmk⟩ := sceneF_ok hsc
 have hg6 := hG.len
 have hpw := (marks_rise hmk).1
 with_reducible ((repeat refine xc_seq ?_); refine xcR ?_)
 refine xo_loadN T_ rfl rfl rfl (by repeat first | exact memH | apply memT | apply memA) rfl rfl ?_
 refine xo_callB (fs := []) (cs := []) rfl rfl rfl ready_enters rfl (fun w1 hw1 => ready_calls R E A B c c2 gs ms w1 (hgr4.below hw1.kx.below) (hmr7.below hw1.kx.below)) ?_
 refine xo_as (i := 21) rfl (congrArg Value.bool hsc) ?_
 refine xo_notOp rfl rfl rfl ?_
 with_reducible (refine xo_nil ?_; (repeat (first | refine xqT ?_ | refine xqB ?_ | refine xqS ?_)); (repeat refine xc_seq ?_))
 refine xc_condF rfl ?_
 with_reducible (refine xc_skip ?_; (repeat (first | refine xqT ?_ | refine xqB ?_ | refine xqS ?_)); (repeat refine xc_seq ?_); refine xcR ?_)
 refine xo_loadN T_ rfl rfl rfl (by repeat first | exact memH | apply memT | apply memA) rfl rfl ?_
 refine xo_call (fs := []) (cs := []) rfl rfl rfl Against_enters rfl (fun w1 hw1 => (Against_calls R E A B c c2 gs ms w1 (hs.below hw1.kx.below)).mono ?_)
 rintro e w2 ⟨r4, rfl, hrw, hb⟩
 have hhr4 := hrw.1
 have hcap : ∀ p, r4 = some p → (againstL R E gs ms).length ≤ p.2 := fun p hp => by obtain ⟨_, o, _, cur, _, h5, _⟩ := hrw.2 p hp; exact h5
 refine ⟨_, _, rfl, hw1.row hb hrw, ?_⟩
 clear hrw hb hw1
 refine xo_mv rfl rfl rfl ?_
 refine xo_ext rfl rfl rfl rfl ?_
 refine xo_ext rfl rfl rfl rfl ?_
 refine xo_asg rfl rfl rfl ?_
 refine xo_asg rfl rfl rfl ?_
 with_reducible (refine xo_nil ?_; (repeat (first | refine xqT ?_ | refine xqB ?_ | refine xqS ?_)); (repeat refine xc_seq ?_); refine xcR ?_)
 refine xo_loadN T_ rfl rfl rfl (by repeat first | exact memH | apply memT | apply memA) rfl rfl ?_
 refine xo_call (fs := []) (cs := []) rfl rfl rfl Rooms_enters rfl (fun w1 hw1 => (Rooms_calls R E A B c c2 gs ms w1 (hs.below hw1.kx.below)).mono ?_)
 rintro e w2 ⟨r6, rfl, hrw, hb⟩
 have hhr6 := hrw.1
 refine ⟨_, _, rfl, hw1.row hb hrw, ?_⟩
 clear hrw hb hw1
 refine xo_mv rfl rfl rfl ?_
 refine xo_ext rfl rfl rfl rfl ?_
 refine xo_ext rfl rfl rfl rfl ?_
 refine xo_asg rfl rfl rfl ?_
 refine xo_asg rfl rfl rfl ?_
 with_reducible (refine xo_nil ?_; (repeat (first | refine xqT ?_ | refine xqB ?_ | refine xqS ?_)))
 have hck : checkF R E gs ms = 0 := by rw [checkF, if_pos hsc]
 have hhr4 : r4 = none → (againstL R E gs ms).length = 0 := fun q => by rw [hhr4 q]; rfl
 have hhr6 : r6 = none → (roomsR R E gs ms).length = 0 := fun q => by simpa [intsN] using hhr6 q
 rw [hck]
 have hrn : (roomsR R E gs ms).length = (roomsN E R.toNat gs ms).length := by rw [roomsR, if_pos hsc]
 cases hno : decide (((roomsN E R.toNat gs ms).length : Int) = 0)
 · have hne : ¬ (roomsN E R.toNat gs ms).length = 0 := by have := of_decide_eq_false hno; omega
   have hl0 : againstL R E gs ms = [] := by rw [againstL, if_neg]; intro h; exact hne h.2
   have hg0 : decide ((0 : Int) < ((roomsR R E gs ms).length : Int)) = true := decide_eq_true (by omega)
   rw [hl0] at hhr4 ⊢
   refine xc_slots [(2, .bool false), (3, .bool true), (4, .slice (valA r4) ([] : List Int).length (valC r4)), (5, .int .i64 0), (6, .slice (valA r6) (roomsR R E gs ms).length (valC r6)), (7, .int .i64 0)] ⟨rfl, rfl, congrArg some (valR_eq hhr4), rfl, congrArg some (valR_eq hhr6), rfl, trivial⟩ ?_
   with_reducible ((repeat refine xc_seq ?_); refine xcR ?_)
   refine xo_mv rfl rfl rfl ?_
   refine xo_neq rfl rfl rfl rfl ?_
   refine xo_mv rfl rfl rfl ?_
   (first | refine xo_not rfl rfl ?_ | (refine xo_mv rfl rfl rfl ?_))
   (first | refine xo_not rfl rfl ?_ | (refine xo_neq rfl rfl rfl rfl ?_))
   first | refine xo_pickT rfl rfl rfl rfl ?_ | refine xo_pickF rfl rfl rfl rfl ?_
   refine xo_mv rfl rfl rfl ?_
   (first | refine xo_not rfl rfl ?_ | (refine xo_mv rfl rfl rfl ?_))
   (first | refine xo_not rfl rfl ?_ | (refine xo_len T_ rfl rfl rfl rfl ?_))
   (first | refine xo_not rfl rfl ?_ | (refine xo_eql rfl rfl rfl rfl ?_))
   (first | refine xo_not rfl rfl ?_ | (refine xo_mv rfl rfl rfl ?_))
   (first | refine xo_not rfl rfl ?_ | (refine xo_len T_ rfl rfl rfl rfl ?_))
   (first | refine xo_not rfl rfl ?_ | (refine xo_gtr rfl rfl rfl rfl ?_))
   refine xo_as (i := 46) rfl (congrArg Value.bool hg0) ?_
   (first | refine xo_not rfl rfl ?_ | (refine xo_neqB Tryz.underlying4 rfl rfl rfl rfl ?_))
   first | refine xo_pickT rfl rfl rfl rfl ?_ | refine xo_pickF rfl rfl rfl rfl ?_
   with_reducible (refine xo_nil ?_; (repeat (first | refine xqT ?_ | refine xqB ?_ | refine xqS ?_)); (repeat refine xc_seq ?_))
   refine xc_condF rfl ?_
   with_reducible (refine xc_skip ?_; (repeat (first | refine xqT ?_ | refine xqB ?_ | refine xqS ?_)); (repeat refine xc_seq ?_); refine xcR ?_)
   refine xo_mv rfl rfl rfl ?_
   refine xo_len T_ rfl rfl rfl rfl ?_
   refine xo_eql rfl rfl rfl rfl ?_
   with_reducible (refine xo_nil ?_; (repeat (first | refine xqT ?_ | refine xqB ?_ | refine xqS ?_)); (repeat refine xc_seq ?_))
   refine xc_condT rfl ?_
   with_reducible ((repeat refine xc_seq ?_); refine xcR ?_)
   refine xo_mv rfl rfl rfl ?_
   refine xo_asg rfl rfl rfl ?_
   with_reducible (refine xo_nil ?_; (repeat (first | refine xqT ?_ | refine xqB ?_ | refine xqS ?_)); (repeat refine xc_seq ?_); refine xc_ret ?_; (repeat (first | refine xq_thenR ?_ | refine xq_blockR ?_ | refine xq_scopeR ?_)))
   exact xq_ret1 rfl rfl fun w' hw => ⟨rfl, hw.kx.below⟩
 have h0 : (roomsN E R.toNat gs ms).length = 0 := by have := of_decide_eq_true hno; omega
 obtain ⟨q, hq, hpq, hfl, hmin⟩ := fewest_least (p := fun l => decide (((roomsN E R.toNat gs l).length : Int) = 0)) (ms := ms) hno
 have hL : againstL R E gs ms = idsL q := by rw [againstL, if_pos ⟨hsc, h0⟩, hfl]
 have hq0 : (roomsN E R.toNat gs q).length = 0 := by have := of_decide_eq_true hpq; omega
 have hsq : ∀ l : List MarT, List.Sublist l ms → sceneF R E gs l = true ∧ l.length ≤ 8 ∧ BytesK l ∧ checkF R E gs l = 0 ∧ (roomsR R E gs l).length = (roomsN E R.toNat gs l).length := fun l hl =>
   have h1 := scene_sub hsc hl
   ⟨h1, by have := hl.length_le; omega, fun m hm => hk m (hl.subset hm), by rw [checkF, if_pos h1], by rw [roomsR, if_pos h1]⟩
 have hqn : (idsL q).length ≠ 0 := fun h => by
   rw [idsL, List.length_map] at h
   rw [List.eq_nil_of_length_eq_zero h] at hq0
   have : (0 : Nat) ∈ roomsN E R.toNat gs [] := List.mem_filter.2 ⟨List.mem_range.2 (by omega), can_empty hsc 0⟩
   rw [List.eq_nil_of_length_eq_zero hq0] at this
   cases this
 have hqd : decide (((idsL q).length : Int) = 0) = false := decide_eq_false (by omega)
 have hq8 : (idsL q).length ≤ 8 := by rw [idsL, List.length_map]; exact (hsq q hq).2.1
 rw [hL] at hhr4 hcap ⊢
 rcases r4 with _ | ⟨rb, rcap⟩
 · exact absurd (hhr4 rfl) hqn
 have hcap : (idsL q).length ≤ rcap := hcap _ rfl
 rw [hrn, h0] at hhr6 ⊢
 refine xc_slots [(1, .pointer (some ⟨b1, 0, none⟩)), (2, .bool false), (3, .bool true), (4, .slice (some ⟨rb, 0, none⟩) (idsL q).length rcap), (5, .int .i64 0), (6, .slice (valA r6) 0 (valC r6)), (7, .int .i64 0)] ⟨rfl, rfl, rfl, rfl, rfl, congrArg some (valR_eq hhr6), rfl, trivial⟩ ?_
 refine xc_sub (η' := [(rb, true, orow 3 1 (idsL q).length rcap ((idsL q).map (.int .i64))), (b1, true, cel (scnV R A gs.length c E B ms.length c2) 25)]) (by refine List.Sublist.trans ?_ (List.sublist_append_right _ _); exact List.Sublist.refl _) ?_
 with_reducible ((repeat refine xc_seq ?_); refine xcR ?_)
 refine xo_mv rfl rfl rfl ?_
 refine xo_neq rfl rfl rfl rfl ?_
 refine xo_mv rfl rfl rfl ?_
 (first | refine xo_not rfl rfl ?_ | (refine xo_mv rfl rfl rfl ?_))
 (first | refine xo_not rfl rfl ?_ | (refine xo_neq rfl rfl rfl rfl ?_))
 first | refine xo_pickT rfl rfl rfl rfl ?_ | refine xo_pickF rfl rfl rfl rfl ?_
 refine xo_mv rfl rfl rfl ?_
 (first | refine xo_not rfl rfl ?_ | (refine xo_mv rfl rfl rfl ?_))
 (first | refine xo_not rfl rfl ?_ | (refine xo_len T_ rfl rfl rfl rfl ?_))
 (first | refine xo_not rfl rfl ?_ | (refine xo_eql rfl rfl rfl rfl ?_))
 refine xo_as (i := 43) rfl (congrArg Value.bool hqd) ?_
 (first | refine xo_not rfl rfl ?_ | (refine xo_mv rfl rfl rfl ?_))
 (first | refine xo_not rfl rfl ?_ | (refine xo_len T_ rfl rfl rfl rfl ?_))
 (first | refine xo_not rfl rfl ?_ | (refine xo_gtr rfl rfl rfl rfl ?_))
 (first | refine xo_not rfl rfl ?_ | (refine xo_neqB Tryz.underlying4 rfl rfl rfl rfl ?_))
 first | refine xo_pickT rfl rfl rfl rfl ?_ | refine xo_pickF rfl rfl rfl rfl ?_
 with_reducible (refine xo_nil ?_; (repeat (first | refine xqT ?_ | refine xqB ?_ | refine xqS ?_)); (repeat refine xc_seq ?_))
 refine xc_condF rfl ?_
 with_reducible (refine xc_skip ?_; (repeat (first | refine xqT ?_ | refine xqB ?_ | refine xqS ?_)); (repeat refine xc_seq ?_); refine xcR ?_)
 refine xo_mv rfl rfl rfl ?_
 refine xo_len T_ rfl rfl rfl rfl ?_
 refine xo_eql rfl rfl rfl rfl ?_
 refine xo_as (i := 51) rfl (congrArg Value.bool hqd) ?_
 with_reducible (refine xo_nil ?_; (repeat (first | refine xqT ?_ | refine xqB ?_ | refine xqS ?_)); (repeat refine xc_seq ?_))
 refine xc_condF rfl ?_
 with_reducible (refine xc_skip ?_; (repeat (first | refine xqT ?_ | refine xqB ?_ | refine xqS ?_)))
 have hwq := with_sub hpw hq
 have hwd : decide ((q.length : Int) = ((idsL q).length : Int)) = true := decide_eq_true (by rw [idsL, List.length_map])
 have hWith : ∀ w1, Below w.heap.size w w1 → IntsAt w1 (some ⟨rb, 0, none⟩) (idsL q) → Calls Tryz.prog 32 #[.agg (scnV R A gs.length c E B ms.length c2).toArray, .slice (some ⟨rb, 0, none⟩) (idsL q).length rcap] w1 fun e w' => ∃ r : RowR, e = .returned (.tuple #[.agg (scnV R A gs.length c E (valA r) q.length (valC r)).toArray, .bool true]) ∧ RowZ 56 7 q.length w1.heap.size w' r (marL q) ∧ Below w1.heap.size w1 w' := fun w1 hb hI => by
   have h := with_calls R E A B (some ⟨rb, 0, none⟩) c c2 rcap gs ms (idsL q) w1 (hmr7.below hb) hI hm8 hq8
   rw [hwq, hwd] at h
   exact h
 with_reducible ((repeat refine xc_seq ?_); refine xcR ?_)
 refine xo_loadN T_ (b := b1) (cs := scnV R A gs.length c E B ms.length c2) rfl rfl rfl (by repeat first | exact memH | apply memT | apply memA) rfl rfl ?_
 refine xo_mv rfl rfl rfl ?_
 refine xo_call (fs := []) (cs := []) rfl rfl rfl with_enters rfl (fun w1 hw1 => (hWith w1 hw1.kx.below (intsAt_row (r := some (rb, rcap)) (hw1.bl_of fun e he => by rw [List.mem_singleton.1 he]; exact List.Mem.head _) (fun q => by cases q))).mono ?_)
 rintro e w2 ⟨r8, rfl, hrw, hb⟩
 have hh8 := hrw.1
 refine ⟨_, _, rfl, hw1.rowZ hb hrw, ?_⟩
 clear hrw hb hw1
 refine xo_mv rfl rfl rfl ?_
 refine xo_ext rfl rfl rfl rfl ?_
 refine xo_ext rfl rfl rfl rfl ?_
 refine xo_alloc T_ rfl rfl rfl rfl (fun b8 => ?_)
 refine xo_store T_ rfl rfl rfl rfl (by repeat first | exact memH | apply memT | apply memA) rfl rfl rfl rfl (by repeat (first | exact Upd.head | apply Upd.tail | apply Upd.app)) rfl ?_
 refine xo_asg rfl rfl rfl ?_
 with_reducible (refine xo_nil ?_; (repeat (first | refine xqT ?_ | refine xqB ?_ | refine xqS ?_)))
 have hrq : roomsR R E gs q = [] := List.eq_nil_of_length_eq_zero (by rw [(hsq q hq).2.2.2.2, hq0])
 with_reducible ((repeat refine xc_seq ?_); refine xcR ?_)
 refine xo_loadN T_ rfl rfl rfl (by repeat first | exact memH | apply memT | apply memA) rfl rfl ?_
 refine xo_call (fs := []) (cs := []) rfl rfl rfl Rooms_enters rfl (fun w1 hw1 => (Rooms_calls R E A (valA r8) c (valC r8) gs q w1 ⟨Kd.C_below hA hw1.kx.below, marks_Z (by have := (hsq q hq).2.1; omega) hh8 (hw1.bl_of (fun e he => by repeat (first | exact he | exact List.mem_append_left _ he | apply List.mem_append_right | apply List.Mem.tail))), (hsq q hq).2.2.1, hglob.below hw1.kx.below⟩).mono ?_)
 rw [hrq, (hsq q hq).2.2.2.1]
 rintro e w2 ⟨r10, rfl, hrw, hb⟩
 have hh10 := hrw.1
 refine ⟨_, _, rfl, hw1.row hb hrw, ?_⟩
 clear hrw hb hw1
 refine xo_mv rfl rfl rfl ?_
 refine xo_ext rfl rfl rfl rfl ?_
 refine xo_ext rfl rfl rfl rfl ?_
 refine xo_asg rfl rfl rfl ?_
 refine xo_asg rfl rfl rfl ?_
 with_reducible (refine xo_nil ?_; (repeat (first | refine xqT ?_ | refine xqB ?_ | refine xqS ?_)))
 refine xc_slots [(1, .pointer (some ⟨b1, 0, none⟩)), (2, .bool false), (3, .bool true), (4, .slice (some ⟨rb, 0, none⟩) (idsL q).length rcap), (9, .bool true), (10, .slice (valA r10) 0 (valC r10)), (11, .int .i64 0)] ⟨rfl, rfl, rfl, rfl, rfl, congrArg some (valR_eq fun _ => rfl), rfl, trivial⟩ ?_
 refine xc_sub (η' := [(rb, true, orow 3 1 (idsL q).length rcap ((idsL q).map (.int .i64))), (b1, true, cel (scnV R A gs.length c E B ms.length c2) 25)]) (by repeat (first | exact List.Sublist.refl _ | refine List.Sublist.trans ?_ (List.sublist_append_right _ _) | refine List.Sublist.trans ?_ (List.sublist_cons_self _ _))) ?_
 with_reducible ((repeat refine xc_seq ?_); refine xcR ?_)
 refine xo_mv rfl rfl rfl ?_
 refine xo_notOp rfl rfl rfl ?_
 refine xo_mv rfl rfl rfl ?_
 (first | refine xo_not rfl rfl ?_ | (refine xo_mv rfl rfl rfl ?_))
 (first | refine xo_not rfl rfl ?_ | (refine xo_neq rfl rfl rfl rfl ?_))
 first | refine xo_pickT rfl rfl rfl rfl ?_ | refine xo_pickF rfl rfl rfl rfl ?_
 refine xo_mv rfl rfl rfl ?_
 (first | refine xo_not rfl rfl ?_ | (refine xo_mv rfl rfl rfl ?_))
 (first | refine xo_not rfl rfl ?_ | (refine xo_len T_ rfl rfl rfl rfl ?_))
 (first | refine xo_not rfl rfl ?_ | (refine xo_neq rfl rfl rfl rfl ?_))
 first | refine xo_pickT rfl rfl rfl rfl ?_ | refine xo_pickF rfl rfl rfl rfl ?_
 with_reducible (refine xo_nil ?_; (repeat (first | refine xqT ?_ | refine xqB ?_ | refine xqS ?_)); (repeat refine xc_seq ?_))
 refine xc_condF rfl ?_
 with_reducible (refine xc_skip ?_; (repeat (first | refine xqT ?_ | refine xqB ?_ | refine xqS ?_)); (repeat refine xc_seq ?_); refine xcR ?_)
 refine xo_mv rfl rfl rfl ?_
 refine xo_len T_ rfl rfl rfl rfl ?_
 refine xo_mv rfl rfl rfl ?_
 with_reducible (refine xo_nil ?_; (repeat (first | refine xqT ?_ | refine xqB ?_ | refine xqS ?_)); (repeat refine xc_seq ?_); refine xc_block ?_)
 · refine xc_loop (γ := Nat) (fun k => k ≤ (idsL q).length) (fun k => [(1, .pointer (some ⟨b1, 0, none⟩)), (2, .bool false), (3, .bool true), (4, .slice (some ⟨rb, 0, none⟩) (idsL q).length rcap), (75, .slice (some ⟨rb, 0, none⟩) (idsL q).length rcap), (76, .int .i64 ((idsL q).length : Int)), (77, .int .i64 (k : Int))])
     (fun _ => [(rb, true, orow 3 1 (idsL q).length rcap ((idsL q).map (.int .i64))), (b1, true, cel (scnV R A gs.length c E B ms.length c2) 25)]) (fun k => (idsL q).length - k) 0 (Nat.zero_le _) ⟨rfl, rfl, rfl, rfl, rfl, rfl, rfl, trivial⟩ (List.Sublist.refl _) ?_
   intro k hkl
   with_reducible ((repeat refine xc_seq ?_); refine xcR ?_)
   refine xo_lss rfl rfl rfl rfl ?_
   with_reducible (refine xo_nil ?_; (repeat (first | refine xqT ?_ | refine xqB ?_ | refine xqS ?_)); (repeat refine xc_seq ?_))
   refine xc_cond rfl (fun h => ?_) (fun h => ?_)
   · have hlt : k < (idsL q).length := by have := of_decide_eq_true h; omega
     with_reducible (refine xc_skip ?_; (repeat (first | refine xqT ?_ | refine xqB ?_ | refine xqS ?_)); (repeat refine xc_seq ?_); refine xc_block ?_; (repeat refine xc_seq ?_); refine xcR ?_)
     refine xo_mv rfl rfl rfl ?_
     refine xo_asg rfl rfl rfl ?_
     with_reducible (refine xo_nil ?_; (repeat (first | refine xqT ?_ | refine xqB ?_ | refine xqS ?_)))
     refine xc_slots [(1, .pointer (some ⟨b1, 0, none⟩)), (2, .bool false), (3, .bool true), (4, .slice (some ⟨rb, 0, none⟩) (idsL q).length rcap), (12, .int .i64 (k : Int)), (75, .slice (some ⟨rb, 0, none⟩) (idsL q).length rcap), (76, .int .i64 ((idsL q).length : Int)), (77, .int .i64 (k : Int))] ⟨rfl, rfl, rfl, rfl, rfl, rfl, rfl, rfl, trivial⟩ ?_
     have hm4 : (rb, true, orow 3 1 (idsL q).length rcap ((idsL q).map (.int .i64))) ∈ [(rb, true, orow 3 1 (idsL q).length rcap ((idsL q).map (.int .i64))), (b1, true, cel (scnV R A gs.length c E B ms.length c2) 25)] := List.Mem.head _
     have hm1 : (b1, true, cel (scnV R A gs.length c E B ms.length c2) 25) ∈ [(rb, true, orow 3 1 (idsL q).length rcap ((idsL q).map (.int .i64))), (b1, true, cel (scnV R A gs.length c E B ms.length c2) 25)] := List.Mem.tail _ (List.Mem.head _)
     generalize hη : [(rb, true, orow 3 1 (idsL q).length rcap ((idsL q).map (.int .i64))), (b1, true, cel (scnV R A gs.length c E B ms.length c2) 25)] = η1 at hm4 hm1 ⊢
     with_reducible (repeat refine xc_seq ?_)
     refine xc_drawG (fun g : CH × AL => [Value.agg (scnV R A gs.length c E B ms.length c2).toArray, .slice (some ⟨g.1.b1, 0, none⟩) 0 0, .slice (some ⟨rb, 0, none⟩) (idsL q).length rcap, .int .i64 (k : Int), .slice (some ⟨rb, 0, none⟩) k rcap, .slice (some ⟨g.1.b5, 0, none⟩) (0 + k) g.1.k5, .slice (some ⟨rb, 0, none⟩) (idsL q).length rcap, .int .i64 (k : Int), .int .i64 ((k : Int) + 1), .slice (some (fromB rb (k + 1) rcap)) ((idsL q).length - (k + 1)) (rcap - (k + 1)), .slice (some ⟨g.1.b10, 0, none⟩) (0 + k + ((idsL q).length - (k + 1))) g.1.k10, tupW R E A c gs q k g.1.r, tupW R E A c gs q k g.1.r, aggW R E A c gs q k g.1.r, .bool true, .pointer (some ⟨g.2.b, 0, none⟩), undef, .bool true]) (wgH R E A c gs q k η1) (fun L g => okW L g ∧ CH.fact (q.eraseIdx k).length g.1) (.c0, .a0) ?_ rfl (fun g => rfl) T_.mixed rfl rfl rfl rfl ?_ ?_
     · exact ⟨okW_0, trivial⟩
     · apply DrawG.pure (fun L g h => by cases g <;> exact ⟨okW_pure (by decide) h.1, h.2⟩)
       · intro L g hg hi hd τ
         cases g
         all_goals first
           | exact absurd (hg 0 (by decide)) hi
           | (refine ⟨_, rfl, ?_⟩; refine xo_loadN T_ (b := b1) (cs := scnV R A gs.length c E B ms.length c2) rfl rfl rfl (List.mem_append_right _ (List.mem_append_right _ hm1)) rfl rfl ?_; exact xo_fin rfl)
       apply DrawG.cons
       · intro L g hg hi hd τ
         obtain ⟨c_, a_⟩ := g
         obtain ⟨rfl, hn⟩ := okW_1 hg.1 hi
         refine xo_bs0 T_ 1 rfl rfl rfl rfl (fun b9 => ?_)
         exact xo_nil fun a w1 ha hw1 => ⟨(.c1 b9, a_), ⟨hn b9, trivial⟩, (fun j hj => by rcases j with _ | _ | _ | _ | _ | _ | _ | _ | _ | _ | _ | _ | _ | _ | _ | _ | _ | _ | j <;> first | rfl | exact absurd hj hi), ⟨_, rfl, ha⟩, hw1⟩
       apply DrawG.pure (fun L g h => by cases g <;> exact ⟨okW_pure (by decide) h.1, h.2⟩)
       · intro L g hg hi hd τ
         cases g
         all_goals first
           | exact absurd (hg 2 (by decide)) hi
           | (refine ⟨_, rfl, ?_⟩; refine xo_mv rfl rfl rfl ?_; exact xo_fin rfl)
       apply DrawG.pure (fun L g h => by cases g <;> exact ⟨okW_pure (by decide) h.1, h.2⟩)
       · intro L g hg hi hd τ
         cases g
         all_goals first
           | exact absurd (hg 3 (by decide)) hi
           | (refine ⟨_, rfl, ?_⟩; refine xo_mv rfl rfl rfl ?_; exact xo_fin rfl)
       apply DrawG.pure (fun L g h => by cases g <;> exact ⟨okW_pure (by decide) h.1, h.2⟩)
       · intro L g hg hi hd τ
         cases g
         all_goals first
           | exact absurd (hg 4 (by decide)) hi
           | (refine ⟨_, rfl, ?_⟩; refine xo_sliceHi T_ rfl rfl rfl rfl rfl (by omega) rfl ?_; exact xo_fin rfl)
       apply DrawG.cons
       · intro L g hg hi hd τ
         obtain ⟨c_, a_⟩ := g
         obtain ⟨⟨g1, rfl⟩, hn⟩ := okW_5 hg.1 hi (hd 1 (by decide))
         refine xo_appN TR_ (r := some (g1, 0)) (m := 0) (xs := []) (news := ((idsL q).take k).map (.int .i64)) (η0 := alH R E A c gs q k a_ ++ η1) rfl rfl rfl rfl rfl rfl rfl rfl rfl (by rw [List.length_map, List.length_take]; omega) (fun h => by cases h) (fun p hp w1 hw1 j u hj => ?_) (fun u hu => by obtain ⟨x, _, rfl⟩ := List.mem_map.1 hu; rfl) (fun h => by cases h) (by omega) rfl rfl (fun r9 hr9 => ?_)
         · obtain rfl := Option.some.inj hp
           rw [Addr.add_lit, Nat.zero_add]
           refine row_cells (hw1.bl_of fun e he => by rw [List.mem_singleton.1 he]; exact List.mem_append_right _ (List.mem_append_right _ hm4)) ?_
           rw [List.map_take] at hj
           rw [List.getElem?_take] at hj
           split at hj
           · exact hj
           · cases hj
         rcases r9 with _ | ⟨b9, k9⟩
         · exact absurd (hr9 rfl).1 (by simp)
         exact xo_nil fun a w1 ha hw1 => ⟨(.c2 g1 b9 k9, a_), ⟨hn b9 k9, trivial⟩, (fun j hj => by rcases j with _ | _ | _ | _ | _ | _ | _ | _ | _ | _ | _ | _ | _ | _ | _ | _ | _ | _ | j <;> first | rfl | exact absurd hj hi), ⟨_, rfl, ha⟩, hw1⟩
       apply DrawG.pure (fun L g h => by cases g <;> exact ⟨okW_pure (by decide) h.1, h.2⟩)
       · intro L g hg hi hd τ
         cases g
         all_goals first
           | exact absurd (hg 6 (by decide)) hi
           | (refine ⟨_, rfl, ?_⟩; refine xo_mv rfl rfl rfl ?_; exact xo_fin rfl)
       apply DrawG.pure (fun L g h => by cases g <;> exact ⟨okW_pure (by decide) h.1, h.2⟩)
       · intro L g hg hi hd τ
         cases g
         all_goals first
           | exact absurd (hg 7 (by decide)) hi
           | (refine ⟨_, rfl, ?_⟩; refine xo_mv rfl rfl rfl ?_; exact xo_fin rfl)
       apply DrawG.pure (fun L g h => by cases g <;> exact ⟨okW_pure (by decide) h.1, h.2⟩)
       · intro L g hg hi hd τ
         cases g
         all_goals first
           | exact absurd (hg 8 (by decide)) hi
           | (refine ⟨_, rfl, ?_⟩; refine xo_add rfl rfl rfl (by omega) rfl ?_; exact xo_fin rfl)
       apply DrawG.pure (fun L g h => by cases g <;> exact ⟨okW_pure (by decide) h.1, h.2⟩)
       · intro L g hg hi hd τ
         cases g
         all_goals first
           | exact absurd (hg 9 (by decide)) hi
           | (refine ⟨_, rfl, ?_⟩; refine xo_sliceLoE T_ (i := k + 1) rfl rfl rfl rfl rfl (by omega) rfl ?_; exact xo_fin rfl)
       apply DrawG.cons
       · intro L g hg hi hd τ
         obtain ⟨c_, a_⟩ := g
         obtain ⟨⟨g1, g5, e5, rfl⟩, hn⟩ := okW_10 hg.1 hi (hd 5 (by decide))
         refine xo_appN TR_ (r := some (g5, e5)) (m := 0 + k) (xs := [] ++ ((idsL q).take k).map (.int .i64)) (news := ((idsL q).drop (k + 1)).map (.int .i64)) (η0 := alH R E A c gs q k a_ ++ η1) rfl rfl rfl rfl rfl rfl rfl rfl (by rw [List.nil_append, List.length_map, List.length_take]; omega) (by rw [List.length_map, List.length_drop]; omega) (fun h => by cases h) (fun p hp w1 hw1 j u hj => ?_) (fun u hu => by obtain ⟨x, _, rfl⟩ := List.mem_map.1 hu; rfl) (fun h => by cases h) (by omega) rfl rfl (fun r9 hr9 => ?_)
         · obtain rfl := Option.some.inj hp
           have hjl := (List.getElem?_eq_some_iff.1 hj).1
           rw [List.length_map, List.length_drop] at hjl
           rw [fromB, if_neg (by omega), Addr.add_lit]
           refine row_cells (hw1.bl_of fun e he => by rw [List.mem_singleton.1 he]; exact List.mem_append_right _ (List.mem_append_right _ hm4)) ?_
           rw [List.map_drop, List.getElem?_drop] at hj
           exact hj
         rcases r9 with _ | ⟨b9, k9⟩
         · exact absurd (hr9 rfl).1 (by simp)
         exact xo_nil fun a w1 ha hw1 => ⟨(.c3 g1 g5 e5 b9 k9, a_), ⟨hn b9 k9, trivial⟩, (fun j hj => by rcases j with _ | _ | _ | _ | _ | _ | _ | _ | _ | _ | _ | _ | _ | _ | _ | _ | _ | _ | j <;> first | rfl | exact absurd hj hi), ⟨_, rfl, ha⟩, hw1⟩
       apply DrawG.cons
       · intro L g hg hi hd τ
         obtain ⟨c_, a_⟩ := g
         obtain ⟨⟨g1, g5, e5, g10, e10, rfl⟩, ⟨h12, h13⟩, hn⟩ := okW_11 hg.1 hi (hd 10 (by decide))
         refine xo_call (fs := []) (cs := []) rfl rfl rfl with_enters rfl (fun w1 hw1 => (with_less R E A B c c2 g10 e10 k gs ms q w1 (hmr7.below hw1.kx.below) hm8 hpw hq hlt (hw1.bl_of fun e he => by rw [List.mem_singleton.1 he]; exact List.mem_append_left _ (List.Mem.head _))).mono ?_)
         rintro e w2 ⟨r9, rfl, hrw, hb⟩
         have hh9 := hrw.1
         refine ⟨_, _, rfl, hw1.rowZ hb hrw, ?_⟩
         clear hrw hb hw1
         exact xo_nil fun a w1 ha hw1 => ⟨(.c4 g1 g5 e5 g10 e10 r9, a_), ⟨hn r9, hh9⟩, (fun j hj => by rcases j with _ | _ | _ | _ | _ | _ | _ | _ | _ | _ | _ | _ | _ | _ | _ | _ | _ | _ | j <;> first | rfl | exact absurd hj hi | exact absurd hj h12 | exact absurd hj h13), ⟨_, rfl, ha⟩, hw1.sub (List.Sublist.append (List.Sublist.refl _) (List.sublist_cons_self _ _))⟩
       apply DrawG.cons
       · intro L g hg hi hd τ
         refine xo_mv rfl rfl rfl ?_
         exact xo_nil fun a w1 ha hw1 => ⟨g, ⟨okW_12 hg.1 (hd 11 (by decide)), hg.2⟩, fun _ _ => rfl, ⟨_, rfl, ha⟩, hw1⟩
       apply DrawG.cons
       · intro L g hg hi hd τ
         refine xo_ext rfl rfl rfl rfl ?_
         exact xo_nil fun a w1 ha hw1 => ⟨g, ⟨okW_13 hg.1 (hd 12 (by decide)), hg.2⟩, fun _ _ => rfl, ⟨_, rfl, ha⟩, hw1⟩
       apply DrawG.pure (fun L g h => by cases g <;> exact ⟨okW_pure (by decide) h.1, h.2⟩)
       · intro L g hg hi hd τ
         cases g
         all_goals first
           | exact absurd (hg 14 (by decide)) hi
           | (refine ⟨_, rfl, ?_⟩; refine xo_ext rfl rfl rfl rfl ?_; exact xo_fin rfl)
       apply DrawG.cons
       · intro L g hg hi hd τ
         obtain ⟨c_, a_⟩ := g
         obtain ⟨rfl, hn⟩ := okW_15 hg.1 hi
         refine xo_alloc T_ rfl rfl rfl rfl (fun b9 => ?_)
         exact xo_nil fun a w1 ha hw1 => ⟨(c_, .a1 b9), ⟨hn b9, hg.2⟩, (fun j hj => by rcases j with _ | _ | _ | _ | _ | _ | _ | _ | _ | _ | _ | _ | _ | _ | _ | _ | _ | _ | j <;> first | rfl | exact absurd hj hi), ⟨_, rfl, ha⟩, hw1.perm List.perm_middle.symm⟩
       apply DrawG.cons
       · intro L g hg hi hd τ
         obtain ⟨c_, a_⟩ := g
         obtain ⟨⟨g1, g5, e5, g10, e10, r9, rfl⟩, ⟨b9, rfl⟩, hn⟩ := okW_16 hg.1 hi (hd 11 (by decide)) (hd 15 (by decide))
         refine xo_store T_ (b := b9) (cs := [.int .i64 0, .slice none 0 0, .int .i64 0, .slice none 0 0]) (cs' := scnV R A gs.length c E (valA r9) (q.eraseIdx k).length (valC r9)) (vs := scnV R A gs.length c E (valA r9) (q.eraseIdx k).length (valC r9)) rfl rfl rfl rfl (List.mem_append_right _ (List.Mem.head _)) rfl rfl rfl rfl (by repeat (first | exact Upd.head | apply Upd.tail | apply Upd.app)) rfl ?_
         exact xo_nil fun a w1 ha hw1 => ⟨(.c4 g1 g5 e5 g10 e10 r9, .a2 b9 r9), ⟨hn, hg.2⟩, fun _ _ => rfl, ⟨_, rfl, ha⟩, hw1⟩
       apply DrawG.pure (fun L g h => by cases g <;> exact ⟨okW_pure (by decide) h.1, h.2⟩)
       · intro L g hg hi hd τ
         cases g
         all_goals first
           | exact absurd (hg 17 (by decide)) hi
           | (refine ⟨_, rfl, ?_⟩; refine xo_asg rfl rfl rfl ?_; exact xo_fin rfl)
       exact DrawG.nil
     intro L g hg hall
     obtain ⟨c_, a_⟩ := g
     obtain ⟨⟨g1, g5, e5, g10, e10, r9, rfl⟩, b9, rfl⟩ := okW_all hg.1 (hall 16 (by decide))
     with_reducible (repeat (first | refine xqT ?_ | refine xqB ?_ | refine xqS ?_))
     subst hη
     have hf9 : r9 = none → (q.eraseIdx k).length = 0 := hg.2
     have hke : k < q.length := by rw [idsL, List.length_map] at hlt; exact hlt
     have hqe : List.Sublist (q.eraseIdx k) ms := (List.eraseIdx_sublist q k).trans hq
     have hne : (roomsN E R.toNat gs (q.eraseIdx k)).length ≠ 0 := fun e => by
       have := of_decide_eq_false (hmin k hke)
       omega
     have hrl := (hsq _ hqe).2.2.2.2
     have hrd : decide (((roomsR R E gs (q.eraseIdx k)).length : Int) = 0) = false := decide_eq_false (by omega)
     refine xc_slots [(1, .pointer (some ⟨b1, 0, none⟩)), (2, .bool false), (3, .bool true), (4, .slice (some ⟨rb, 0, none⟩) (idsL q).length rcap), (13, .pointer (some ⟨b9, 0, none⟩)), (14, .bool true), (75, .slice (some ⟨rb, 0, none⟩) (idsL q).length rcap), (76, .int .i64 ((idsL q).length : Int)), (77, .int .i64 (k : Int))] ⟨rfl, rfl, rfl, rfl, rfl, rfl, rfl, rfl, rfl, trivial⟩ ?_
     refine xc_sub (η' := hpR 56 7 r9 (q.eraseIdx k).length (marL (q.eraseIdx k)) ++ [(b9, true, cel (scnV R A gs.length c E (valA r9) (q.eraseIdx k).length (valC r9)) 25), (rb, true, orow 3 1 (idsL q).length rcap ((idsL q).map (.int .i64))), (b1, true, cel (scnV R A gs.length c E B ms.length c2) 25)]) (List.Sublist.refl _) ?_
     with_reducible ((repeat refine xc_seq ?_); refine xcR ?_)
     refine xo_loadN T_ rfl rfl rfl (by repeat first | exact memH | apply memT | apply memA) rfl rfl ?_
     refine xo_call (fs := []) (cs := []) rfl rfl rfl Rooms_enters rfl (fun w1 hw1 => (Rooms_calls R E A (valA r9) c (valC r9) gs (q.eraseIdx k) w1 ⟨Kd.C_below hA hw1.kx.below, marks_Z (by have := (hsq _ hqe).2.1; omega) hf9 (hw1.bl_of (fun e he => by repeat (first | exact he | exact List.mem_append_left _ he | apply List.mem_append_right | apply List.Mem.tail))), (hsq _ hqe).2.2.1, hglob.below hw1.kx.below⟩).mono ?_)
     rw [(hsq _ hqe).2.2.2.1]
     rintro e w2 ⟨r15, rfl, hrw, hb⟩
     have hh15 := hrw.1
     refine ⟨_, _, rfl, hw1.row hb hrw, ?_⟩
     clear hrw hb hw1
     refine xo_mv rfl rfl rfl ?_
     refine xo_ext rfl rfl rfl rfl ?_
     refine xo_ext rfl rfl rfl rfl ?_
     refine xo_asg rfl rfl rfl ?_
     refine xo_asg rfl rfl rfl ?_
     with_reducible (refine xo_nil ?_; (repeat (first | refine xqT ?_ | refine xqB ?_ | refine xqS ?_)))
     have hh15 : r15 = none → (roomsR R E gs (q.eraseIdx k)).length = 0 := fun e => by simpa [intsN] using hh15 e
     refine xc_slots [(1, .pointer (some ⟨b1, 0, none⟩)), (2, .bool false), (3, .bool true), (4, .slice (some ⟨rb, 0, none⟩) (idsL q).length rcap), (14, .bool true), (15, .slice (valA r15) (roomsR R E gs (q.eraseIdx k)).length (valC r15)), (16, .int .i64 0), (75, .slice (some ⟨rb, 0, none⟩) (idsL q).length rcap), (76, .int .i64 ((idsL q).length : Int)), (77, .int .i64 (k : Int))] ⟨rfl, rfl, rfl, rfl, rfl, congrArg some (valR_eq hh15), rfl, rfl, rfl, rfl, trivial⟩ ?_
     refine xc_sub (η' := [(rb, true, orow 3 1 (idsL q).length rcap ((idsL q).map (.int .i64))), (b1, true, cel (scnV R A gs.length c E B ms.length c2) 25)]) (by repeat (first | exact List.Sublist.refl _ | refine List.Sublist.trans ?_ (List.sublist_append_right _ _) | refine List.Sublist.trans ?_ (List.sublist_cons_self _ _))) ?_
     with_reducible ((repeat refine xc_seq ?_); refine xcR ?_)
     refine xo_mv rfl rfl rfl ?_
     refine xo_notOp rfl rfl rfl ?_
     refine xo_mv rfl rfl rfl ?_
     (first | refine xo_not rfl rfl ?_ | (refine xo_mv rfl rfl rfl ?_))
     (first | refine xo_not rfl rfl ?_ | (refine xo_neq rfl rfl rfl rfl ?_))
     first | refine xo_pickT rfl rfl rfl rfl ?_ | refine xo_pickF rfl rfl rfl rfl ?_
     refine xo_mv rfl rfl rfl ?_
     (first | refine xo_not rfl rfl ?_ | (refine xo_mv rfl rfl rfl ?_))
     (first | refine xo_not rfl rfl ?_ | (refine xo_len T_ rfl rfl rfl rfl ?_))
     (first | refine xo_not rfl rfl ?_ | (refine xo_eql rfl rfl rfl rfl ?_))
     refine xo_as (i := 109) rfl (congrArg Value.bool hrd) ?_
     first | refine xo_pickT rfl rfl rfl rfl ?_ | refine xo_pickF rfl rfl rfl rfl ?_
     with_reducible (refine xo_nil ?_; (repeat (first | refine xqT ?_ | refine xqB ?_ | refine xqS ?_)); (repeat refine xc_seq ?_))
     refine xc_condF rfl ?_
     with_reducible (refine xc_skip ?_; (repeat (first | refine xqT ?_ | refine xqB ?_ | refine xqS ?_)); (repeat refine xc_seq ?_); refine xcR ?_)
     refine xo_add rfl rfl rfl (by omega) rfl ?_
     refine xo_mv rfl rfl rfl ?_
     with_reducible (refine xo_nil ?_; (repeat (first | refine xqT ?_ | refine xqB ?_ | refine xqS ?_)))
     exact xq_again _ _ _ _ _ (k + 1) hlt (by omega) ⟨rfl, rfl, rfl, rfl, rfl, rfl, rfl, trivial⟩ (List.Sublist.refl _)
   · with_reducible refine xc_exit ?_
     with_reducible ((repeat (first | refine xq_blockX ?_ | refine xq_thenE ?_ | refine xq_blockE rfl ?_ | refine xq_scopeE ?_)); (repeat (first | refine xqT ?_ | refine xqB ?_ | refine xqS ?_)); (repeat refine xc_seq ?_); refine xcR ?_)
     refine xo_mv rfl rfl rfl ?_
     refine xo_asg rfl rfl rfl ?_
     with_reducible (refine xo_nil ?_; (repeat (first | refine xqT ?_ | refine xqB ?_ | refine xqS ?_)); (repeat refine xc_seq ?_); refine xc_ret ?_; (repeat (first | refine xq_thenR ?_ | refine xq_blockR ?_ | refine xq_scopeR ?_)))
     exact xq_ret1 rfl rfl fun w' hw => ⟨rfl, hw.kx.below⟩
end Go.Proofs.YtommeljlfkmpjaaGreatDoor
namespace Go.Proofs.YtommeljlfkmpjaaGreatDoor
open Go.ChangeShapes Go.WideShapes Go.RowKit
set_option linter.unusedVariables false
set_option linter.unusedSimpArgs false
def laidL : List (String × DataW Unit) := [("cottonpad/origin.nowhere", Rows.laid_cottonpad_origin_nowhere)]
theorem gNow : Tryz.prog.globalNamed "cottonpad/origin.nowhere" = some 0 := by kernel_rfl
theorem tNow : (Tryz.prog.globals[0]?).map (·.type) = some 45 := by kernel_rfl
theorem door_met (os : Os) (args : Array Value) : laidMetH Tryz.prog laidL ((World.doorLaid Tryz.prog 400 os).forCall (fun _ _ => 0) ⟨#[], args, []⟩).memory :=
 laidMetH_of_parts3 (fuel := 8) (laidMet_of_run' 8 (by kernel_rfl) (by kernel_rfl)) (by kernel_rfl) (by kernel_rfl)
theorem trod_pair {P : Program} {H : Type} {enc : TypeId × Value → H} {w : World} {fuel : Nat} {bb : Bool} {t ta tb : TypeId} {f g : Field} {a b : Value} {d : DataW H} {ps : List MemPlace}
   (ht : P.underlying t = some (.struct #[f, g])) (h1 : f.type = ta) (h2 : f.offset = 0) (h3 : g.type = tb) (h4 : g.offset = 1) (hA : P.cellsOf ta = 1) (hB : P.cellsOf tb = 1)
   (h : DataW.trod enc P w 0 (fun _ => true) bb (fuel + 1) t [a, b] = some (d, ps)) :
   ∃ x y, DataW.trod enc P w 0 (fun _ => true) bb fuel ta [a] = some x ∧ DataW.trod enc P w 0 (fun _ => true) bb fuel tb [b] = some y ∧ d = .agg [x.1, y.1] := by
 unfold DataW.trod at h
 rw [ht] at h
 simp only [List.length_cons, List.length_nil] at h
 split at h
 · simp only [List.mapM_cons, List.mapM_nil, h1, h2, h3, h4, hA, hB, List.drop_zero, List.take_succ_cons, List.take_zero, List.drop_succ_cons, Option.map_eq_some_iff] at h
   obtain ⟨xs, h, e⟩ := h
   cases hx : DataW.trod enc P w 0 (fun _ => true) bb fuel ta [a] with
   | none => simp [hx] at h
   | some x =>
     cases hy : DataW.trod enc P w 0 (fun _ => true) bb fuel tb [b] with
     | none => simp [hx, hy] at h
     | some y =>
       simp [hx, hy] at h
       subst h
       simp at e
       exact ⟨x, y, rfl, rfl, e.1.symm⟩
 · simp at h
theorem trod_lenS {P : Program} {H : Type} {enc : TypeId × Value → H} {w : World} {fuel : Nat} {bb : Bool} {t : TypeId} {fs : Array Field} {l : List Value} {x : DataW H × List MemPlace}
   (ht : P.underlying t = some (.struct fs)) (h : DataW.trod enc P w 0 (fun _ => true) bb fuel t l = some x) : l.length = P.cellsOf t := by
 cases fuel with
 | zero => simp [DataW.trod] at h
 | succ m =>
   by_cases hl : l.length = P.cellsOf t
   · exact hl
   · exfalso
     unfold DataW.trod at h
     rw [ht] at h
     simp [hl] at h
theorem trod_int {P : Program} {H : Type} {enc : TypeId × Value → H} {w : World} {fuel : Nat} {bb : Bool} {t : TypeId} {k : IntKind} {a : Value} {n : Int} {ps : List MemPlace} (hu : P.underlying t = some (.int k))
   (h : DataW.trod enc P w 0 (fun _ => true) bb fuel t [a] = some (.lit (.int .i64 n), ps)) : a = .int .i64 n := by
 cases fuel with
 | zero => simp [DataW.trod] at h
 | succ fuel =>
   unfold DataW.trod at h
   rw [hu] at h
   split at h <;> simp_all
set_option maxRecDepth 100000 in
theorem glob_of_laid {W : World} (h : laidMetH Tryz.prog laidL W) : GlobO W := by
 have h' : laidMet Tryz.prog laidL W := h
 obtain ⟨ps, ⟨g, t, cs, fuel, p, q, hg, ht, hv, hd, _, _⟩, _, _⟩ := h'
 obtain rfl := Option.some.inj (gNow.symm.trans hg)
 obtain rfl := Option.some.inj (tNow.symm.trans ht)
 have hd' : DataW.trod (fun _ => ()) Tryz.prog W 0 (fun _ => true) false fuel 45 cs.toList = some (.agg [.lit (.int .i64 1073741824), .lit (.int .i64 (-1073741824))], p) := hd
 have hlen : cs.toList.length = 2 := (trod_lenS Tryz.underlying45 hd').trans (by kernel_rfl)
 obtain ⟨l⟩ := cs
 match l, hlen with
 | [a, b], _ =>
   cases fuel with
   | zero => simp [DataW.trod] at hd'
   | succ n =>
     obtain ⟨x, y, hx, hy, e⟩ := trod_pair (ta := 3) (tb := 3) Tryz.underlying45 rfl rfl rfl rfl (by kernel_rfl) (by kernel_rfl) hd'
     simp only [DataW.agg.injEq, List.cons.injEq, and_true] at e
     obtain ⟨x1, x2⟩ := x
     obtain ⟨y1, y2⟩ := y
     simp only at e
     obtain ⟨rfl, rfl⟩ := e
     obtain rfl := trod_int Tryz.underlying3 hx
     obtain rfl := trod_int Tryz.underlying3 hy
     unfold World.var? at hv
     rw [gNow] at hv
     simp only [Option.bind_some] at hv
     cases hh : W.heap[0]? with
     | none => simp [hh] at hv
     | some o =>
       cases o <;> simp [hh] at hv
       subst hv
       refine ro_of fun j v hj => ?_
       rw [Addr.add_lit, Nat.zero_add]
       unfold World.cell?
       rw [hh]
       have hj' : ([.int .i64 1073741824, .int .i64 (-1073741824)] : List Value)[j]? = some v := hj
       simpa using hj'
end Go.Proofs.YtommeljlfkmpjaaGreatDoor
