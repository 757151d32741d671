/- law08.TrustOrder: the walk. -/
import Derived.Test.YtcmepdamemnbkaaDoorPkLawTrustOrder8
namespace Go.Proofs.YtcmepdamemnbkaaDoor
open Go.RowKit Go.Proofs.YtcmepdamemnbkaaDoorW.PrintWords
set_option linter.unusedVariables false
set_option linter.unusedSimpArgs false
set_option maxRecDepth 8192 in
set_option maxHeartbeats 64000000 in
theorem trustOrder_law (A B : Option Addr) (c c' : Nat) (r : List RecT) (l : List LetT) (tn n wh : Int) (w : World) (hr : Kd.C recK w A r.length r) (hl : Kd.C letK w B l.length l) (hcap : l.length ≤ c') (hk : Bytes r) (hkl : BytesL l) (htn : 0 ≤ tn ∧ tn ≤ 255) (hn : 0 ≤ n ∧ n ≤ 4294967295) (hwh : 0 ≤ wh ∧ wh ≤ 255) (hglob : GlobOK w) :
    Calls Tryd.prog 6 #[.slice A r.length c, .slice B l.length c', .int .u8 tn, .int .u32 n, .int .u8 wh] w fun e w' => e = .returned (.bool true) ∧ Below w.heap.size w w' := by
  have hrn := hr.2.1
  refine x_calls (X := XNone) Tryd.func6 rfl rfl rfl ?_
  with_reducible repeat refine xc_seq ?_
  with_reducible refine xc_region ?_
  refine xo_asg rfl rfl rfl ?_
  with_reducible refine xo_nil ?_
  with_reducible repeat (first | refine xq_then ?_ | refine xq_blockN ?_ | refine xq_scopeN ?_)
  with_reducible repeat refine xc_seq ?_
  with_reducible refine xc_region ?_
  refine xo_callB (fs := []) (cs := []) rfl rfl rfl alive_enters rfl (fun w1 hw1 => alive_calls w1 (hglob.below hw1.kx.below)) ?_
  refine xo_asg rfl rfl rfl ?_
  with_reducible refine xo_nil ?_
  with_reducible repeat (first | refine xq_then ?_ | refine xq_blockN ?_ | refine xq_scopeN ?_)
  with_reducible refine xc_seq ?_
  refine xc_cut (γ := Bool) (fun g => g = false → Small r ∧ l.length ≤ 30 ∧ checkF r l = 0 ∧ r.length ≠ 0 ∧ l.length ≠ 0) (fun g => [(0, .slice A r.length c), (1, .slice B l.length c'), (2, .int .u8 tn), (3, .int .u32 n), (4, .int .u8 wh), (11, .bool true), (55, .bool g)]) (fun _ => []) ?_ (fun g hg => ?_)
  · with_reducible repeat refine xc_seq ?_
    with_reducible refine xc_region ?_
    refine xo_mv rfl rfl rfl ?_
    refine xo_mv rfl rfl rfl ?_
    refine xo_call (fs := []) (cs := []) rfl rfl rfl ready_enters rfl (fun w1 hw1 => (ready_calls A B c c' r l w1 (Kd.C_below hr hw1.kx.below) (Kd.C_below hl hw1.kx.below) hk hkl).mono ?_)
    rintro e w2 ⟨b, rfl, hb, hrd⟩
    refine ⟨_, _, rfl, hw1.below hb, ?_⟩
    clear hb hw1
    cases b
    · refine xo_notOp rfl rfl rfl ?_
      refine xo_mv rfl rfl rfl ?_
      first
        | refine xo_not rfl rfl ?_
        | (refine xo_mv rfl rfl rfl ?_)
      first
        | refine xo_not rfl rfl ?_
        | (refine xo_len T_ rfl rfl rfl rfl ?_)
      first
        | refine xo_not rfl rfl ?_
        | (refine xo_eql rfl rfl rfl rfl ?_)
      first | refine xo_pickT rfl rfl rfl rfl ?_ | refine xo_pickF rfl rfl rfl rfl ?_
      refine xo_mv rfl rfl rfl ?_
      first
        | refine xo_not rfl rfl ?_
        | (refine xo_mv rfl rfl rfl ?_)
      first
        | refine xo_not rfl rfl ?_
        | (refine xo_len T_ rfl rfl rfl rfl ?_)
      first
        | refine xo_not rfl rfl ?_
        | (refine xo_eql rfl rfl rfl rfl ?_)
      first | refine xo_pickT rfl rfl rfl rfl ?_ | refine xo_pickF rfl rfl rfl rfl ?_
      refine xo_mv rfl rfl rfl ?_
      first
        | refine xo_not rfl rfl ?_
        | (refine xo_mv rfl rfl rfl ?_)
      first
        | refine xo_not rfl rfl ?_
        | (refine xo_notOp rfl rfl rfl ?_)
      first | refine xo_pickT rfl rfl rfl rfl ?_ | refine xo_pickF rfl rfl rfl rfl ?_
      with_reducible refine xo_nil ?_
      with_reducible repeat (first | refine xq_then ?_ | refine xq_blockN ?_ | refine xq_scopeN ?_)
      exact xq_meet _ _ _ true (fun h => by cases h) ⟨rfl, rfl, rfl, rfl, rfl, rfl, rfl, trivial⟩ (List.nil_sublist _)
    obtain ⟨hsm, hl30, hck⟩ := hrd rfl
    cases h0 : decide ((r.length : Int) = 0)
    rotate_left
    · refine xo_notOp rfl rfl rfl ?_
      refine xo_mv rfl rfl rfl ?_
      first
        | refine xo_not rfl rfl ?_
        | (refine xo_mv rfl rfl rfl ?_)
      first
        | refine xo_not rfl rfl ?_
        | (refine xo_len T_ rfl rfl rfl rfl ?_)
      first
        | refine xo_not rfl rfl ?_
        | (refine xo_eql rfl rfl rfl rfl ?_)
      refine xo_as (i := 45) rfl (congrArg Value.bool h0) ?_
      first | refine xo_pickT rfl rfl rfl rfl ?_ | refine xo_pickF rfl rfl rfl rfl ?_
      refine xo_mv rfl rfl rfl ?_
      first
        | refine xo_not rfl rfl ?_
        | (refine xo_mv rfl rfl rfl ?_)
      first
        | refine xo_not rfl rfl ?_
        | (refine xo_len T_ rfl rfl rfl rfl ?_)
      first
        | refine xo_not rfl rfl ?_
        | (refine xo_eql rfl rfl rfl rfl ?_)
      first | refine xo_pickT rfl rfl rfl rfl ?_ | refine xo_pickF rfl rfl rfl rfl ?_
      refine xo_mv rfl rfl rfl ?_
      first
        | refine xo_not rfl rfl ?_
        | (refine xo_mv rfl rfl rfl ?_)
      first
        | refine xo_not rfl rfl ?_
        | (refine xo_notOp rfl rfl rfl ?_)
      first | refine xo_pickT rfl rfl rfl rfl ?_ | refine xo_pickF rfl rfl rfl rfl ?_
      with_reducible refine xo_nil ?_
      with_reducible repeat (first | refine xq_then ?_ | refine xq_blockN ?_ | refine xq_scopeN ?_)
      exact xq_meet _ _ _ true (fun h => by cases h) ⟨rfl, rfl, rfl, rfl, rfl, rfl, rfl, trivial⟩ (List.nil_sublist _)
    cases h1 : decide ((l.length : Int) = 0)
    rotate_left
    · refine xo_notOp rfl rfl rfl ?_
      refine xo_mv rfl rfl rfl ?_
      first
        | refine xo_not rfl rfl ?_
        | (refine xo_mv rfl rfl rfl ?_)
      first
        | refine xo_not rfl rfl ?_
        | (refine xo_len T_ rfl rfl rfl rfl ?_)
      first
        | refine xo_not rfl rfl ?_
        | (refine xo_eql rfl rfl rfl rfl ?_)
      refine xo_as (i := 45) rfl (congrArg Value.bool h0) ?_
      first | refine xo_pickT rfl rfl rfl rfl ?_ | refine xo_pickF rfl rfl rfl rfl ?_
      refine xo_mv rfl rfl rfl ?_
      first
        | refine xo_not rfl rfl ?_
        | (refine xo_mv rfl rfl rfl ?_)
      first
        | refine xo_not rfl rfl ?_
        | (refine xo_len T_ rfl rfl rfl rfl ?_)
      first
        | refine xo_not rfl rfl ?_
        | (refine xo_eql rfl rfl rfl rfl ?_)
      refine xo_as (i := 50) rfl (congrArg Value.bool h1) ?_
      first | refine xo_pickT rfl rfl rfl rfl ?_ | refine xo_pickF rfl rfl rfl rfl ?_
      refine xo_mv rfl rfl rfl ?_
      first
        | refine xo_not rfl rfl ?_
        | (refine xo_mv rfl rfl rfl ?_)
      first
        | refine xo_not rfl rfl ?_
        | (refine xo_notOp rfl rfl rfl ?_)
      first | refine xo_pickT rfl rfl rfl rfl ?_ | refine xo_pickF rfl rfl rfl rfl ?_
      with_reducible refine xo_nil ?_
      with_reducible repeat (first | refine xq_then ?_ | refine xq_blockN ?_ | refine xq_scopeN ?_)
      exact xq_meet _ _ _ true (fun h => by cases h) ⟨rfl, rfl, rfl, rfl, rfl, rfl, rfl, trivial⟩ (List.nil_sublist _)
    · refine xo_notOp rfl rfl rfl ?_
      refine xo_mv rfl rfl rfl ?_
      first
        | refine xo_not rfl rfl ?_
        | (refine xo_mv rfl rfl rfl ?_)
      first
        | refine xo_not rfl rfl ?_
        | (refine xo_len T_ rfl rfl rfl rfl ?_)
      first
        | refine xo_not rfl rfl ?_
        | (refine xo_eql rfl rfl rfl rfl ?_)
      refine xo_as (i := 45) rfl (congrArg Value.bool h0) ?_
      first | refine xo_pickT rfl rfl rfl rfl ?_ | refine xo_pickF rfl rfl rfl rfl ?_
      refine xo_mv rfl rfl rfl ?_
      first
        | refine xo_not rfl rfl ?_
        | (refine xo_mv rfl rfl rfl ?_)
      first
        | refine xo_not rfl rfl ?_
        | (refine xo_len T_ rfl rfl rfl rfl ?_)
      first
        | refine xo_not rfl rfl ?_
        | (refine xo_eql rfl rfl rfl rfl ?_)
      refine xo_as (i := 50) rfl (congrArg Value.bool h1) ?_
      first | refine xo_pickT rfl rfl rfl rfl ?_ | refine xo_pickF rfl rfl rfl rfl ?_
      refine xo_mv rfl rfl rfl ?_
      first
        | refine xo_not rfl rfl ?_
        | (refine xo_mv rfl rfl rfl ?_)
      first
        | refine xo_not rfl rfl ?_
        | (refine xo_notOp rfl rfl rfl ?_)
      first | refine xo_pickT rfl rfl rfl rfl ?_ | refine xo_pickF rfl rfl rfl rfl ?_
      with_reducible refine xo_nil ?_
      with_reducible repeat (first | refine xq_then ?_ | refine xq_blockN ?_ | refine xq_scopeN ?_)
      have h0' := of_decide_eq_false h0
      have h1' := of_decide_eq_false h1
      exact xq_meet _ _ _ false (fun _ => ⟨hsm, hl30, hck, by omega, by omega⟩) ⟨rfl, rfl, rfl, rfl, rfl, rfl, rfl, trivial⟩ (List.nil_sublist _)
  with_reducible repeat refine xc_seq ?_
  refine xc_cond rfl (fun hg1 => ?_) (fun hg1 => ?_)
  · with_reducible repeat refine xc_seq ?_
    with_reducible refine xc_region ?_
    refine xo_mv rfl rfl rfl ?_
    refine xo_asg rfl rfl rfl ?_
    with_reducible refine xo_nil ?_
    with_reducible repeat (first | refine xq_then ?_ | refine xq_blockN ?_ | refine xq_scopeN ?_)
    with_reducible repeat refine xc_seq ?_
    with_reducible refine xc_ret ?_
    with_reducible repeat (first | refine xq_thenR ?_ | refine xq_blockR ?_ | refine xq_scopeR ?_)
    exact xq_ret1 rfl rfl fun w' hw => ⟨rfl, hw.kx.below⟩
  obtain ⟨hsm, hl30, hck, hr0, hl0⟩ := hg hg1
  clear hg
  have hok := check_zero hck
  have hs := sorted_of hok
  have hlen := recorded_len hok
  have hlm := lettersF_mem l _ _ (by omega) (check_split hck).2
  obtain ⟨bd, hbd, _⟩ := let_at hl 0 (by omega)
  subst hbd
  with_reducible refine xc_skip ?_
  with_reducible repeat (first | refine xq_then ?_ | refine xq_blockN ?_ | refine xq_scopeN ?_)
  with_reducible repeat refine xc_seq ?_
  with_reducible refine xc_region ?_
  refine xo_mv rfl rfl rfl ?_
  refine xo_len T_ rfl rfl rfl rfl ?_
  refine xo_mv rfl rfl rfl ?_
  with_reducible refine xo_nil ?_
  with_reducible repeat (first | refine xq_then ?_ | refine xq_blockN ?_ | refine xq_scopeN ?_)
  with_reducible repeat refine xc_seq ?_
  with_reducible refine xc_block ?_
  refine xc_loop (γ := Nat) (fun i => i ≤ l.length ∧ ∀ a, a < i → ∀ b, b < a → ¬ ((l.getD a zLet).f2 = (l.getD b zLet).f2 ∧ (l.getD a zLet).f1 = (l.getD b zLet).f1)) (fun i => [(0, .slice A r.length c), (1, .slice (some bd) l.length c'), (2, .int .u8 tn), (3, .int .u32 n), (4, .int .u8 wh), (11, .bool true), (57, .slice (some bd) l.length c'), (58, .int .i64 (l.length : Int)), (59, .int .i64 (i : Int))]) (fun _ => []) (fun i => l.length - i) 0 ⟨Nat.zero_le _, fun a ha => by omega⟩ ⟨rfl, rfl, rfl, rfl, rfl, rfl, rfl, rfl, rfl, trivial⟩ (List.nil_sublist _) ?_
  rintro i ⟨hi1, hi2⟩
  with_reducible repeat refine xc_seq ?_
  with_reducible refine xc_region ?_
  refine xo_lss rfl rfl rfl rfl ?_
  with_reducible refine xo_nil ?_
  with_reducible repeat (first | refine xq_then ?_ | refine xq_blockN ?_ | refine xq_scopeN ?_)
  with_reducible repeat refine xc_seq ?_
  refine xc_cond rfl (fun h => ?_) (fun h => ?_)
  · have hlt : i < l.length := by have := of_decide_eq_true h; omega
    obtain ⟨ad0, e0, r2⟩ := let_at hl i hlt
    cases e0
    have hin : ∀ b, b < i + 1 → True := fun _ _ => trivial
    obtain ⟨x, hx⟩ : ∃ x, x = l.getD i zLet := ⟨_, rfl⟩
    rw [← hx] at r2
    with_reducible refine xc_skip ?_
    with_reducible repeat (first | refine xq_then ?_ | refine xq_blockN ?_ | refine xq_scopeN ?_)
    with_reducible repeat refine xc_seq ?_
    with_reducible refine xc_block ?_
    with_reducible repeat refine xc_seq ?_
    with_reducible refine xc_region ?_
    refine xo_mv rfl rfl rfl ?_
    refine xo_ia T_ rfl rfl rfl rfl rfl ⟨by omega, by omega⟩ rfl ?_
    refine xo_loadRN T_ rfl rfl rfl (by assumption) rfl rfl ?_
    refine xo_alloc T_ rfl rfl rfl rfl (fun b13 => ?_)
    refine xo_asg rfl rfl rfl ?_
    refine xo_store T_ rfl rfl rfl rfl (by repeat (first | exact List.Mem.head _ | apply List.Mem.tail | apply List.mem_append_right)) rfl rfl rfl rfl (by repeat (first | exact Upd.head | apply Upd.tail | apply Upd.app)) rfl ?_
    with_reducible refine xo_nil ?_
    with_reducible repeat (first | refine xq_then ?_ | refine xq_blockN ?_ | refine xq_scopeN ?_)
    with_reducible repeat refine xc_seq ?_
    with_reducible refine xc_region ?_
    refine xo_mv rfl rfl rfl ?_
    refine xo_mv rfl rfl rfl ?_
    refine xo_sliceHiA T_ (i := i) rfl rfl rfl rfl rfl (by omega) rfl ?_
    refine xo_len T_ rfl rfl rfl rfl ?_
    refine xo_mv rfl rfl rfl ?_
    with_reducible refine xo_nil ?_
    with_reducible repeat (first | refine xq_then ?_ | refine xq_blockN ?_ | refine xq_scopeN ?_)
    with_reducible repeat refine xc_seq ?_
    with_reducible refine xc_block ?_
    refine xc_loop (γ := Nat) (fun j => j ≤ i ∧ ∀ b, b < j → ¬ (x.f2 = (l.getD b zLet).f2 ∧ x.f1 = (l.getD b zLet).f1)) (fun j => [(0, .slice A r.length c), (1, .slice (some bd) l.length c'), (2, .int .u8 tn), (3, .int .u32 n), (4, .int .u8 wh), (11, .bool true), (57, .slice (some bd) l.length c'), (58, .int .i64 (l.length : Int)), (59, .int .i64 (i : Int)), (13, .pointer (some ⟨b13, 0, none⟩)), (66, .slice (some bd) i c'), (67, .int .i64 (i : Int)), (68, .int .i64 (j : Int))]) (fun _ => [(b13, true, cel (letV x) 52)]) (fun j => i - j) 0 ⟨Nat.zero_le _, fun b hb => by omega⟩ ⟨rfl, rfl, rfl, rfl, rfl, rfl, rfl, rfl, rfl, rfl, rfl, rfl, rfl, trivial⟩ (by repeat (first | exact List.Sublist.refl _ | apply List.Sublist.cons_cons | apply List.Sublist.cons | exact List.nil_sublist _)) ?_
    rintro j ⟨hj1, hj2⟩
    with_reducible repeat refine xc_seq ?_
    with_reducible refine xc_region ?_
    refine xo_lss rfl rfl rfl rfl ?_
    with_reducible refine xo_nil ?_
    with_reducible repeat (first | refine xq_then ?_ | refine xq_blockN ?_ | refine xq_scopeN ?_)
    with_reducible repeat refine xc_seq ?_
    refine xc_cond rfl (fun h => ?_) (fun h => ?_)
    · have hjlt : j < i := by have := of_decide_eq_true h; omega
      obtain ⟨ad1, e1, r3⟩ := let_at hl j (by omega)
      cases e1
      obtain ⟨y, hy⟩ : ∃ y, y = l.getD j zLet := ⟨_, rfl⟩
      rw [← hy] at r3
      with_reducible refine xc_skip ?_
      with_reducible repeat (first | refine xq_then ?_ | refine xq_blockN ?_ | refine xq_scopeN ?_)
      with_reducible repeat refine xc_seq ?_
      with_reducible refine xc_block ?_
      with_reducible repeat refine xc_seq ?_
      with_reducible refine xc_region ?_
      refine xo_ia T_ rfl rfl rfl rfl rfl ⟨by omega, by omega⟩ rfl ?_
      refine xo_loadRN T_ rfl rfl rfl (by assumption) rfl rfl ?_
      refine xo_alloc T_ rfl rfl rfl rfl (fun b15 => ?_)
      refine xo_store T_ rfl rfl rfl rfl (by repeat (first | exact List.Mem.head _ | apply List.Mem.tail | apply List.mem_append_right)) rfl rfl rfl rfl (by repeat (first | exact Upd.head | apply Upd.tail | apply Upd.app)) rfl ?_
      with_reducible refine xo_nil ?_
      with_reducible repeat (first | refine xq_then ?_ | refine xq_blockN ?_ | refine xq_scopeN ?_)
      cases ha : decide (x.f2 = y.f2)
      · with_reducible repeat refine xc_seq ?_
        with_reducible refine xc_region ?_
        refine xo_fa T_ rfl rfl rfl rfl rfl ?_
        refine xo_load0 T_ rfl rfl rfl (by repeat (first | exact List.Mem.head _ | apply List.Mem.tail | apply List.mem_append_right)) rfl rfl ?_
        refine xo_fa T_ rfl rfl rfl rfl rfl ?_
        refine xo_load0 T_ rfl rfl rfl (by repeat (first | exact List.Mem.head _ | apply List.Mem.tail | apply List.mem_append_right)) rfl rfl ?_
        refine xo_eql rfl rfl rfl rfl ?_
        refine xo_as (i := 76) rfl (congrArg Value.bool ha) ?_
        refine xo_mv rfl rfl rfl ?_
        first
          | refine xo_not rfl rfl ?_
          | (refine xo_fa T_ rfl rfl rfl rfl rfl ?_)
        first
          | refine xo_not rfl rfl ?_
          | (refine xo_load0 T_ rfl rfl rfl (by repeat (first | exact List.Mem.head _ | apply List.Mem.tail | apply List.mem_append_right)) rfl rfl ?_)
        first
          | refine xo_not rfl rfl ?_
          | (refine xo_fa T_ rfl rfl rfl rfl rfl ?_)
        first
          | refine xo_not rfl rfl ?_
          | (refine xo_load0 T_ rfl rfl rfl (by repeat (first | exact List.Mem.head _ | apply List.Mem.tail | apply List.mem_append_right)) rfl rfl ?_)
        first
          | refine xo_not rfl rfl ?_
          | (refine xo_eql rfl rfl rfl rfl ?_)
        first | refine xo_pickT rfl rfl rfl rfl ?_ | refine xo_pickF rfl rfl rfl rfl ?_
        with_reducible refine xo_nil ?_
        with_reducible repeat (first | refine xq_then ?_ | refine xq_blockN ?_ | refine xq_scopeN ?_)
        with_reducible repeat refine xc_seq ?_
        refine xc_condF rfl ?_
        with_reducible refine xc_skip ?_
        with_reducible repeat (first | refine xq_then ?_ | refine xq_blockN ?_ | refine xq_scopeN ?_)
        with_reducible repeat refine xc_seq ?_
        with_reducible refine xc_region ?_
        refine xo_add rfl rfl rfl (by omega) rfl ?_
        refine xo_mv rfl rfl rfl ?_
        with_reducible refine xo_nil ?_
        with_reducible repeat (first | refine xq_then ?_ | refine xq_blockN ?_ | refine xq_scopeN ?_)
        refine xq_again _ _ _ _ _ (j + 1) ⟨by omega, fun b hb q => ?_⟩ (by omega) ⟨rfl, rfl, rfl, rfl, rfl, rfl, rfl, rfl, rfl, rfl, rfl, rfl, rfl, trivial⟩ (by repeat (first | exact List.Sublist.refl _ | apply List.Sublist.cons_cons | apply List.Sublist.cons | exact List.nil_sublist _))
        by_cases e : b = j
        · subst e; rw [← hy] at q; exact of_decide_eq_false ha q.1
        · exact hj2 b (by omega) q
      cases hb : decide (x.f1 = y.f1)
      · with_reducible repeat refine xc_seq ?_
        with_reducible refine xc_region ?_
        refine xo_fa T_ rfl rfl rfl rfl rfl ?_
        refine xo_load0 T_ rfl rfl rfl (by repeat (first | exact List.Mem.head _ | apply List.Mem.tail | apply List.mem_append_right)) rfl rfl ?_
        refine xo_fa T_ rfl rfl rfl rfl rfl ?_
        refine xo_load0 T_ rfl rfl rfl (by repeat (first | exact List.Mem.head _ | apply List.Mem.tail | apply List.mem_append_right)) rfl rfl ?_
        refine xo_eql rfl rfl rfl rfl ?_
        refine xo_as (i := 76) rfl (congrArg Value.bool ha) ?_
        refine xo_mv rfl rfl rfl ?_
        first
          | refine xo_not rfl rfl ?_
          | (refine xo_fa T_ rfl rfl rfl rfl rfl ?_)
        first
          | refine xo_not rfl rfl ?_
          | (refine xo_load0 T_ rfl rfl rfl (by repeat (first | exact List.Mem.head _ | apply List.Mem.tail | apply List.mem_append_right)) rfl rfl ?_)
        first
          | refine xo_not rfl rfl ?_
          | (refine xo_fa T_ rfl rfl rfl rfl rfl ?_)
        first
          | refine xo_not rfl rfl ?_
          | (refine xo_load0 T_ rfl rfl rfl (by repeat (first | exact List.Mem.head _ | apply List.Mem.tail | apply List.mem_append_right)) rfl rfl ?_)
        first
          | refine xo_not rfl rfl ?_
          | (refine xo_eql rfl rfl rfl rfl ?_)
        refine xo_as (i := 82) rfl (congrArg Value.bool hb) ?_
        first | refine xo_pickT rfl rfl rfl rfl ?_ | refine xo_pickF rfl rfl rfl rfl ?_
        with_reducible refine xo_nil ?_
        with_reducible repeat (first | refine xq_then ?_ | refine xq_blockN ?_ | refine xq_scopeN ?_)
        with_reducible repeat refine xc_seq ?_
        refine xc_condF rfl ?_
        with_reducible refine xc_skip ?_
        with_reducible repeat (first | refine xq_then ?_ | refine xq_blockN ?_ | refine xq_scopeN ?_)
        with_reducible repeat refine xc_seq ?_
        with_reducible refine xc_region ?_
        refine xo_add rfl rfl rfl (by omega) rfl ?_
        refine xo_mv rfl rfl rfl ?_
        with_reducible refine xo_nil ?_
        with_reducible repeat (first | refine xq_then ?_ | refine xq_blockN ?_ | refine xq_scopeN ?_)
        refine xq_again _ _ _ _ _ (j + 1) ⟨by omega, fun b hb2 q => ?_⟩ (by omega) ⟨rfl, rfl, rfl, rfl, rfl, rfl, rfl, rfl, rfl, rfl, rfl, rfl, rfl, trivial⟩ (by repeat (first | exact List.Sublist.refl _ | apply List.Sublist.cons_cons | apply List.Sublist.cons | exact List.nil_sublist _))
        by_cases e : b = j
        · subst e; rw [← hy] at q; exact of_decide_eq_false hb q.2
        · exact hj2 b (by omega) q
      · with_reducible repeat refine xc_seq ?_
        with_reducible refine xc_region ?_
        refine xo_fa T_ rfl rfl rfl rfl rfl ?_
        refine xo_load0 T_ rfl rfl rfl (by repeat (first | exact List.Mem.head _ | apply List.Mem.tail | apply List.mem_append_right)) rfl rfl ?_
        refine xo_fa T_ rfl rfl rfl rfl rfl ?_
        refine xo_load0 T_ rfl rfl rfl (by repeat (first | exact List.Mem.head _ | apply List.Mem.tail | apply List.mem_append_right)) rfl rfl ?_
        refine xo_eql rfl rfl rfl rfl ?_
        refine xo_as (i := 76) rfl (congrArg Value.bool ha) ?_
        refine xo_mv rfl rfl rfl ?_
        first
          | refine xo_not rfl rfl ?_
          | (refine xo_fa T_ rfl rfl rfl rfl rfl ?_)
        first
          | refine xo_not rfl rfl ?_
          | (refine xo_load0 T_ rfl rfl rfl (by repeat (first | exact List.Mem.head _ | apply List.Mem.tail | apply List.mem_append_right)) rfl rfl ?_)
        first
          | refine xo_not rfl rfl ?_
          | (refine xo_fa T_ rfl rfl rfl rfl rfl ?_)
        first
          | refine xo_not rfl rfl ?_
          | (refine xo_load0 T_ rfl rfl rfl (by repeat (first | exact List.Mem.head _ | apply List.Mem.tail | apply List.mem_append_right)) rfl rfl ?_)
        first
          | refine xo_not rfl rfl ?_
          | (refine xo_eql rfl rfl rfl rfl ?_)
        refine xo_as (i := 82) rfl (congrArg Value.bool hb) ?_
        first | refine xo_pickT rfl rfl rfl rfl ?_ | refine xo_pickF rfl rfl rfl rfl ?_
        with_reducible refine xo_nil ?_
        with_reducible repeat (first | refine xq_then ?_ | refine xq_blockN ?_ | refine xq_scopeN ?_)
        with_reducible repeat refine xc_seq ?_
        refine xc_condT rfl ?_
        with_reducible repeat refine xc_seq ?_
        with_reducible refine xc_region ?_
        refine xo_mv rfl rfl rfl ?_
        refine xo_asg rfl rfl rfl ?_
        with_reducible refine xo_nil ?_
        with_reducible repeat (first | refine xq_then ?_ | refine xq_blockN ?_ | refine xq_scopeN ?_)
        with_reducible repeat refine xc_seq ?_
        with_reducible refine xc_ret ?_
        with_reducible repeat (first | refine xq_thenR ?_ | refine xq_blockR ?_ | refine xq_scopeR ?_)
        exact xq_ret1 rfl rfl fun w' hw => ⟨rfl, hw.kx.below⟩
    · have hjge : ¬ j < i := by have := of_decide_eq_false h; omega
      with_reducible refine xc_exit ?_
      with_reducible repeat (first | refine xq_blockX ?_ | refine xq_thenE ?_ | refine xq_blockE rfl ?_ | refine xq_scopeE ?_)
      with_reducible repeat (first | refine xq_then ?_ | refine xq_blockN ?_ | refine xq_scopeN ?_)
      with_reducible repeat refine xc_seq ?_
      with_reducible refine xc_region ?_
      refine xo_add rfl rfl rfl (by omega) rfl ?_
      refine xo_mv rfl rfl rfl ?_
      with_reducible refine xo_nil ?_
      with_reducible repeat (first | refine xq_then ?_ | refine xq_blockN ?_ | refine xq_scopeN ?_)
      refine xq_again _ _ _ _ _ (i + 1) ⟨by omega, fun a ha b hb => ?_⟩ (by omega) ⟨rfl, rfl, rfl, rfl, rfl, rfl, rfl, rfl, rfl, trivial⟩ (List.nil_sublist _)
      by_cases e : a = i
      · subst e; rw [← hx]; exact hj2 b (by omega)
      · exact hi2 a (by omega) b hb
  have hige : ¬ i < l.length := by have := of_decide_eq_false h; omega
  have hA : Apart l := apart_of fun a ha b hb => hi2 a (by omega) b hb
  clear hi2
  with_reducible refine xc_exit ?_
  with_reducible repeat (first | refine xq_blockX ?_ | refine xq_thenE ?_ | refine xq_blockE rfl ?_ | refine xq_scopeE ?_)
  with_reducible repeat (first | refine xq_then ?_ | refine xq_blockN ?_ | refine xq_scopeN ?_)
  have hm1 := Int.emod_nonneg tn (b := (l.length : Int)) (by omega)
  have hm2 := Int.emod_lt_of_pos tn (b := (l.length : Int)) (by omega)
  with_reducible repeat refine xc_seq ?_
  with_reducible refine xc_region ?_
  refine xo_mv rfl rfl rfl ?_
  refine xo_conv T_ rfl rfl rfl rfl (IntWalk.i64_in _ ⟨by omega, by omega⟩) rfl ?_
  refine xo_mv rfl rfl rfl ?_
  refine xo_len T_ rfl rfl rfl rfl ?_
  refine xo_rem rfl rfl rfl (by omega) (by omega) rfl ?_
  refine xo_asg rfl rfl rfl ?_
  with_reducible refine xo_nil ?_
  with_reducible repeat (first | refine xq_then ?_ | refine xq_blockN ?_ | refine xq_scopeN ?_)
  with_reducible repeat refine xc_seq ?_
  refine xc_slots [(0, .slice A r.length c), (1, .slice (some bd) l.length c'), (2, .int .u8 tn), (3, .int .u32 n), (4, .int .u8 wh), (11, .bool true), (16, .int .i64 (tn % (l.length : Int)))] ⟨rfl, rfl, rfl, rfl, rfl, rfl, rfl, trivial⟩ ?_
  generalize tn % (l.length : Int) = ki at *
  obtain ⟨kk, rfl⟩ : ∃ kk : Nat, ki = (kk : Int) := ⟨ki.toNat, by omega⟩
  have hkk : kk < l.length := by omega
  have hdl : (l.drop kk).length = l.length - kk := List.length_drop
  have htl : (l.take kk).length = kk := by rw [List.length_take]; omega
  have hRl := rotL_len l kk (by omega)
  with_reducible repeat refine xc_seq ?_
  apply xc_drawE (fun g => [(0, .slice (some ⟨(g.getD 0 gv0).b, 0, none⟩) 0 0), (4, .slice (some ⟨(g.getD 1 gv0).b, 0, none⟩) (l.drop kk).length (g.getD 1 gv0).c), (8, .slice (some ⟨(g.getD 2 gv0).b, 0, none⟩) (rotL l kk).length (g.getD 2 gv0).c), (9, .slice (some ⟨(g.getD 2 gv0).b, 0, none⟩) (rotL l kk).length (g.getD 2 gv0).c)]) (fun (η0 : Hp) g => match g with | [] => (η0) | a0 :: [] => ((a0.b, true, orow 52 4 0 0 []) :: η0) | a0 :: a1 :: [] => ((a1.b, true, orow 52 4 (l.drop kk).length a1.c ((l.drop kk).map letV).flatten) :: η0) | a0 :: a1 :: a2 :: _ => ((a2.b, true, orow 52 4 (rotL l kk).length a2.c ((rotL l kk).map letV).flatten) :: η0)) (fun _ => True) [1, 0, 0, 0, 2, 0, 0, 0, 3, 3] [0, 4, 8] [[], [0, 3], [4, 7, 4]] (by trivial)
  apply SameLen.cons (c := undef)
  apply SameLen.cons
  apply SameLen.cons
  apply SameLen.cons
  apply SameLen.cons (c := undef)
  apply SameLen.cons
  apply SameLen.cons
  apply SameLen.cons
  apply SameLen.cons (c := undef)
  apply SameLen.cons (c := undef)
  exact SameLen.nil
  rotate_left 6
  case hH0 => rfl
  case hmix => exact T_.mixed
  case hbind => rfl
  case hdeps => rfl
  case hdist => rfl
  case hfresh => rfl
  case hE => rfl
  case hEn => decide
  · refine DrawE.eff 0 rfl (by decide) rfl (fun j hj => hj) (fun j g a hj => ?_) (fun L g hg hd => Nat.zero_le _) (fun g hgl hF τ => ?_) ?_
    · rcases j with _ | _ | _ | _ | _ | _ | _ | _ | _ | _ | j
      all_goals first | rfl | (rcases g with _ | ⟨a0, _ | ⟨a1, _ | ⟨a2, _ | ⟨a3, g⟩⟩⟩⟩ <;> first | rfl | exact absurd hj (by decide) | exact absurd hj (by simp [List.getD]))
    · obtain rfl : g = [] := by
        rcases g with _ | ⟨a0, g⟩ <;> first | rfl | (exfalso; simp only [List.length_cons, List.length_nil] at hgl; omega)
      refine xo_bs0 T_ 4 rfl rfl rfl rfl (fun b => ?_)
      exact xo_finE ⟨b, 0, none⟩ rfl trivial
    refine DrawE.pure 0 3 rfl (.inl rfl) (fun L g hg hd => Nat.zero_le _) (fun g hlo hhi hF τ => ?_) ?_
    · rcases g with _ | ⟨a0, _ | ⟨a1, _ | ⟨a2, _ | ⟨a3, g⟩⟩⟩⟩
      all_goals first
        | (exfalso; simp only [List.length_cons, List.length_nil] at hlo hhi; omega)
        | (refine ⟨_, rfl, ?_⟩
           refine xo_mv rfl rfl rfl ?_
           exact xo_fin rfl)
    refine DrawE.pure 0 3 rfl (.inl rfl) (fun L g hg hd => Nat.zero_le _) (fun g hlo hhi hF τ => ?_) ?_
    · rcases g with _ | ⟨a0, _ | ⟨a1, _ | ⟨a2, _ | ⟨a3, g⟩⟩⟩⟩
      all_goals first
        | (exfalso; simp only [List.length_cons, List.length_nil] at hlo hhi; omega)
        | (refine ⟨_, rfl, ?_⟩
           refine xo_mv rfl rfl rfl ?_
           exact xo_fin rfl)
    refine DrawE.pure 0 1 rfl (.inr (by decide)) (fun L g hg hd => Nat.zero_le _) (fun g hlo hhi hF τ => ?_) ?_
    · rcases g with _ | ⟨a0, _ | ⟨a1, _ | ⟨a2, _ | ⟨a3, g⟩⟩⟩⟩
      all_goals first
        | (exfalso; simp only [List.length_cons, List.length_nil] at hlo hhi; omega)
        | (refine ⟨_, rfl, ?_⟩
           refine xo_sliceLoA T_ (m := l.length) (i := kk) rfl rfl rfl rfl rfl (by omega) (by omega) rfl ?_
           rw [← hdl]
           exact xo_fin rfl)
    refine DrawE.eff 1 rfl (by decide) rfl (fun j hj => hj) (fun j g a hj => ?_) (fun L g hg hd => hg.2.1 0 (hd 0 (by decide))) (fun g hgl hF τ => ?_) ?_
    · rcases j with _ | _ | _ | _ | _ | _ | _ | _ | _ | _ | j
      all_goals first | rfl | (rcases g with _ | ⟨a0, _ | ⟨a1, _ | ⟨a2, _ | ⟨a3, g⟩⟩⟩⟩ <;> first | rfl | exact absurd hj (by decide) | exact absurd hj (by simp [List.getD]))
    · obtain ⟨a0, rfl⟩ : ∃ a0, g = [a0] := by
        rcases g with _ | ⟨a0, _ | ⟨a1, _ | ⟨a2, _ | ⟨a3, g⟩⟩⟩⟩ <;> first | exact ⟨_, rfl⟩ | rfl | (exfalso; simp only [List.length_cons, List.length_nil] at hgl; omega)
      refine xo_cpy letV (fun _ => rfl) let_one (l.drop kk) TR_ rfl rfl rfl rfl rfl rfl rfl rfl (fun e => by cases e) (fun p e w1 hw1 j u hj => by cases e; exact hw1.kx.cell (cells_drop (f := letV) (sz := 4) (fun _ => rfl) (let_news hl) kk j u hj) (fun h => h)) (by omega) rfl rfl (fun b cap => ?_)
      exact xo_finE ⟨b, cap, none⟩ rfl trivial
    refine DrawE.pure 0 3 rfl (.inl rfl) (fun L g hg hd => Nat.zero_le _) (fun g hlo hhi hF τ => ?_) ?_
    · rcases g with _ | ⟨a0, _ | ⟨a1, _ | ⟨a2, _ | ⟨a3, g⟩⟩⟩⟩
      all_goals first
        | (exfalso; simp only [List.length_cons, List.length_nil] at hlo hhi; omega)
        | (refine ⟨_, rfl, ?_⟩
           refine xo_mv rfl rfl rfl ?_
           exact xo_fin rfl)
    refine DrawE.pure 0 3 rfl (.inl rfl) (fun L g hg hd => Nat.zero_le _) (fun g hlo hhi hF τ => ?_) ?_
    · rcases g with _ | ⟨a0, _ | ⟨a1, _ | ⟨a2, _ | ⟨a3, g⟩⟩⟩⟩
      all_goals first
        | (exfalso; simp only [List.length_cons, List.length_nil] at hlo hhi; omega)
        | (refine ⟨_, rfl, ?_⟩
           refine xo_mv rfl rfl rfl ?_
           exact xo_fin rfl)
    refine DrawE.pure 0 2 rfl (.inr (by decide)) (fun L g hg hd => Nat.zero_le _) (fun g hlo hhi hF τ => ?_) ?_
    · rcases g with _ | ⟨a0, _ | ⟨a1, _ | ⟨a2, _ | ⟨a3, g⟩⟩⟩⟩
      all_goals first
        | (exfalso; simp only [List.length_cons, List.length_nil] at hlo hhi; omega)
        | (refine ⟨_, rfl, ?_⟩
           refine xo_sliceHiA T_ (i := (l.take kk).length) rfl rfl rfl rfl (by rw [htl]; rfl) (by omega) rfl ?_
           exact xo_fin rfl)
    refine DrawE.eff 2 rfl (by decide) rfl (fun j hj => hj) (fun j g a hj => ?_) (fun L g hg hd => hg.2.1 4 (hd 4 (by decide))) (fun g hgl hF τ => ?_) ?_
    · rcases j with _ | _ | _ | _ | _ | _ | _ | _ | _ | _ | j
      all_goals first | rfl | (rcases g with _ | ⟨a0, _ | ⟨a1, _ | ⟨a2, _ | ⟨a3, g⟩⟩⟩⟩ <;> first | rfl | exact absurd hj (by decide) | exact absurd hj (by simp [List.getD]))
    · obtain ⟨a0, a1, rfl⟩ : ∃ a0 a1, g = [a0, a1] := by
        rcases g with _ | ⟨a0, _ | ⟨a1, _ | ⟨a2, _ | ⟨a3, g⟩⟩⟩⟩ <;> first | exact ⟨_, _, rfl⟩ | rfl | (exfalso; simp only [List.length_cons, List.length_nil] at hgl; omega)
      refine xo_cat letV (fun _ => rfl) let_one (l.drop kk) (l.take kk) TR_ rfl rfl rfl rfl rfl rfl rfl rfl (fun e => by cases e) (fun p e w1 hw1 j u hj => by cases e; exact hw1.kx.cell (cells_take (f := letV) (sz := 4) (fun _ => rfl) (let_news hl) kk j u hj) (fun h => h)) (by omega) rfl rfl (fun b cap => ?_)
      exact xo_finE ⟨b, cap, none⟩ rfl trivial
    refine DrawE.pure 3 3 rfl (.inl rfl) (fun L g hg hd => hg.2.1 8 (hd 8 (by decide))) (fun g hlo hhi hF τ => ?_) ?_
    · rcases g with _ | ⟨a0, _ | ⟨a1, _ | ⟨a2, _ | ⟨a3, g⟩⟩⟩⟩
      all_goals first
        | (exfalso; simp only [List.length_cons, List.length_nil] at hlo hhi; omega)
        | (refine ⟨_, rfl, ?_⟩
           refine xo_asg rfl rfl rfl ?_
           exact xo_fin rfl)
    exact DrawE.nil
  intro g hgl hF
  obtain ⟨a0, a1, a2, rfl⟩ : ∃ a0 a1 a2, g = [a0, a1, a2] := by
    rcases g with _ | ⟨a0, _ | ⟨a1, _ | ⟨a2, _ | ⟨a3, g⟩⟩⟩⟩ <;> first | exact ⟨_, _, _, rfl⟩ | (exfalso; simp only [List.length_cons, List.length_nil] at hgl; omega)
  with_reducible repeat (first | refine xq_then ?_ | refine xq_blockN ?_ | refine xq_scopeN ?_)
  with_reducible repeat refine xc_seq ?_
  refine xc_slots [(0, .slice A r.length c), (1, .slice (some bd) l.length c'), (2, .int .u8 tn), (3, .int .u32 n), (4, .int .u8 wh), (11, .bool true), (17, .slice (some ⟨a2.b, 0, none⟩) (rotL l kk).length a2.c)] ⟨rfl, rfl, rfl, rfl, rfl, rfl, rfl, trivial⟩ ?_
  have hturn : turnL l kk tn = numL tn 0 (rotL l kk) := rfl
  generalize hR : rotL l kk = R at *
  obtain ⟨bR, capR, rrR⟩ := a2
  simp only
  with_reducible repeat refine xc_seq ?_
  with_reducible refine xc_region ?_
  refine xo_mv rfl rfl rfl ?_
  refine xo_len T_ rfl rfl rfl rfl ?_
  refine xo_mv rfl rfl rfl ?_
  with_reducible refine xo_nil ?_
  with_reducible repeat (first | refine xq_then ?_ | refine xq_blockN ?_ | refine xq_scopeN ?_)
  with_reducible repeat refine xc_seq ?_
  with_reducible refine xc_block ?_
  refine xc_loop (γ := Nat) (fun j => j ≤ R.length) (fun j => [(0, .slice A r.length c), (1, .slice (some bd) l.length c'), (2, .int .u8 tn), (3, .int .u32 n), (4, .int .u8 wh), (11, .bool true), (17, .slice (some ⟨bR, 0, none⟩) R.length capR), (101, .slice (some ⟨bR, 0, none⟩) R.length capR), (102, .int .i64 (R.length : Int)), (103, .int .i64 (j : Int))]) (fun j => [(bR, true, orow 52 4 R.length capR ((partL1 tn R j).map letV).flatten)]) (fun j => R.length - j) 0 (Nat.zero_le _) ⟨rfl, rfl, rfl, rfl, rfl, rfl, rfl, rfl, rfl, rfl, trivial⟩ (by rw [partL1_zero]; exact (by repeat (first | exact List.Sublist.refl _ | apply List.Sublist.cons_cons | apply List.Sublist.cons | exact List.nil_sublist _))) ?_
  intro j hj1
  with_reducible repeat refine xc_seq ?_
  with_reducible refine xc_region ?_
  refine xo_lss rfl rfl rfl rfl ?_
  with_reducible refine xo_nil ?_
  with_reducible repeat (first | refine xq_then ?_ | refine xq_blockN ?_ | refine xq_scopeN ?_)
  with_reducible repeat refine xc_seq ?_
  refine xc_cond rfl (fun h => ?_) (fun h => ?_)
  · have hjlt : j < R.length := by have := of_decide_eq_true h; omega
    have hstep := partL1_step tn R hjlt
    with_reducible refine xc_skip ?_
    with_reducible repeat (first | refine xq_then ?_ | refine xq_blockN ?_ | refine xq_scopeN ?_)
    with_reducible repeat refine xc_seq ?_
    with_reducible refine xc_block ?_
    with_reducible repeat refine xc_seq ?_
    with_reducible refine xc_region ?_
    refine xo_mv rfl rfl rfl ?_
    refine xo_asg rfl rfl rfl ?_
    with_reducible refine xo_nil ?_
    with_reducible repeat (first | refine xq_then ?_ | refine xq_blockN ?_ | refine xq_scopeN ?_)
    with_reducible repeat refine xc_seq ?_
    with_reducible refine xc_region ?_
    refine xo_mv rfl rfl rfl ?_
    refine xo_mv rfl rfl rfl ?_
    refine xo_mv rfl rfl rfl ?_
    refine xo_mul rfl rfl rfl (by omega) rfl ?_
    refine xo_mv rfl rfl rfl ?_
    refine xo_conv T_ rfl rfl rfl rfl (IntWalk.i64_in _ ⟨by omega, by omega⟩) rfl ?_
    refine xo_add rfl rfl rfl (by omega) rfl ?_
    refine xo_ia T_ rfl rfl rfl rfl rfl ⟨by omega, by omega⟩ rfl ?_
    refine xo_faR T_ rfl rfl rfl rfl rfl ?_
    refine xo_storeZ T_ (k := j * 4 + 0) (η' := [(bR, true, orow 52 4 R.length capR ((partL1 tn R (j + 1)).map letV).flatten)]) rfl rfl rfl (ad4 _ _ _) rfl (by repeat (first | exact List.Mem.head _ | apply List.Mem.tail | apply List.mem_append_right)) rfl rfl (by omega) (by rw [hstep]; exact (by repeat (first | exact Upd.head | apply Upd.tail | apply Upd.app))) rfl ?_
    with_reducible refine xo_nil ?_
    with_reducible repeat (first | refine xq_then ?_ | refine xq_blockN ?_ | refine xq_scopeN ?_)
    with_reducible repeat refine xc_seq ?_
    with_reducible refine xc_region ?_
    refine xo_add rfl rfl rfl (by omega) rfl ?_
    refine xo_mv rfl rfl rfl ?_
    with_reducible refine xo_nil ?_
    with_reducible repeat (first | refine xq_then ?_ | refine xq_blockN ?_ | refine xq_scopeN ?_)
    exact xq_again _ _ _ _ _ (j + 1) hjlt (by omega) ⟨rfl, rfl, rfl, rfl, rfl, rfl, rfl, rfl, rfl, rfl, trivial⟩ (by repeat (first | exact List.Sublist.refl _ | apply List.Sublist.cons_cons | apply List.Sublist.cons | exact List.nil_sublist _))
  have hjge : ¬ j < R.length := by have := of_decide_eq_false h; omega
  obtain rfl : j = R.length := by omega
  with_reducible refine xc_exit ?_
  with_reducible repeat (first | refine xq_blockX ?_ | refine xq_thenE ?_ | refine xq_blockE rfl ?_ | refine xq_scopeE ?_)
  with_reducible repeat (first | refine xq_then ?_ | refine xq_blockN ?_ | refine xq_scopeN ?_)
  rw [partL1_full, ← numL_len tn R 0]
  have hTl : (numL tn 0 R).length ≤ 30 := by rw [numL_len]; omega
  generalize numL tn 0 R = TL at *
  subst hturn
  have hklT : BytesL (turnL l kk tn) := fun y hy => by
    obtain ⟨z, hz, e1, e2, e3⟩ := turn_from hy
    rw [e3]
    exact hkl z hz
  have hm1 := Int.emod_nonneg wh (b := (r.length : Int)) (by omega)
  have hm2 := Int.emod_lt_of_pos wh (b := (r.length : Int)) (by omega)
  obtain ⟨ad, A2, c2, rfl, r1, _, _⟩ := rec_at hr (wh % (r.length : Int)).toNat (by omega)
  have hid : knownF r (r.getD (wh % (r.length : Int)).toNat zRec).f0 = true := knownF_iff.2 ⟨(wh % (r.length : Int)).toNat, by omega, rfl⟩
  rw [show (((wh % (r.length : Int)).toNat : Nat) : Int) = wh % (r.length : Int) by omega] at r1
  generalize hq : r.getD (wh % (r.length : Int)).toNat zRec = q at *
  clear hq
  obtain ⟨id, q1, q2⟩ := q
  simp only at hid r1
  with_reducible repeat refine xc_seq ?_
  apply xc_drawE (fun g => [(2, .int .i64 ((g.getD 0 gv0).b : Int)), (12, .int .i64 ((g.getD 0 gv0).b : Int))]) (fun (η0 : Hp) g => match g with | [] => (η0) | a0 :: _ => (η0)) (fun g => match g with | a0 :: _ => a0.b ≤ 100000 | _ => True) [0, 0, 1, 0, 0, 0, 0, 0, 0, 0, 0, 0, 1, 1] [2] [[0, 1]] (by trivial)
  apply SameLen.cons
  apply SameLen.cons
  apply SameLen.cons (c := undef)
  apply SameLen.cons
  apply SameLen.cons
  apply SameLen.cons
  apply SameLen.cons
  apply SameLen.cons
  apply SameLen.cons
  apply SameLen.cons
  apply SameLen.cons
  apply SameLen.cons
  apply SameLen.cons (c := undef)
  apply SameLen.cons
  exact SameLen.nil
  rotate_left 12
  case hH0 => rfl
  case hmix => exact T_.mixed
  case hbind => rfl
  case hdeps => rfl
  case hdist => rfl
  case hfresh => rfl
  case hE => rfl
  case hEn => decide
  · refine DrawE.pure 0 0 rfl (.inr (by decide)) (fun L g hg hd => Nat.zero_le _) (fun g hlo hhi hF τ => ?_) ?_
    · rcases g with _ | ⟨a0, _ | ⟨a1, g⟩⟩
      all_goals first
        | (exfalso; simp only [List.length_cons, List.length_nil] at hlo hhi; omega)
        | (refine ⟨_, rfl, ?_⟩
           refine xo_mv rfl rfl rfl ?_
           exact xo_fin rfl)
    refine DrawE.pure 0 0 rfl (.inr (by decide)) (fun L g hg hd => Nat.zero_le _) (fun g hlo hhi hF τ => ?_) ?_
    · rcases g with _ | ⟨a0, _ | ⟨a1, g⟩⟩
      all_goals first
        | (exfalso; simp only [List.length_cons, List.length_nil] at hlo hhi; omega)
        | (refine ⟨_, rfl, ?_⟩
           refine xo_mv rfl rfl rfl ?_
           exact xo_fin rfl)
    refine DrawE.eff 0 rfl (by decide) rfl (fun j hj => hj) (fun j g a hj => ?_) (fun L g hg hd => Nat.zero_le _) (fun g hgl hF τ => ?_) ?_
    · rcases j with _ | _ | _ | _ | _ | _ | _ | _ | _ | _ | _ | _ | _ | _ | j
      all_goals first | rfl | (rcases g with _ | ⟨a0, _ | ⟨a1, g⟩⟩ <;> first | rfl | exact absurd hj (by decide) | exact absurd hj (by simp [List.getD]))
    · obtain rfl : g = [] := by
        rcases g with _ | ⟨a0, g⟩ <;> first | rfl | (exfalso; simp only [List.length_cons, List.length_nil] at hgl; omega)
      refine xo_call (fs := []) (cs := []) rfl rfl rfl day_enters rfl (fun w1 hw1 => (day_calls (some bd) c' l n w1 (Kd.C_below hl hw1.kx.below) hn (fun x hx => (hlm x hx).2.1)).mono ?_)
      rintro e w2 ⟨d, rfl, hb, hd0, hd1⟩
      obtain ⟨dn, rfl⟩ : ∃ dn : Nat, d = (dn : Int) := ⟨d.toNat, by omega⟩
      refine ⟨_, _, rfl, hw1.below hb, ?_⟩
      exact xo_finE ⟨dn, 0, none⟩ rfl (show dn ≤ 100000 by omega)
    refine DrawE.pure 0 1 rfl (.inl rfl) (fun L g hg hd => Nat.zero_le _) (fun g hlo hhi hF τ => ?_) ?_
    · rcases g with _ | ⟨a0, _ | ⟨a1, g⟩⟩
      all_goals first
        | (exfalso; simp only [List.length_cons, List.length_nil] at hlo hhi; omega)
        | (refine ⟨_, rfl, ?_⟩
           refine xo_mv rfl rfl rfl ?_
           exact xo_fin rfl)
    refine DrawE.pure 0 1 rfl (.inl rfl) (fun L g hg hd => Nat.zero_le _) (fun g hlo hhi hF τ => ?_) ?_
    · rcases g with _ | ⟨a0, _ | ⟨a1, g⟩⟩
      all_goals first
        | (exfalso; simp only [List.length_cons, List.length_nil] at hlo hhi; omega)
        | (refine ⟨_, rfl, ?_⟩
           refine xo_mv rfl rfl rfl ?_
           exact xo_fin rfl)
    refine DrawE.pure 0 1 rfl (.inl rfl) (fun L g hg hd => Nat.zero_le _) (fun g hlo hhi hF τ => ?_) ?_
    · rcases g with _ | ⟨a0, _ | ⟨a1, g⟩⟩
      all_goals first
        | (exfalso; simp only [List.length_cons, List.length_nil] at hlo hhi; omega)
        | (refine ⟨_, rfl, ?_⟩
           refine xo_conv T_ rfl rfl rfl rfl (IntWalk.i64_in _ ⟨by omega, by omega⟩) rfl ?_
           exact xo_fin rfl)
    refine DrawE.pure 0 1 rfl (.inl rfl) (fun L g hg hd => Nat.zero_le _) (fun g hlo hhi hF τ => ?_) ?_
    · rcases g with _ | ⟨a0, _ | ⟨a1, g⟩⟩
      all_goals first
        | (exfalso; simp only [List.length_cons, List.length_nil] at hlo hhi; omega)
        | (refine ⟨_, rfl, ?_⟩
           refine xo_mv rfl rfl rfl ?_
           exact xo_fin rfl)
    refine DrawE.pure 0 1 rfl (.inl rfl) (fun L g hg hd => Nat.zero_le _) (fun g hlo hhi hF τ => ?_) ?_
    · rcases g with _ | ⟨a0, _ | ⟨a1, g⟩⟩
      all_goals first
        | (exfalso; simp only [List.length_cons, List.length_nil] at hlo hhi; omega)
        | (refine ⟨_, rfl, ?_⟩
           refine xo_len T_ rfl rfl rfl rfl ?_
           exact xo_fin rfl)
    refine DrawE.pure 0 1 rfl (.inl rfl) (fun L g hg hd => Nat.zero_le _) (fun g hlo hhi hF τ => ?_) ?_
    · rcases g with _ | ⟨a0, _ | ⟨a1, g⟩⟩
      all_goals first
        | (exfalso; simp only [List.length_cons, List.length_nil] at hlo hhi; omega)
        | (refine ⟨_, rfl, ?_⟩
           refine xo_rem rfl rfl rfl (by omega) (by omega) rfl ?_
           exact xo_fin rfl)
    refine DrawE.pure 0 1 rfl (.inl rfl) (fun L g hg hd => Nat.zero_le _) (fun g hlo hhi hF τ => ?_) ?_
    · rcases g with _ | ⟨a0, _ | ⟨a1, g⟩⟩
      all_goals first
        | (exfalso; simp only [List.length_cons, List.length_nil] at hlo hhi; omega)
        | (refine ⟨_, rfl, ?_⟩
           refine xo_ia T_ rfl rfl rfl rfl rfl ⟨by omega, by omega⟩ rfl ?_
           exact xo_fin rfl)
    refine DrawE.pure 0 1 rfl (.inl rfl) (fun L g hg hd => Nat.zero_le _) (fun g hlo hhi hF τ => ?_) ?_
    · rcases g with _ | ⟨a0, _ | ⟨a1, g⟩⟩
      all_goals first
        | (exfalso; simp only [List.length_cons, List.length_nil] at hlo hhi; omega)
        | (refine ⟨_, rfl, ?_⟩
           refine xo_faR T_ rfl rfl rfl rfl rfl ?_
           exact xo_fin rfl)
    refine DrawE.pure 0 1 rfl (.inl rfl) (fun L g hg hd => Nat.zero_le _) (fun g hlo hhi hF τ => ?_) ?_
    · rcases g with _ | ⟨a0, _ | ⟨a1, g⟩⟩
      all_goals first
        | (exfalso; simp only [List.length_cons, List.length_nil] at hlo hhi; omega)
        | (refine ⟨_, rfl, ?_⟩
           refine xo_loadR0 T_ rfl rfl rfl (by first | assumption | exact RO.fld (by assumption) rfl) rfl ?_
           exact xo_fin rfl)
    refine DrawE.pure 1 1 rfl (.inl rfl) (fun L g hg hd => hg.2.1 2 (hd 2 (by decide))) (fun g hlo hhi hF τ => ?_) ?_
    · rcases g with _ | ⟨a0, _ | ⟨a1, g⟩⟩
      all_goals first
        | (exfalso; simp only [List.length_cons, List.length_nil] at hlo hhi; omega)
        | (refine ⟨_, rfl, ?_⟩
           refine xo_asg rfl rfl rfl ?_
           exact xo_fin rfl)
    refine DrawE.pure 1 1 rfl (.inl rfl) (fun L g hg hd => hg.2.1 12 (hd 12 (by decide))) (fun g hlo hhi hF τ => ?_) ?_
    · rcases g with _ | ⟨a0, _ | ⟨a1, g⟩⟩
      all_goals first
        | (exfalso; simp only [List.length_cons, List.length_nil] at hlo hhi; omega)
        | (refine ⟨_, rfl, ?_⟩
           refine xo_asg rfl rfl rfl ?_
           exact xo_fin rfl)
    exact DrawE.nil
  intro g hgl hF
  obtain ⟨a0, rfl⟩ : ∃ a0, g = [a0] := by
    rcases g with _ | ⟨a0, _ | ⟨a1, g⟩⟩ <;> first | exact ⟨_, rfl⟩ | (exfalso; simp only [List.length_cons, List.length_nil] at hgl; omega)
  with_reducible repeat (first | refine xq_then ?_ | refine xq_blockN ?_ | refine xq_scopeN ?_)
  with_reducible repeat refine xc_seq ?_
  refine xc_slots [(0, .slice (some ad) r.length c), (1, .slice (some bd) l.length c'), (11, .bool true), (17, .slice (some ⟨bR, 0, none⟩) (turnL l kk tn).length capR), (19, .int .i64 (a0.b : Int)), (20, .int .i64 id)] ⟨rfl, rfl, rfl, rfl, rfl, rfl, trivial⟩ ?_
  have hd : 0 ≤ (a0.b : Int) ∧ (a0.b : Int) ≤ 100000 := ⟨by omega, by have : a0.b ≤ 100000 := hF; omega⟩
  generalize (a0.b : Int) = d at *
  have hkl' : kk ≤ l.length := by omega
  obtain ⟨p1, p2, p3, p4, p5, p6⟩ := turn_all hck hA hkl' htn d id
  have p7 := turn_open hck hkl' htn d []
  have p8 := turn_open hck hkl' htn d [id]
  have n1 := holdsR_len r l d
  have n2 := takesR_len r l d id
  have n3 := restsR_len r l d id
  have n4 := causesR_len r l d id
  generalize turnL l kk tn = TL at *
  generalize hH : holdsR r l d = H at *
  generalize hT : takesR r l d id = T at *
  generalize hR1 : refRestsR r l d id = R1 at *
  generalize hR2 : refRestsC r l d id = R2 at *
  generalize hC1 : refCausesR r l d id = C1 at *
  generalize hC2 : refCausesC r l d id = C2 at *
  generalize ho1 : openF r l d [] = o1 at *
  generalize ho2 : openF r l d [id] = o2 at *
  with_reducible repeat refine xc_seq ?_
  with_reducible refine xc_region ?_
  refine xo_mv rfl rfl rfl ?_
  refine xo_mv rfl rfl rfl ?_
  refine xo_mv rfl rfl rfl ?_
  refine xo_call (fs := []) (cs := []) rfl rfl rfl trustHolds_enters rfl (fun w1 hw1 => ?_)
  have h2 := trustHolds_calls (some ad) (some bd) c c' r l d w1 (Kd.C_below hr hw1.kx.below) (Kd.C_below hl hw1.kx.below) hk hkl
  rw [hH, ho1] at h2
  refine h2.mono ?_
  clear h2
  rintro e w2 ⟨rv1, rfl, hrow, hb⟩
  have h0rv1 := hrow.1
  refine ⟨_, _, rfl, hw1.row hb hrow, ?_⟩
  clear hrow hb hw1
  refine xo_mv rfl rfl rfl ?_
  refine xo_ext rfl rfl rfl rfl ?_
  refine xo_ext rfl rfl rfl rfl ?_
  refine xo_asg rfl rfl rfl ?_
  refine xo_asg rfl rfl rfl ?_
  with_reducible refine xo_nil ?_
  with_reducible repeat (first | refine xq_then ?_ | refine xq_blockN ?_ | refine xq_scopeN ?_)
  with_reducible repeat refine xc_seq ?_
  with_reducible refine xc_region ?_
  refine xo_mv rfl rfl rfl ?_
  refine xo_mv rfl rfl rfl ?_
  refine xo_mv rfl rfl rfl ?_
  refine xo_call (fs := []) (cs := []) rfl rfl rfl trustHolds_enters rfl (fun w1 hw1 => ?_)
  have h2 := trustHolds_calls (some ad) (some ⟨bR, 0, none⟩) c capR r TL d w1 (Kd.C_below hr hw1.kx.below) (let_read hw1 (by repeat (first | exact List.Mem.head _ | exact List.mem_append_left _ (List.Mem.head _) | apply List.mem_append_right | apply List.Mem.tail)) (by omega)) hk hklT
  rw [p1, p7] at h2
  refine h2.mono ?_
  clear h2
  rintro e w2 ⟨r2, rfl, hrow, hb⟩
  have h0r2 := hrow.1
  refine ⟨_, _, rfl, hw1.row hb hrow, ?_⟩
  clear hrow hb hw1
  refine xo_mv rfl rfl rfl ?_
  refine xo_ext rfl rfl rfl rfl ?_
  refine xo_ext rfl rfl rfl rfl ?_
  refine xo_asg rfl rfl rfl ?_
  refine xo_asg rfl rfl rfl ?_
  with_reducible refine xo_nil ?_
  with_reducible repeat (first | refine xq_then ?_ | refine xq_blockN ?_ | refine xq_scopeN ?_)
  with_reducible repeat refine xc_seq ?_
  with_reducible refine xc_region ?_
  refine xo_mv rfl rfl rfl ?_
  refine xo_mv rfl rfl rfl ?_
  refine xo_mv rfl rfl rfl ?_
  refine xo_mv rfl rfl rfl ?_
  refine xo_call (fs := []) (cs := []) rfl rfl rfl trustTakes_enters rfl (fun w1 hw1 => ?_)
  have h2 := trustTakes_calls (some ad) (some bd) c c' r l d id w1 (Kd.C_below hr hw1.kx.below) (Kd.C_below hl hw1.kx.below) hk hkl
  rw [hT, ho2] at h2
  refine h2.mono ?_
  clear h2
  rintro e w2 ⟨r3, rfl, hrow, hb⟩
  have h0r3 := hrow.1
  refine ⟨_, _, rfl, hw1.row hb hrow, ?_⟩
  clear hrow hb hw1
  refine xo_mv rfl rfl rfl ?_
  refine xo_ext rfl rfl rfl rfl ?_
  refine xo_ext rfl rfl rfl rfl ?_
  refine xo_asg rfl rfl rfl ?_
  refine xo_asg rfl rfl rfl ?_
  with_reducible refine xo_nil ?_
  with_reducible repeat (first | refine xq_then ?_ | refine xq_blockN ?_ | refine xq_scopeN ?_)
  with_reducible repeat refine xc_seq ?_
  with_reducible refine xc_region ?_
  refine xo_mv rfl rfl rfl ?_
  refine xo_mv rfl rfl rfl ?_
  refine xo_mv rfl rfl rfl ?_
  refine xo_mv rfl rfl rfl ?_
  refine xo_call (fs := []) (cs := []) rfl rfl rfl trustTakes_enters rfl (fun w1 hw1 => ?_)
  have h2 := trustTakes_calls (some ad) (some ⟨bR, 0, none⟩) c capR r TL d id w1 (Kd.C_below hr hw1.kx.below) (let_read hw1 (by repeat (first | exact List.Mem.head _ | exact List.mem_append_left _ (List.Mem.head _) | apply List.mem_append_right | apply List.Mem.tail)) (by omega)) hk hklT
  rw [p2, p8] at h2
  refine h2.mono ?_
  clear h2
  rintro e w2 ⟨r4, rfl, hrow, hb⟩
  have h0r4 := hrow.1
  refine ⟨_, _, rfl, hw1.row hb hrow, ?_⟩
  clear hrow hb hw1
  refine xo_mv rfl rfl rfl ?_
  refine xo_ext rfl rfl rfl rfl ?_
  refine xo_ext rfl rfl rfl rfl ?_
  refine xo_asg rfl rfl rfl ?_
  refine xo_asg rfl rfl rfl ?_
  with_reducible refine xo_nil ?_
  with_reducible repeat (first | refine xq_then ?_ | refine xq_blockN ?_ | refine xq_scopeN ?_)
  with_reducible repeat refine xc_seq ?_
  with_reducible refine xc_region ?_
  refine xo_mv rfl rfl rfl ?_
  refine xo_mv rfl rfl rfl ?_
  refine xo_mv rfl rfl rfl ?_
  refine xo_mv rfl rfl rfl ?_
  refine xo_call (fs := []) (cs := []) rfl rfl rfl trustRests_enters rfl (fun w1 hw1 => ?_)
  have h2 := trustRests_calls (some ad) (some bd) c c' r l d id w1 (Kd.C_below hr hw1.kx.below) (Kd.C_below hl hw1.kx.below) hk hkl
  rw [hR1, hR2] at h2
  refine h2.mono ?_
  clear h2
  rintro e w2 ⟨r5, rfl, hrow, hb⟩
  have h0r5 := hrow.1
  refine ⟨_, _, rfl, hw1.row hb hrow, ?_⟩
  clear hrow hb hw1
  refine xo_mv rfl rfl rfl ?_
  refine xo_ext rfl rfl rfl rfl ?_
  refine xo_ext rfl rfl rfl rfl ?_
  refine xo_asg rfl rfl rfl ?_
  refine xo_asg rfl rfl rfl ?_
  with_reducible refine xo_nil ?_
  with_reducible repeat (first | refine xq_then ?_ | refine xq_blockN ?_ | refine xq_scopeN ?_)
  with_reducible repeat refine xc_seq ?_
  with_reducible refine xc_region ?_
  refine xo_mv rfl rfl rfl ?_
  refine xo_mv rfl rfl rfl ?_
  refine xo_mv rfl rfl rfl ?_
  refine xo_mv rfl rfl rfl ?_
  refine xo_call (fs := []) (cs := []) rfl rfl rfl trustRests_enters rfl (fun w1 hw1 => ?_)
  have h2 := trustRests_calls (some ad) (some ⟨bR, 0, none⟩) c capR r TL d id w1 (Kd.C_below hr hw1.kx.below) (let_read hw1 (by repeat (first | exact List.Mem.head _ | exact List.mem_append_left _ (List.Mem.head _) | apply List.mem_append_right | apply List.Mem.tail)) (by omega)) hk hklT
  rw [p3, p4] at h2
  refine h2.mono ?_
  clear h2
  rintro e w2 ⟨r6, rfl, hrow, hb⟩
  have h0r6 := hrow.1
  refine ⟨_, _, rfl, hw1.row hb hrow, ?_⟩
  clear hrow hb hw1
  refine xo_mv rfl rfl rfl ?_
  refine xo_ext rfl rfl rfl rfl ?_
  refine xo_ext rfl rfl rfl rfl ?_
  refine xo_asg rfl rfl rfl ?_
  refine xo_asg rfl rfl rfl ?_
  with_reducible refine xo_nil ?_
  with_reducible repeat (first | refine xq_then ?_ | refine xq_blockN ?_ | refine xq_scopeN ?_)
  with_reducible repeat refine xc_seq ?_
  with_reducible refine xc_region ?_
  refine xo_mv rfl rfl rfl ?_
  refine xo_mv rfl rfl rfl ?_
  refine xo_mv rfl rfl rfl ?_
  refine xo_mv rfl rfl rfl ?_
  refine xo_call (fs := []) (cs := []) rfl rfl rfl trustCauses_enters rfl (fun w1 hw1 => ?_)
  have h2 := trustCauses_calls (some ad) (some bd) c c' r l d id w1 (Kd.C_below hr hw1.kx.below) (Kd.C_below hl hw1.kx.below) hk hkl
  rw [hC1, hC2] at h2
  refine h2.mono ?_
  clear h2
  rintro e w2 ⟨r7, rfl, hrow, hb⟩
  have h0r7 := hrow.1
  refine ⟨_, _, rfl, hw1.row hb hrow, ?_⟩
  clear hrow hb hw1
  refine xo_mv rfl rfl rfl ?_
  refine xo_ext rfl rfl rfl rfl ?_
  refine xo_ext rfl rfl rfl rfl ?_
  refine xo_asg rfl rfl rfl ?_
  refine xo_asg rfl rfl rfl ?_
  with_reducible refine xo_nil ?_
  with_reducible repeat (first | refine xq_then ?_ | refine xq_blockN ?_ | refine xq_scopeN ?_)
  with_reducible repeat refine xc_seq ?_
  with_reducible refine xc_region ?_
  refine xo_mv rfl rfl rfl ?_
  refine xo_mv rfl rfl rfl ?_
  refine xo_mv rfl rfl rfl ?_
  refine xo_mv rfl rfl rfl ?_
  refine xo_call (fs := []) (cs := []) rfl rfl rfl trustCauses_enters rfl (fun w1 hw1 => ?_)
  have h2 := trustCauses_calls (some ad) (some ⟨bR, 0, none⟩) c capR r TL d id w1 (Kd.C_below hr hw1.kx.below) (let_read hw1 (by repeat (first | exact List.Mem.head _ | exact List.mem_append_left _ (List.Mem.head _) | apply List.mem_append_right | apply List.Mem.tail)) (by omega)) hk hklT
  rw [p5, p6] at h2
  refine h2.mono ?_
  clear h2
  rintro e w2 ⟨r8, rfl, hrow, hb⟩
  have h0r8 := hrow.1
  refine ⟨_, _, rfl, hw1.row hb hrow, ?_⟩
  clear hrow hb hw1
  refine xo_mv rfl rfl rfl ?_
  refine xo_ext rfl rfl rfl rfl ?_
  refine xo_ext rfl rfl rfl rfl ?_
  refine xo_asg rfl rfl rfl ?_
  refine xo_asg rfl rfl rfl ?_
  with_reducible refine xo_nil ?_
  with_reducible repeat (first | refine xq_then ?_ | refine xq_blockN ?_ | refine xq_scopeN ?_)
  with_reducible repeat refine xc_seq ?_
  with_reducible refine xc_region ?_
  refine xo_mv rfl rfl rfl ?_
  refine xo_mv rfl rfl rfl ?_
  first
    | refine xo_not rfl rfl ?_
    | (refine xo_mv rfl rfl rfl ?_)
  first
    | refine xo_not rfl rfl ?_
    | (refine xo_mv rfl rfl rfl ?_)
  first
    | refine xo_not rfl rfl ?_
    | (refine xo_eql rfl rfl rfl rfl ?_)
  refine xo_as (i := 194) rfl (congrArg Value.bool eq_tt) ?_
  first | refine xo_pickT rfl rfl rfl rfl ?_ | refine xo_pickF rfl rfl rfl rfl ?_
  refine xo_mv rfl rfl rfl ?_
  first
    | refine xo_not rfl rfl ?_
    | (refine xo_mv rfl rfl rfl ?_)
  first
    | refine xo_not rfl rfl ?_
    | (refine xo_mv rfl rfl rfl ?_)
  first
    | refine xo_not rfl rfl ?_
    | (refine xo_eql rfl rfl rfl rfl ?_)
  refine xo_as (i := 199) rfl (congrArg Value.bool eq_tt) ?_
  first | refine xo_pickT rfl rfl rfl rfl ?_ | refine xo_pickF rfl rfl rfl rfl ?_
  refine xo_mv rfl rfl rfl ?_
  first
    | refine xo_not rfl rfl ?_
    | (refine xo_mv rfl rfl rfl ?_)
  first
    | refine xo_not rfl rfl ?_
    | (refine xo_mv rfl rfl rfl ?_)
  first
    | refine xo_not rfl rfl ?_
    | (refine xo_eql rfl rfl rfl rfl ?_)
  refine xo_as (i := 204) rfl (congrArg Value.bool eq_tt) ?_
  first | refine xo_pickT rfl rfl rfl rfl ?_ | refine xo_pickF rfl rfl rfl rfl ?_
  refine xo_mv rfl rfl rfl ?_
  first
    | refine xo_not rfl rfl ?_
    | (refine xo_mv rfl rfl rfl ?_)
  first
    | refine xo_not rfl rfl ?_
    | (refine xo_mv rfl rfl rfl ?_)
  first
    | refine xo_not rfl rfl ?_
    | (refine xo_eql rfl rfl rfl rfl ?_)
  refine xo_as (i := 209) rfl (congrArg Value.bool eq_tt) ?_
  first | refine xo_pickT rfl rfl rfl rfl ?_ | refine xo_pickF rfl rfl rfl rfl ?_
  refine xo_mv rfl rfl rfl ?_
  first
    | refine xo_not rfl rfl ?_
    | (refine xo_mv rfl rfl rfl ?_)
  first
    | refine xo_not rfl rfl ?_
    | (refine xo_mv rfl rfl rfl ?_)
  first
    | refine xo_not rfl rfl ?_
    | (refine xo_callB (fs := []) (cs := []) rfl rfl rfl sameInts_enters rfl (fun w1 hw1 => sameRows hw1 (by omega) (hw1.rowAt h0rv1 (fun p hp => by subst hp; exact (by repeat (first | exact List.Mem.head _ | exact List.mem_append_left _ (List.Mem.head _) | apply List.mem_append_right | apply List.Mem.tail)))) (hw1.rowAt h0r2 (fun p hp => by subst hp; exact (by repeat (first | exact List.Mem.head _ | exact List.mem_append_left _ (List.Mem.head _) | apply List.mem_append_right | apply List.Mem.tail))))) ?_)
  first | refine xo_pickT rfl rfl rfl rfl ?_ | refine xo_pickF rfl rfl rfl rfl ?_
  refine xo_mv rfl rfl rfl ?_
  first
    | refine xo_not rfl rfl ?_
    | (refine xo_mv rfl rfl rfl ?_)
  first
    | refine xo_not rfl rfl ?_
    | (refine xo_mv rfl rfl rfl ?_)
  first
    | refine xo_not rfl rfl ?_
    | (refine xo_callB (fs := []) (cs := []) rfl rfl rfl sameInts_enters rfl (fun w1 hw1 => sameRows hw1 (by omega) (hw1.rowAt h0r3 (fun p hp => by subst hp; exact (by repeat (first | exact List.Mem.head _ | exact List.mem_append_left _ (List.Mem.head _) | apply List.mem_append_right | apply List.Mem.tail)))) (hw1.rowAt h0r4 (fun p hp => by subst hp; exact (by repeat (first | exact List.Mem.head _ | exact List.mem_append_left _ (List.Mem.head _) | apply List.mem_append_right | apply List.Mem.tail))))) ?_)
  first | refine xo_pickT rfl rfl rfl rfl ?_ | refine xo_pickF rfl rfl rfl rfl ?_
  refine xo_mv rfl rfl rfl ?_
  first
    | refine xo_not rfl rfl ?_
    | (refine xo_mv rfl rfl rfl ?_)
  first
    | refine xo_not rfl rfl ?_
    | (refine xo_mv rfl rfl rfl ?_)
  first
    | refine xo_not rfl rfl ?_
    | (refine xo_callB (fs := []) (cs := []) rfl rfl rfl sameInts_enters rfl (fun w1 hw1 => sameRows hw1 (by omega) (hw1.rowAt h0r5 (fun p hp => by subst hp; exact (by repeat (first | exact List.Mem.head _ | exact List.mem_append_left _ (List.Mem.head _) | apply List.mem_append_right | apply List.Mem.tail)))) (hw1.rowAt h0r6 (fun p hp => by subst hp; exact (by repeat (first | exact List.Mem.head _ | exact List.mem_append_left _ (List.Mem.head _) | apply List.mem_append_right | apply List.Mem.tail))))) ?_)
  first | refine xo_pickT rfl rfl rfl rfl ?_ | refine xo_pickF rfl rfl rfl rfl ?_
  refine xo_mv rfl rfl rfl ?_
  first
    | refine xo_not rfl rfl ?_
    | (refine xo_mv rfl rfl rfl ?_)
  first
    | refine xo_not rfl rfl ?_
    | (refine xo_mv rfl rfl rfl ?_)
  first
    | refine xo_not rfl rfl ?_
    | (refine xo_callB (fs := []) (cs := []) rfl rfl rfl sameInts_enters rfl (fun w1 hw1 => sameRows hw1 (by omega) (hw1.rowAt h0r7 (fun p hp => by subst hp; exact (by repeat (first | exact List.Mem.head _ | exact List.mem_append_left _ (List.Mem.head _) | apply List.mem_append_right | apply List.Mem.tail)))) (hw1.rowAt h0r8 (fun p hp => by subst hp; exact (by repeat (first | exact List.Mem.head _ | exact List.mem_append_left _ (List.Mem.head _) | apply List.mem_append_right | apply List.Mem.tail))))) ?_)
  first | refine xo_pickT rfl rfl rfl rfl ?_ | refine xo_pickF rfl rfl rfl rfl ?_
  refine xo_asg rfl rfl rfl ?_
  with_reducible refine xo_nil ?_
  with_reducible repeat (first | refine xq_then ?_ | refine xq_blockN ?_ | refine xq_scopeN ?_)
  with_reducible repeat refine xc_seq ?_
  with_reducible refine xc_ret ?_
  with_reducible repeat (first | refine xq_thenR ?_ | refine xq_blockR ?_ | refine xq_scopeR ?_)
  exact xq_ret1 rfl rfl fun w' hw => ⟨rfl, hw.kx.below⟩
end Go.Proofs.YtcmepdamemnbkaaDoor
