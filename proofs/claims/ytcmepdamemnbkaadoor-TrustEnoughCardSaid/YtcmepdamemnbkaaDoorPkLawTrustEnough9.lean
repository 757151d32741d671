/- law08.TrustEnough: the walk. -/
import Derived.Test.YtcmepdamemnbkaaDoorPkLawTrustEnough8
namespace Go.Proofs.YtcmepdamemnbkaaDoor
open Go.RowKit Go.Proofs.YtcmepdamemnbkaaDoorW.PrintWords
set_option linter.unusedVariables false
set_option linter.unusedSimpArgs false
set_option maxRecDepth 8192 in
set_option maxHeartbeats 64000000 in
theorem trustEnough_law (A B : Option Addr) (c c' : Nat) (r : List RecT) (l : List LetT) (n wh o : Int) (w : World) (hr : Kd.C recK w A r.length r) (hl : Kd.C letK w B l.length l) (hk : Bytes r) (hkl : BytesL l) (hn : 0 ≤ n ∧ n ≤ 4294967295) (hwh : 0 ≤ wh ∧ wh ≤ 255) (ho16 : 0 ≤ o ∧ o ≤ 65535) (hglob : GlobOK w) :
    Calls Tryd.prog 8 #[.slice A r.length c, .slice B l.length c', .int .u32 n, .int .u8 wh, .int .u16 o] w fun e w' => e = .returned (.bool true) ∧ Below w.heap.size w w' := by
  have hrn := hr.2.1
  obtain ⟨on, rfl⟩ : ∃ on : Nat, o = (on : Int) := ⟨o.toNat, by omega⟩
  have hon : on ≤ 65535 := by omega
  refine x_calls (X := XNone) Tryd.func8 rfl rfl rfl ?_
  with_reducible repeat refine xc_seq ?_
  with_reducible refine xc_region ?_
  refine xo_asg rfl rfl rfl ?_
  with_reducible refine xo_nil ?_
  with_reducible repeat (first | refine xq_then ?_ | refine xq_blockN ?_ | refine xq_scopeN ?_)
  with_reducible repeat refine xc_seq ?_
  with_reducible refine xc_region ?_
  refine xo_callB (fs := []) (cs := []) rfl rfl rfl alive_enters rfl (fun w1 hw1 => alive_calls w1 (hglob.below hw1.kx.below)) ?_
  refine xo_asg rfl rfl rfl ?_
  with_reducible refine xo_nil ?_
  with_reducible repeat (first | refine xq_then ?_ | refine xq_blockN ?_ | refine xq_scopeN ?_)
  with_reducible refine xc_seq ?_
  refine xc_cut (γ := Bool) (fun g => g = false → Small r ∧ l.length ≤ 30 ∧ checkF r l = 0 ∧ r.length ≠ 0) (fun g => [(0, .slice A r.length c), (1, .slice B l.length c'), (2, .int .u32 n), (3, .int .u8 wh), (4, .int .u16 (on : Int)), (11, .bool true), (42, .bool g)]) (fun _ => []) ?_ (fun g hg => ?_)
  · with_reducible repeat refine xc_seq ?_
    with_reducible refine xc_region ?_
    refine xo_mv rfl rfl rfl ?_
    refine xo_mv rfl rfl rfl ?_
    refine xo_call (fs := []) (cs := []) rfl rfl rfl ready_enters rfl (fun w1 hw1 => (ready_calls A B c c' r l w1 (Kd.C_below hr hw1.kx.below) (Kd.C_below hl hw1.kx.below) hk hkl).mono ?_)
    rintro e w2 ⟨b, rfl, hb, hrd⟩
    refine ⟨_, _, rfl, hw1.below hb, ?_⟩
    clear hb hw1
    cases b
    · refine xo_notOp rfl rfl rfl ?_
      refine xo_mv rfl rfl rfl ?_
      first
        | refine xo_not rfl rfl ?_
        | (refine xo_mv rfl rfl rfl ?_)
      first
        | refine xo_not rfl rfl ?_
        | (refine xo_len T_ rfl rfl rfl rfl ?_)
      first
        | refine xo_not rfl rfl ?_
        | (refine xo_eql rfl rfl rfl rfl ?_)
      first | refine xo_pickT rfl rfl rfl rfl ?_ | refine xo_pickF rfl rfl rfl rfl ?_
      refine xo_mv rfl rfl rfl ?_
      first
        | refine xo_not rfl rfl ?_
        | (refine xo_mv rfl rfl rfl ?_)
      first
        | refine xo_not rfl rfl ?_
        | (refine xo_notOp rfl rfl rfl ?_)
      first | refine xo_pickT rfl rfl rfl rfl ?_ | refine xo_pickF rfl rfl rfl rfl ?_
      with_reducible refine xo_nil ?_
      with_reducible repeat (first | refine xq_then ?_ | refine xq_blockN ?_ | refine xq_scopeN ?_)
      exact xq_meet _ _ _ true (fun h => by cases h) ⟨rfl, rfl, rfl, rfl, rfl, rfl, rfl, trivial⟩ (List.nil_sublist _)
    obtain ⟨hsm, hl30, hck⟩ := hrd rfl
    cases h0 : decide ((r.length : Int) = 0)
    rotate_left
    · refine xo_notOp rfl rfl rfl ?_
      refine xo_mv rfl rfl rfl ?_
      first
        | refine xo_not rfl rfl ?_
        | (refine xo_mv rfl rfl rfl ?_)
      first
        | refine xo_not rfl rfl ?_
        | (refine xo_len T_ rfl rfl rfl rfl ?_)
      first
        | refine xo_not rfl rfl ?_
        | (refine xo_eql rfl rfl rfl rfl ?_)
      refine xo_as (i := 37) rfl (congrArg Value.bool h0) ?_
      first | refine xo_pickT rfl rfl rfl rfl ?_ | refine xo_pickF rfl rfl rfl rfl ?_
      refine xo_mv rfl rfl rfl ?_
      first
        | refine xo_not rfl rfl ?_
        | (refine xo_mv rfl rfl rfl ?_)
      first
        | refine xo_not rfl rfl ?_
        | (refine xo_notOp rfl rfl rfl ?_)
      first | refine xo_pickT rfl rfl rfl rfl ?_ | refine xo_pickF rfl rfl rfl rfl ?_
      with_reducible refine xo_nil ?_
      with_reducible repeat (first | refine xq_then ?_ | refine xq_blockN ?_ | refine xq_scopeN ?_)
      exact xq_meet _ _ _ true (fun h => by cases h) ⟨rfl, rfl, rfl, rfl, rfl, rfl, rfl, trivial⟩ (List.nil_sublist _)
    · refine xo_notOp rfl rfl rfl ?_
      refine xo_mv rfl rfl rfl ?_
      first
        | refine xo_not rfl rfl ?_
        | (refine xo_mv rfl rfl rfl ?_)
      first
        | refine xo_not rfl rfl ?_
        | (refine xo_len T_ rfl rfl rfl rfl ?_)
      first
        | refine xo_not rfl rfl ?_
        | (refine xo_eql rfl rfl rfl rfl ?_)
      refine xo_as (i := 37) rfl (congrArg Value.bool h0) ?_
      first | refine xo_pickT rfl rfl rfl rfl ?_ | refine xo_pickF rfl rfl rfl rfl ?_
      refine xo_mv rfl rfl rfl ?_
      first
        | refine xo_not rfl rfl ?_
        | (refine xo_mv rfl rfl rfl ?_)
      first
        | refine xo_not rfl rfl ?_
        | (refine xo_notOp rfl rfl rfl ?_)
      first | refine xo_pickT rfl rfl rfl rfl ?_ | refine xo_pickF rfl rfl rfl rfl ?_
      with_reducible refine xo_nil ?_
      with_reducible repeat (first | refine xq_then ?_ | refine xq_blockN ?_ | refine xq_scopeN ?_)
      have h0' := of_decide_eq_false h0
      exact xq_meet _ _ _ false (fun _ => ⟨hsm, hl30, hck, by omega⟩) ⟨rfl, rfl, rfl, rfl, rfl, rfl, rfl, trivial⟩ (List.nil_sublist _)
  with_reducible repeat refine xc_seq ?_
  refine xc_cond rfl (fun hg1 => ?_) (fun hg1 => ?_)
  · with_reducible repeat refine xc_seq ?_
    with_reducible refine xc_region ?_
    refine xo_mv rfl rfl rfl ?_
    refine xo_asg rfl rfl rfl ?_
    with_reducible refine xo_nil ?_
    with_reducible repeat (first | refine xq_then ?_ | refine xq_blockN ?_ | refine xq_scopeN ?_)
    with_reducible repeat refine xc_seq ?_
    with_reducible refine xc_ret ?_
    with_reducible repeat (first | refine xq_thenR ?_ | refine xq_blockR ?_ | refine xq_scopeR ?_)
    exact xq_ret1 rfl rfl fun w' hw => ⟨rfl, hw.kx.below⟩
  obtain ⟨hsm, hl30, hck, hr0⟩ := hg hg1
  clear hg
  have hok := check_zero hck
  have hs := sorted_of hok
  have hlen := recorded_len hok
  have hlm := lettersF_mem l _ _ (by omega) (check_split hck).2
  have hm1 := Int.emod_nonneg wh (b := (r.length : Int)) (by omega)
  have hm2 := Int.emod_lt_of_pos wh (b := (r.length : Int)) (by omega)
  with_reducible refine xc_skip ?_
  with_reducible repeat (first | refine xq_then ?_ | refine xq_blockN ?_ | refine xq_scopeN ?_)
  with_reducible repeat refine xc_seq ?_
  apply xc_drawE (fun g => [(2, .int .i64 ((g.getD 0 gv0).b : Int)), (8, .int .i64 ((g.getD 0 gv0).b : Int))]) (fun (η0 : Hp) g => match g with | [] => (η0) | a0 :: _ => (η0)) (fun g => match g with | a0 :: _ => a0.b ≤ 100000 | _ => True) [0, 0, 1, 0, 0, 0, 0, 0, 1, 1] [2] [[0, 1]] (by trivial)
  apply SameLen.cons
  apply SameLen.cons
  apply SameLen.cons (c := undef)
  apply SameLen.cons
  apply SameLen.cons
  apply SameLen.cons
  apply SameLen.cons
  apply SameLen.cons
  apply SameLen.cons (c := undef)
  apply SameLen.cons
  exact SameLen.nil
  rotate_left 8
  case hH0 => rfl
  case hmix => exact T_.mixed
  case hbind => rfl
  case hdeps => rfl
  case hdist => rfl
  case hfresh => rfl
  case hE => rfl
  case hEn => decide
  · refine DrawE.pure 0 0 rfl (.inr (by decide)) (fun L g hg hd => Nat.zero_le _) (fun g hlo hhi hF τ => ?_) ?_
    · rcases g with _ | ⟨a0, _ | ⟨a1, g⟩⟩
      all_goals first
        | (exfalso; simp only [List.length_cons, List.length_nil] at hlo hhi; omega)
        | (refine ⟨_, rfl, ?_⟩
           refine xo_mv rfl rfl rfl ?_
           exact xo_fin rfl)
    refine DrawE.pure 0 0 rfl (.inr (by decide)) (fun L g hg hd => Nat.zero_le _) (fun g hlo hhi hF τ => ?_) ?_
    · rcases g with _ | ⟨a0, _ | ⟨a1, g⟩⟩
      all_goals first
        | (exfalso; simp only [List.length_cons, List.length_nil] at hlo hhi; omega)
        | (refine ⟨_, rfl, ?_⟩
           refine xo_mv rfl rfl rfl ?_
           exact xo_fin rfl)
    refine DrawE.eff 0 rfl (by decide) rfl (fun j hj => hj) (fun j g a hj => ?_) (fun L g hg hd => Nat.zero_le _) (fun g hgl hF τ => ?_) ?_
    · rcases j with _ | _ | _ | _ | _ | _ | _ | _ | _ | _ | j
      all_goals first | rfl | (rcases g with _ | ⟨a0, _ | ⟨a1, g⟩⟩ <;> first | rfl | exact absurd hj (by decide) | exact absurd hj (by simp [List.getD]))
    · obtain rfl : g = [] := by
        rcases g with _ | ⟨a0, g⟩ <;> first | rfl | (exfalso; simp only [List.length_cons, List.length_nil] at hgl; omega)
      refine xo_call (fs := []) (cs := []) rfl rfl rfl day_enters rfl (fun w1 hw1 => (day_calls B c' l n w1 (Kd.C_below hl hw1.kx.below) hn (fun x hx => (hlm x hx).2.1)).mono ?_)
      rintro e w2 ⟨d, rfl, hb, hd0, hd1⟩
      obtain ⟨dn, rfl⟩ : ∃ dn : Nat, d = (dn : Int) := ⟨d.toNat, by omega⟩
      refine ⟨_, _, rfl, hw1.below hb, ?_⟩
      exact xo_finE ⟨dn, 0, none⟩ rfl (show dn ≤ 100000 by omega)
    refine DrawE.pure 0 1 rfl (.inl rfl) (fun L g hg hd => Nat.zero_le _) (fun g hlo hhi hF τ => ?_) ?_
    · rcases g with _ | ⟨a0, _ | ⟨a1, g⟩⟩
      all_goals first
        | (exfalso; simp only [List.length_cons, List.length_nil] at hlo hhi; omega)
        | (refine ⟨_, rfl, ?_⟩
           refine xo_mv rfl rfl rfl ?_
           exact xo_fin rfl)
    refine DrawE.pure 0 1 rfl (.inl rfl) (fun L g hg hd => Nat.zero_le _) (fun g hlo hhi hF τ => ?_) ?_
    · rcases g with _ | ⟨a0, _ | ⟨a1, g⟩⟩
      all_goals first
        | (exfalso; simp only [List.length_cons, List.length_nil] at hlo hhi; omega)
        | (refine ⟨_, rfl, ?_⟩
           refine xo_conv T_ rfl rfl rfl rfl (IntWalk.i64_in _ ⟨by omega, by omega⟩) rfl ?_
           exact xo_fin rfl)
    refine DrawE.pure 0 1 rfl (.inl rfl) (fun L g hg hd => Nat.zero_le _) (fun g hlo hhi hF τ => ?_) ?_
    · rcases g with _ | ⟨a0, _ | ⟨a1, g⟩⟩
      all_goals first
        | (exfalso; simp only [List.length_cons, List.length_nil] at hlo hhi; omega)
        | (refine ⟨_, rfl, ?_⟩
           refine xo_mv rfl rfl rfl ?_
           exact xo_fin rfl)
    refine DrawE.pure 0 1 rfl (.inl rfl) (fun L g hg hd => Nat.zero_le _) (fun g hlo hhi hF τ => ?_) ?_
    · rcases g with _ | ⟨a0, _ | ⟨a1, g⟩⟩
      all_goals first
        | (exfalso; simp only [List.length_cons, List.length_nil] at hlo hhi; omega)
        | (refine ⟨_, rfl, ?_⟩
           refine xo_len T_ rfl rfl rfl rfl ?_
           exact xo_fin rfl)
    refine DrawE.pure 0 1 rfl (.inl rfl) (fun L g hg hd => Nat.zero_le _) (fun g hlo hhi hF τ => ?_) ?_
    · rcases g with _ | ⟨a0, _ | ⟨a1, g⟩⟩
      all_goals first
        | (exfalso; simp only [List.length_cons, List.length_nil] at hlo hhi; omega)
        | (refine ⟨_, rfl, ?_⟩
           refine xo_rem rfl rfl rfl (by omega) (by omega) rfl ?_
           exact xo_fin rfl)
    refine DrawE.pure 1 1 rfl (.inl rfl) (fun L g hg hd => hg.2.1 2 (hd 2 (by decide))) (fun g hlo hhi hF τ => ?_) ?_
    · rcases g with _ | ⟨a0, _ | ⟨a1, g⟩⟩
      all_goals first
        | (exfalso; simp only [List.length_cons, List.length_nil] at hlo hhi; omega)
        | (refine ⟨_, rfl, ?_⟩
           refine xo_asg rfl rfl rfl ?_
           exact xo_fin rfl)
    refine DrawE.pure 1 1 rfl (.inl rfl) (fun L g hg hd => hg.2.1 8 (hd 8 (by decide))) (fun g hlo hhi hF τ => ?_) ?_
    · rcases g with _ | ⟨a0, _ | ⟨a1, g⟩⟩
      all_goals first
        | (exfalso; simp only [List.length_cons, List.length_nil] at hlo hhi; omega)
        | (refine ⟨_, rfl, ?_⟩
           refine xo_asg rfl rfl rfl ?_
           exact xo_fin rfl)
    exact DrawE.nil
  intro g hgl hF
  obtain ⟨a0, rfl⟩ : ∃ a0, g = [a0] := by
    rcases g with _ | ⟨a0, _ | ⟨a1, g⟩⟩ <;> first | exact ⟨_, rfl⟩ | (exfalso; simp only [List.length_cons, List.length_nil] at hgl; omega)
  with_reducible repeat (first | refine xq_then ?_ | refine xq_blockN ?_ | refine xq_scopeN ?_)
  with_reducible repeat refine xc_seq ?_
  refine xc_slots [(0, .slice A r.length c), (1, .slice B l.length c'), (4, .int .u16 (on : Int)), (11, .bool true), (12, .int .i64 (a0.b : Int)), (13, .int .i64 (wh % (r.length : Int)))] ⟨rfl, rfl, rfl, rfl, rfl, rfl, trivial⟩ ?_
  have hd : 0 ≤ (a0.b : Int) ∧ (a0.b : Int) ≤ 100000 := ⟨by omega, by have : a0.b ≤ 100000 := hF; omega⟩
  generalize (a0.b : Int) = d at *
  generalize wh % (r.length : Int) = ki at *
  obtain ⟨kk, rfl⟩ : ∃ kk : Nat, ki = (kk : Int) := ⟨ki.toNat, by omega⟩
  have hkk : kk < r.length := by omega
  obtain ⟨ad, A2, c2, rfl, r1, _, _⟩ := rec_at hr kk hkk
  have hid : knownF r (r.getD kk zRec).f0 = true := knownF_iff.2 ⟨kk, hkk, rfl⟩
  have hidk : idAt r kk = (r.getD kk zRec).f0 := rfl
  generalize r.getD kk zRec = q at *
  obtain ⟨id, q1, q2⟩ := q
  simp only at hid r1 hidk
  have ho := open_ok (r := r) (l := l) hck hd
  have ho2 := open_ok1 (r := r) (l := l) hck hd hid
  have hH0 : holdsR r l d = holdsF r (goneF r l d) := by rw [holdsR, if_pos ho]
  have hL0 := holdsF_len r (goneF r l d)
  have hsub := holdsF_sub hs (goneF r l d)
  have hS0 := (idsL_lt hs).sublist hsub
  have hL1 := restsR_len r l d id
  have hno : id ∉ holdsF r (goneF r l d) → refRestsC r l d id = 8 ∧ refRestsR r l d id = [] := fun h => ⟨by rw [refRestsC, if_pos ho2, if_neg h], by rw [refRestsR, if_neg (fun q => h q.2)]⟩
  have hyes : id ∈ holdsF r (goneF r l d) → refRestsC r l d id = 0 ∧ id ∈ refRestsR r l d id ∧ (refRestsR r l d id).Sublist (holdsF r (goneF r l d)) ∧ holdsF r (compl r (refRestsR r l d id)) = refRestsR r l d id ∧ ∀ S, S.Sublist (holdsF r (goneF r l d)) → S.length < (refRestsR r l d id).length → id ∉ holdsF r (compl r S) := fun h => by
    refine ⟨by rw [refRestsC, if_pos ho2, if_pos h], ?_⟩
    rw [restsR_eq ho2 h]
    exact rests_law hok h
  have hS1 : (refRestsR r l d id).Pairwise fun a b => a < b := by
    by_cases h : id ∈ holdsF r (goneF r l d)
    · exact hS0.sublist (hyes h).2.2.1
    · rw [(hno h).2]; exact List.Pairwise.nil
  have hneq : (decide (id ∈ holdsF r (goneF r l d)) != decide (refRestsC r l d id = 0)) = false := by
    by_cases h : id ∈ holdsF r (goneF r l d)
    · rw [(hyes h).1]; simp [h]
    · rw [(hno h).1]; simp [h]
  have h00 : (!decide ((0 : Int) = 0)) = false := rfl
  generalize hR1 : refRestsR r l d id = R at *
  generalize hR2 : refRestsC r l d id = rc at *
  generalize holdsF r (goneF r l d) = H at *
  with_reducible repeat refine xc_seq ?_
  with_reducible refine xc_region ?_
  refine xo_mv rfl rfl rfl ?_
  refine xo_mv rfl rfl rfl ?_
  refine xo_mv rfl rfl rfl ?_
  refine xo_call (fs := []) (cs := []) rfl rfl rfl trustHolds_enters rfl (fun w1 hw1 => (trustHolds_calls (some ad) B c c' r l d w1 (Kd.C_below hr hw1.kx.below) (Kd.C_below hl hw1.kx.below) hk hkl).mono ?_)
  rw [hH0, ho]
  rintro e w2 ⟨r5, rfl, hrow, hb⟩
  have h05 := hrow.1
  refine ⟨_, _, rfl, hw1.row hb hrow, ?_⟩
  clear hrow hb hw1
  refine xo_mv rfl rfl rfl ?_
  refine xo_ext rfl rfl rfl rfl ?_
  refine xo_ext rfl rfl rfl rfl ?_
  refine xo_asg rfl rfl rfl ?_
  refine xo_asg rfl rfl rfl ?_
  with_reducible refine xo_nil ?_
  with_reducible repeat (first | refine xq_then ?_ | refine xq_blockN ?_ | refine xq_scopeN ?_)
  with_reducible repeat refine xc_seq ?_
  with_reducible refine xc_region ?_
  refine xo_mv rfl rfl rfl ?_
  refine xo_mv rfl rfl rfl ?_
  refine xo_mv rfl rfl rfl ?_
  refine xo_mv rfl rfl rfl ?_
  refine xo_mv rfl rfl rfl ?_
  refine xo_ia T_ rfl rfl rfl rfl rfl ⟨by omega, by omega⟩ rfl ?_
  refine xo_faR T_ rfl rfl rfl rfl rfl ?_
  refine xo_loadR0 T_ rfl rfl rfl (by first | assumption | exact RO.fld (by assumption) rfl) rfl ?_
  refine xo_call (fs := []) (cs := []) rfl rfl rfl trustRests_enters rfl (fun w1 hw1 => ?_)
  have h2 := trustRests_calls (some ad) B c c' r l d id w1 (Kd.C_below hr hw1.kx.below) (Kd.C_below hl hw1.kx.below) hk hkl
  rw [hR1, hR2] at h2
  refine h2.mono ?_
  clear h2
  rintro e w2 ⟨r6, rfl, hrow, hb⟩
  have h06 := hrow.1
  refine ⟨_, _, rfl, hw1.row hb hrow, ?_⟩
  clear hrow hb hw1
  refine xo_mv rfl rfl rfl ?_
  refine xo_ext rfl rfl rfl rfl ?_
  refine xo_ext rfl rfl rfl rfl ?_
  refine xo_asg rfl rfl rfl ?_
  refine xo_asg rfl rfl rfl ?_
  with_reducible refine xo_nil ?_
  with_reducible repeat (first | refine xq_then ?_ | refine xq_blockN ?_ | refine xq_scopeN ?_)
  with_reducible repeat refine xc_seq ?_
  with_reducible refine xc_region ?_
  refine xo_mv rfl rfl rfl ?_
  refine xo_call (fs := []) (cs := []) rfl rfl rfl set_enters rfl (fun w1 hw1 => (setR_calls hw1 (by omega) (hw1.rowAt h05 (fun p hp => by subst hp; exact (by repeat (first | exact List.Mem.head _ | exact List.mem_append_left _ (List.Mem.head _) | apply List.mem_append_right | apply List.Mem.tail)))) hS0).mono ?_)
  rintro e w2 ⟨MH, rfl, hz⟩
  refine ⟨_, _, rfl, hw1.join hz (by simp), ?_⟩
  clear hz hw1
  refine xo_mv rfl rfl rfl ?_
  refine xo_ext rfl rfl rfl rfl ?_
  refine xo_ext rfl rfl rfl rfl ?_
  refine xo_asg rfl rfl rfl ?_
  refine xo_asg rfl rfl rfl ?_
  with_reducible refine xo_nil ?_
  with_reducible repeat (first | refine xq_then ?_ | refine xq_blockN ?_ | refine xq_scopeN ?_)
  with_reducible repeat refine xc_seq ?_
  with_reducible refine xc_region ?_
  refine xo_mv rfl rfl rfl ?_
  refine xo_call (fs := []) (cs := []) rfl rfl rfl set_enters rfl (fun w1 hw1 => (setR_calls hw1 (by omega) (hw1.rowAt h06 (fun p hp => by subst hp; exact (by repeat (first | exact List.Mem.head _ | exact List.mem_append_left _ (List.Mem.head _) | apply List.mem_append_right | apply List.Mem.tail)))) hS1).mono ?_)
  rintro e w2 ⟨MR, rfl, hz⟩
  refine ⟨_, _, rfl, hw1.join hz (by simp), ?_⟩
  clear hz hw1
  refine xo_mv rfl rfl rfl ?_
  refine xo_ext rfl rfl rfl rfl ?_
  refine xo_ext rfl rfl rfl rfl ?_
  refine xo_asg rfl rfl rfl ?_
  refine xo_asg rfl rfl rfl ?_
  with_reducible refine xo_nil ?_
  with_reducible repeat (first | refine xq_then ?_ | refine xq_blockN ?_ | refine xq_scopeN ?_)
  with_reducible repeat refine xc_seq ?_
  with_reducible refine xc_region ?_
  refine xo_mv rfl rfl rfl ?_
  refine xo_neq rfl rfl rfl rfl ?_
  refine xo_as (i := 82) rfl (congrArg Value.bool h00) ?_
  refine xo_mv rfl rfl rfl ?_
  first
    | refine xo_not rfl rfl ?_
    | (refine xo_mv rfl rfl rfl ?_)
  first
    | refine xo_not rfl rfl ?_
    | (refine xo_notOp rfl rfl rfl ?_)
  first | refine xo_pickT rfl rfl rfl rfl ?_ | refine xo_pickF rfl rfl rfl rfl ?_
  refine xo_mv rfl rfl rfl ?_
  first
    | refine xo_not rfl rfl ?_
    | (refine xo_mv rfl rfl rfl ?_)
  first
    | refine xo_not rfl rfl ?_
    | (refine xo_notOp rfl rfl rfl ?_)
  first | refine xo_pickT rfl rfl rfl rfl ?_ | refine xo_pickF rfl rfl rfl rfl ?_
  refine xo_mv rfl rfl rfl ?_
  first
    | refine xo_not rfl rfl ?_
    | (refine xo_mv rfl rfl rfl ?_)
  first
    | refine xo_not rfl rfl ?_
    | (refine xo_mv rfl rfl rfl ?_)
  first
    | refine xo_not rfl rfl ?_
    | (refine xo_mv rfl rfl rfl ?_)
  first
    | refine xo_not rfl rfl ?_
    | (refine xo_ia T_ rfl rfl rfl rfl rfl ⟨by omega, by omega⟩ rfl ?_)
  first
    | refine xo_not rfl rfl ?_
    | (refine xo_faR T_ rfl rfl rfl rfl rfl ?_)
  first
    | refine xo_not rfl rfl ?_
    | (refine xo_loadR0 T_ rfl rfl rfl (by first | assumption | exact RO.fld (by assumption) rfl) rfl ?_)
  first
    | refine xo_not rfl rfl ?_
    | (refine xo_sget T_ rfl rfl rfl rfl rfl rfl (by repeat (first | exact List.Mem.head _ | exact List.mem_append_left _ (List.Mem.head _) | apply List.mem_append_right | apply List.Mem.tail)) rfl ?_)
  first
    | refine xo_not rfl rfl ?_
    | (refine xo_mv rfl rfl rfl ?_)
  first
    | refine xo_not rfl rfl ?_
    | (refine xo_eql rfl rfl rfl rfl ?_)
  first
    | refine xo_not rfl rfl ?_
    | (refine xo_neqB Tryd.underlying4 rfl rfl rfl rfl ?_)
  refine xo_as (i := 101) rfl (congrArg Value.bool hneq) ?_
  first | refine xo_pickT rfl rfl rfl rfl ?_ | refine xo_pickF rfl rfl rfl rfl ?_
  with_reducible refine xo_nil ?_
  with_reducible repeat (first | refine xq_then ?_ | refine xq_blockN ?_ | refine xq_scopeN ?_)
  with_reducible repeat refine xc_seq ?_
  refine xc_condF rfl ?_
  with_reducible refine xc_skip ?_
  with_reducible repeat (first | refine xq_then ?_ | refine xq_blockN ?_ | refine xq_scopeN ?_)
  with_reducible repeat refine xc_seq ?_
  with_reducible refine xc_region ?_
  refine xo_mv rfl rfl rfl ?_
  refine xo_neq rfl rfl rfl rfl ?_
  with_reducible refine xo_nil ?_
  with_reducible repeat (first | refine xq_then ?_ | refine xq_blockN ?_ | refine xq_scopeN ?_)
  by_cases hin : id ∈ H
  rotate_left
  · obtain ⟨rfl, rfl⟩ := hno hin
    with_reducible repeat refine xc_seq ?_
    refine xc_condT rfl ?_
    with_reducible repeat refine xc_seq ?_
    with_reducible refine xc_region ?_
    refine xo_mv rfl rfl rfl ?_
    refine xo_mv rfl rfl rfl ?_
    first
      | refine xo_not rfl rfl ?_
      | (refine xo_mv rfl rfl rfl ?_)
    first
      | refine xo_not rfl rfl ?_
      | (refine xo_eql rfl rfl rfl rfl ?_)
    first | refine xo_pickT rfl rfl rfl rfl ?_ | refine xo_pickF rfl rfl rfl rfl ?_
    refine xo_mv rfl rfl rfl ?_
    first
      | refine xo_not rfl rfl ?_
      | (refine xo_mv rfl rfl rfl ?_)
    first
      | refine xo_not rfl rfl ?_
      | (refine xo_lenR T_ rfl rfl (fun _ => rfl) rfl rfl ?_)
    first
      | refine xo_not rfl rfl ?_
      | (refine xo_eql rfl rfl rfl rfl ?_)
    first | refine xo_pickT rfl rfl rfl rfl ?_ | refine xo_pickF rfl rfl rfl rfl ?_
    refine xo_asg rfl rfl rfl ?_
    with_reducible refine xo_nil ?_
    with_reducible repeat (first | refine xq_then ?_ | refine xq_blockN ?_ | refine xq_scopeN ?_)
    with_reducible repeat refine xc_seq ?_
    with_reducible refine xc_ret ?_
    with_reducible repeat (first | refine xq_thenR ?_ | refine xq_blockR ?_ | refine xq_scopeR ?_)
    exact xq_ret1 rfl rfl fun w' hw => ⟨rfl, hw.kx.below⟩
  obtain ⟨rfl, hidR, hRH, hfix, hmin⟩ := hyes hin
  clear hno hyes
  with_reducible repeat refine xc_seq ?_
  refine xc_condF rfl ?_
  with_reducible refine xc_skip ?_
  with_reducible repeat (first | refine xq_then ?_ | refine xq_blockN ?_ | refine xq_scopeN ?_)
  with_reducible repeat refine xc_seq ?_
  with_reducible refine xc_region ?_
  refine xo_mv rfl rfl rfl ?_
  refine xo_mv rfl rfl rfl ?_
  refine xo_mv rfl rfl rfl ?_
  refine xo_ia T_ rfl rfl rfl rfl rfl ⟨by omega, by omega⟩ rfl ?_
  refine xo_faR T_ rfl rfl rfl rfl rfl ?_
  refine xo_loadR0 T_ rfl rfl rfl (by first | assumption | exact RO.fld (by assumption) rfl) rfl ?_
  refine xo_sget T_ rfl rfl rfl rfl rfl rfl (by repeat (first | exact List.Mem.head _ | exact List.mem_append_left _ (List.Mem.head _) | apply List.mem_append_right | apply List.Mem.tail)) rfl ?_
  refine xo_as (i := 121) rfl (congrArg Value.bool (decide_eq_true hidR)) ?_
  refine xo_notOp rfl rfl rfl ?_
  with_reducible refine xo_nil ?_
  with_reducible repeat (first | refine xq_then ?_ | refine xq_blockN ?_ | refine xq_scopeN ?_)
  with_reducible repeat refine xc_seq ?_
  refine xc_condF rfl ?_
  with_reducible refine xc_skip ?_
  with_reducible repeat (first | refine xq_then ?_ | refine xq_blockN ?_ | refine xq_scopeN ?_)
  with_reducible repeat refine xc_seq ?_
  refine xc_slots [(0, .slice (some ad) r.length c), (4, .int .u16 (on : Int)), (11, .bool true), (13, .int .i64 (kk : Int)), (16, valR r6 R.length), (18, .map (some MH)), (20, .map (some MR))] ⟨rfl, rfl, rfl, rfl, rfl, rfl, rfl, trivial⟩ ?_
  refine xc_sub (η' := [(MR, true, hmap (setV R)), (MH, true, hmap (setV H))]) (by repeat (first | exact List.Sublist.refl _ | apply List.Sublist.cons_cons | apply List.Sublist.cons | exact List.nil_sublist _)) ?_
  with_reducible repeat refine xc_seq ?_
  refine xc_drawG (vsP (.slice (some ad) r.length c) (r.length : Int) r.length) (hP (cel (List.replicate r.length (.bool false)) 4) _) okP (none, none) ?_ rfl (fun g => rfl) T_.mixed rfl rfl rfl rfl ?_ ?_
  · simp [okP]
  · apply DrawG.pure (fun L g h => by cases g <;> simpa [okP] using h)
    · intro L g hg hi hd τ
      cases g
      all_goals first
        | exact absurd (hg 0 (by decide)) hi
        | (refine ⟨_, rfl, ?_⟩
           refine xo_mv rfl rfl rfl ?_
           exact xo_fin rfl)
    apply DrawG.pure (fun L g h => by cases g <;> simpa [okP] using h)
    · intro L g hg hi hd τ
      cases g
      all_goals first
        | exact absurd (hg 1 (by decide)) hi
        | (refine ⟨_, rfl, ?_⟩
           refine xo_len T_ rfl rfl rfl rfl ?_
           exact xo_fin rfl)
    apply DrawG.cons
    · intro L g hg hi hd τ
      obtain ⟨p, q⟩ := g
      obtain rfl : p = none := by
        cases p with
        | none => rfl
        | some a => exact absurd (hg.1.1 rfl) hi
      refine xo_mks TR_ rfl rfl rfl rfl rfl rfl (by omega) (by omega) rfl (fun b => ?_)
      exact xo_nil fun a w1 ha hw1 => ⟨(some b, q), okP_2 hg, vsP_same hg (fun h => absurd h hi) (fun _ => rfl), ⟨_, rfl, ha⟩, by cases q <;> first | exact hw1 | exact hw1.perm (List.Perm.swap _ _ _)⟩
    apply DrawG.pure (fun L g h => by cases g <;> simpa [okP] using h)
    · intro L g hg hi hd τ
      cases g
      all_goals first
        | exact absurd (hg 3 (by decide)) hi
        | (refine ⟨_, rfl, ?_⟩
           refine xo_mv rfl rfl rfl ?_
           exact xo_fin rfl)
    apply DrawG.pure (fun L g h => by cases g <;> simpa [okP] using h)
    · intro L g hg hi hd τ
      cases g
      all_goals first
        | exact absurd (hg 4 (by decide)) hi
        | (refine ⟨_, rfl, ?_⟩
           refine xo_len T_ rfl rfl rfl rfl ?_
           exact xo_fin rfl)
    apply DrawG.cons
    · intro L g hg hi hd τ
      obtain ⟨p, q⟩ := g
      obtain rfl : q = none := by
        cases q with
        | none => rfl
        | some a => exact absurd (hg.2.1.1 rfl) hi
      refine xo_mks TR_ rfl rfl rfl rfl rfl rfl (by omega) (by omega) rfl (fun b => ?_)
      exact xo_nil fun a w1 ha hw1 => ⟨(p, some b), okP_5 hg, vsP_same hg (fun _ => rfl) (fun h => absurd h hi), ⟨_, rfl, ha⟩, by cases p <;> exact hw1⟩
    apply DrawG.cons
    · intro L g hg hi hd τ
      refine xo_asg rfl rfl rfl ?_
      exact xo_nil fun a w1 ha hw1 => ⟨g, okP_6 hg (hd 2 (by decide)), fun _ _ => rfl, ⟨_, rfl, ha⟩, hw1⟩
    apply DrawG.cons
    · intro L g hg hi hd τ
      refine xo_asg rfl rfl rfl ?_
      exact xo_nil fun a w1 ha hw1 => ⟨g, okP_7 hg (hd 5 (by decide)), fun _ _ => rfl, ⟨_, rfl, ha⟩, hw1⟩
    exact DrawG.nil
  intro L g hg hall
  obtain ⟨p, q⟩ := g
  obtain ⟨bG, rfl⟩ : ∃ b, p = some b := by
    cases p with
    | none => exact absurd (hg.1.2 (hall 2 (by decide))) (by simp)
    | some b => exact ⟨b, rfl⟩
  obtain ⟨bS, rfl⟩ : ∃ b, q = some b := by
    cases q with
    | none => exact absurd (hg.2.1.2 (hall 5 (by decide))) (by simp)
    | some b => exact ⟨b, rfl⟩
  clear hg hall
  with_reducible repeat (first | refine xq_then ?_ | refine xq_blockN ?_ | refine xq_scopeN ?_)
  with_reducible repeat refine xc_seq ?_
  refine xc_slots [(0, .slice (some ad) r.length c), (4, .int .u16 (on : Int)), (11, .bool true), (13, .int .i64 (kk : Int)), (16, valR r6 R.length), (18, .map (some MH)), (20, .map (some MR)), (22, .slice (some ⟨bG, 0, none⟩) r.length r.length), (23, .slice (some ⟨bS, 0, none⟩) r.length r.length)] ⟨rfl, rfl, rfl, rfl, rfl, rfl, rfl, rfl, rfl, trivial⟩ ?_
  with_reducible repeat refine xc_seq ?_
  with_reducible refine xc_region ?_
  refine xo_asg rfl rfl rfl ?_
  with_reducible refine xo_nil ?_
  with_reducible repeat (first | refine xq_then ?_ | refine xq_blockN ?_ | refine xq_scopeN ?_)
  with_reducible repeat refine xc_seq ?_
  with_reducible refine xc_region ?_
  refine xo_mv rfl rfl rfl ?_
  refine xo_len T_ rfl rfl rfl rfl ?_
  refine xo_mv rfl rfl rfl ?_
  with_reducible refine xo_nil ?_
  with_reducible repeat (first | refine xq_then ?_ | refine xq_blockN ?_ | refine xq_scopeN ?_)
  with_reducible repeat refine xc_seq ?_
  with_reducible refine xc_block ?_
  refine xc_loop (γ := Nat × Nat) (fun q => q.1 ≤ r.length ∧ q.2 = (selP r (fun i => decide (idAt r i ∈ H) && bitB on i) q.1).length) (fun q => [(0, .slice (some ad) r.length c), (4, .int .u16 (on : Int)), (11, .bool true), (13, .int .i64 (kk : Int)), (16, valR r6 R.length), (18, .map (some MH)), (20, .map (some MR)), (22, .slice (some ⟨bG, 0, none⟩) r.length r.length), (23, .slice (some ⟨bS, 0, none⟩) r.length r.length), (24, .int .i64 (q.2 : Int)), (129, .slice (some ad) r.length c), (130, .int .i64 (r.length : Int)), (131, .int .i64 (q.1 : Int))])
    (fun q => [(bS, true, cel ((fillB (fun i => !(decide (idAt r i ∈ H) && bitB on i)) r.length q.1).map .bool) 4), (bG, true, cel ((fillB (fun i => !decide (idAt r i ∈ R)) r.length q.1).map .bool) 4), (MR, true, hmap (setV R)), (MH, true, hmap (setV H))]) (fun q => r.length - q.1) (0, 0) ⟨Nat.zero_le _, rfl⟩ ⟨rfl, rfl, rfl, rfl, rfl, rfl, rfl, rfl, rfl, rfl, rfl, rfl, rfl, trivial⟩ (by rw [fillB_zero, fillB_zero, List.map_replicate]; exact List.Sublist.refl _) ?_
  rintro ⟨k, cnt⟩ ⟨hk1, hcnt⟩
  simp only at hk1 hcnt ⊢
  with_reducible repeat refine xc_seq ?_
  with_reducible refine xc_region ?_
  refine xo_lss rfl rfl rfl rfl ?_
  with_reducible refine xo_nil ?_
  with_reducible repeat (first | refine xq_then ?_ | refine xq_blockN ?_ | refine xq_scopeN ?_)
  with_reducible repeat refine xc_seq ?_
  refine xc_cond rfl (fun h => ?_) (fun h => ?_)
  · have hlt : k < r.length := by have := of_decide_eq_true h; omega
    have hk15 : k ≤ 15 := by omega
    obtain ⟨ad0, A3, c3, e0, r2, hc3, hw3⟩ := rec_at hr k hlt
    cases e0
    have hkid : idAt r k = (r.getD k zRec).f0 := rfl
    have hsucc := congrArg List.length (selP_succ r (fun i => decide (idAt r i ∈ H) && bitB on i) k)
    clear r1
    generalize r.getD k zRec = x at *
    with_reducible refine xc_skip ?_
    with_reducible repeat (first | refine xq_then ?_ | refine xq_blockN ?_ | refine xq_scopeN ?_)
    with_reducible repeat refine xc_seq ?_
    with_reducible refine xc_block ?_
    with_reducible repeat refine xc_seq ?_
    with_reducible refine xc_region ?_
    refine xo_mv rfl rfl rfl ?_
    refine xo_ia T_ rfl rfl rfl rfl rfl ⟨by omega, by omega⟩ rfl ?_
    refine xo_loadRN T_ rfl rfl rfl (by assumption) rfl rfl ?_
    refine xo_alloc T_ rfl rfl rfl rfl (fun b26 => ?_)
    refine xo_asg rfl rfl rfl ?_
    refine xo_store T_ rfl rfl rfl rfl (by repeat (first | exact List.Mem.head _ | apply List.Mem.tail | apply List.mem_append_right)) rfl rfl rfl rfl (by repeat (first | exact Upd.head | apply Upd.tail | apply Upd.app)) rfl ?_
    with_reducible refine xo_nil ?_
    with_reducible repeat (first | refine xq_then ?_ | refine xq_blockN ?_ | refine xq_scopeN ?_)
    have hbz := bit_zero on k
    have hcl : cnt ≤ r.length := by
      rw [hcnt]
      unfold selP
      rw [List.length_map]
      exact Nat.le_trans (List.length_filter_le _ _) (by rw [List.length_range]; omega)
    cases hxR : decide (x.f0 ∈ R) <;> cases hxH : decide (x.f0 ∈ H) <;> cases hb : bitB on k
    all_goals first | exact absurd (hRH.subset (of_decide_eq_true hxR)) (of_decide_eq_false hxH) | skip
    all_goals
      rw [hb] at hbz
      simp only [hkid, hxH, hb, List.length_append] at hsucc
      with_reducible repeat refine xc_seq ?_
      with_reducible refine xc_region ?_
      refine xo_mv rfl rfl rfl ?_
      refine xo_fa T_ rfl rfl rfl rfl rfl ?_
      refine xo_load0 T_ rfl rfl rfl (by repeat (first | exact List.Mem.head _ | apply List.Mem.tail | apply List.mem_append_right)) rfl rfl ?_
      refine xo_sget T_ rfl rfl rfl rfl rfl rfl (by repeat (first | exact List.Mem.head _ | apply List.Mem.tail | apply List.mem_append_right)) rfl ?_
      refine xo_as (i := 139) rfl (congrArg Value.bool hxR) ?_
      refine xo_mv rfl rfl rfl ?_
      first
        | refine xo_not rfl rfl ?_
        | (refine xo_mv rfl rfl rfl ?_)
      first
        | refine xo_not rfl rfl ?_
        | (refine xo_fa T_ rfl rfl rfl rfl rfl ?_)
      first
        | refine xo_not rfl rfl ?_
        | (refine xo_load0 T_ rfl rfl rfl (by repeat (first | exact List.Mem.head _ | apply List.Mem.tail | apply List.mem_append_right)) rfl rfl ?_)
      first
        | refine xo_not rfl rfl ?_
        | (refine xo_sget T_ rfl rfl rfl rfl rfl rfl (by repeat (first | exact List.Mem.head _ | apply List.Mem.tail | apply List.mem_append_right)) rfl ?_)
      first | refine xo_as (i := 144) rfl (congrArg Value.bool hxH) ?_ | skip
      first
        | refine xo_not rfl rfl ?_
        | (refine xo_notOp rfl rfl rfl ?_)
      first | refine xo_pickT rfl rfl rfl rfl ?_ | refine xo_pickF rfl rfl rfl rfl ?_
      with_reducible refine xo_nil ?_
      with_reducible repeat (first | refine xq_then ?_ | refine xq_blockN ?_ | refine xq_scopeN ?_)
      with_reducible repeat refine xc_seq ?_
      refine xc_condF rfl ?_
      with_reducible refine xc_skip ?_
      with_reducible repeat (first | refine xq_then ?_ | refine xq_blockN ?_ | refine xq_scopeN ?_)
      with_reducible repeat refine xc_seq ?_
      with_reducible refine xc_region ?_
      refine xo_mv rfl rfl rfl ?_
      refine xo_mv rfl rfl rfl ?_
      refine xo_mv rfl rfl rfl ?_
      refine xo_fa T_ rfl rfl rfl rfl rfl ?_
      refine xo_load0 T_ rfl rfl rfl (by repeat (first | exact List.Mem.head _ | apply List.Mem.tail | apply List.mem_append_right)) rfl rfl ?_
      refine xo_sget T_ rfl rfl rfl rfl rfl rfl (by repeat (first | exact List.Mem.head _ | apply List.Mem.tail | apply List.mem_append_right)) rfl ?_
      refine xo_as (i := 152) rfl (congrArg Value.bool hxR) ?_
      refine xo_notOp rfl rfl rfl ?_
      refine xo_ia T_ rfl rfl rfl rfl rfl ⟨by omega, by omega⟩ rfl ?_
      refine xo_storeI T_ rfl rfl rfl rfl (by repeat (first | exact List.Mem.head _ | apply List.Mem.tail | apply List.mem_append_right)) rfl rfl (fill_lt hlt) (Upd.tail (Upd.tail (fill_upd (f := fun i => !decide (idAt r i ∈ R)) (by show _ = !decide (idAt r k ∈ R); rw [hkid, hxR])))) rfl ?_
      with_reducible refine xo_nil ?_
      with_reducible repeat (first | refine xq_then ?_ | refine xq_blockN ?_ | refine xq_scopeN ?_)
      with_reducible repeat refine xc_seq ?_
      with_reducible refine xc_region ?_
      refine xo_mv rfl rfl rfl ?_
      refine xo_mv rfl rfl rfl ?_
      refine xo_mv rfl rfl rfl ?_
      refine xo_fa T_ rfl rfl rfl rfl rfl ?_
      refine xo_load0 T_ rfl rfl rfl (by repeat (first | exact List.Mem.head _ | apply List.Mem.tail | apply List.mem_append_right)) rfl rfl ?_
      refine xo_sget T_ rfl rfl rfl rfl rfl rfl (by repeat (first | exact List.Mem.head _ | apply List.Mem.tail | apply List.mem_append_right)) rfl ?_
      refine xo_as (i := 160) rfl (congrArg Value.bool hxH) ?_
      refine xo_notOp rfl rfl rfl ?_
      refine xo_mv rfl rfl rfl ?_
      first
        | refine xo_not rfl rfl ?_
        | (refine xo_mv rfl rfl rfl ?_)
      first
        | refine xo_not rfl rfl ?_
        | (refine xo_mv rfl rfl rfl ?_)
      first
        | refine xo_not rfl rfl ?_
        | (refine xo_shrU rfl rfl rfl hk15 rfl ?_)
      first
        | refine xo_not rfl rfl ?_
        | (refine xo_andU rfl rfl rfl (shr_lt hon) rfl ?_)
      first
        | refine xo_not rfl rfl ?_
        | (refine xo_eql rfl rfl rfl rfl ?_)
      first | refine xo_as (i := 167) rfl (congrArg Value.bool hbz) ?_ | skip
      first | refine xo_pickT rfl rfl rfl rfl ?_ | refine xo_pickF rfl rfl rfl rfl ?_
      refine xo_ia T_ rfl rfl rfl rfl rfl ⟨by omega, by omega⟩ rfl ?_
      refine xo_storeI T_ rfl rfl rfl rfl (by repeat (first | exact List.Mem.head _ | apply List.Mem.tail | apply List.mem_append_right)) rfl rfl (fill_lt hlt) (Upd.tail (fill_upd (f := fun i => !(decide (idAt r i ∈ H) && bitB on i)) (by show _ = !(decide (idAt r k ∈ H) && bitB on k); rw [hkid, hxH, hb]; rfl))) rfl ?_
      with_reducible refine xo_nil ?_
      with_reducible repeat (first | refine xq_then ?_ | refine xq_blockN ?_ | refine xq_scopeN ?_)
      with_reducible repeat refine xc_seq ?_
      with_reducible refine xc_region ?_
      refine xo_mv rfl rfl rfl ?_
      refine xo_mv rfl rfl rfl ?_
      refine xo_ia T_ rfl rfl rfl rfl rfl ⟨by omega, by omega⟩ rfl ?_
      first | refine xo_loadI T_ (v := .bool true) rfl rfl rfl (by repeat (first | exact List.Mem.head _ | apply List.Mem.tail | apply List.mem_append_right)) (by rw [fill_here hlt, hkid, hxH, hb]; rfl) rfl ?_ | refine xo_loadI T_ (v := .bool false) rfl rfl rfl (by repeat (first | exact List.Mem.head _ | apply List.Mem.tail | apply List.mem_append_right)) (by rw [fill_here hlt, hkid, hxH, hb]; rfl) rfl ?_
      refine xo_notOp rfl rfl rfl ?_
      with_reducible refine xo_nil ?_
      with_reducible repeat (first | refine xq_then ?_ | refine xq_blockN ?_ | refine xq_scopeN ?_)
    · with_reducible repeat refine xc_seq ?_
      refine xc_condF rfl ?_
      with_reducible refine xc_skip ?_
      with_reducible repeat (first | refine xq_then ?_ | refine xq_blockN ?_ | refine xq_scopeN ?_)
      with_reducible repeat refine xc_seq ?_
      with_reducible refine xc_region ?_
      refine xo_add rfl rfl rfl (by omega) rfl ?_
      refine xo_mv rfl rfl rfl ?_
      with_reducible refine xo_nil ?_
      with_reducible repeat (first | refine xq_then ?_ | refine xq_blockN ?_ | refine xq_scopeN ?_)
      exact xq_again _ _ _ _ _ (k + 1, cnt) ⟨by simp only; omega, by simp at hsucc ⊢; omega⟩ (by simp only; omega) ⟨rfl, rfl, rfl, rfl, rfl, rfl, rfl, rfl, rfl, rfl, rfl, rfl, rfl, trivial⟩ (by repeat (first | exact List.Sublist.refl _ | apply List.Sublist.cons_cons | apply List.Sublist.cons | exact List.nil_sublist _))
    · with_reducible repeat refine xc_seq ?_
      refine xc_condF rfl ?_
      with_reducible refine xc_skip ?_
      with_reducible repeat (first | refine xq_then ?_ | refine xq_blockN ?_ | refine xq_scopeN ?_)
      with_reducible repeat refine xc_seq ?_
      with_reducible refine xc_region ?_
      refine xo_add rfl rfl rfl (by omega) rfl ?_
      refine xo_mv rfl rfl rfl ?_
      with_reducible refine xo_nil ?_
      with_reducible repeat (first | refine xq_then ?_ | refine xq_blockN ?_ | refine xq_scopeN ?_)
      exact xq_again _ _ _ _ _ (k + 1, cnt) ⟨by simp only; omega, by simp at hsucc ⊢; omega⟩ (by simp only; omega) ⟨rfl, rfl, rfl, rfl, rfl, rfl, rfl, rfl, rfl, rfl, rfl, rfl, rfl, trivial⟩ (by repeat (first | exact List.Sublist.refl _ | apply List.Sublist.cons_cons | apply List.Sublist.cons | exact List.nil_sublist _))
    · with_reducible repeat refine xc_seq ?_
      refine xc_condF rfl ?_
      with_reducible refine xc_skip ?_
      with_reducible repeat (first | refine xq_then ?_ | refine xq_blockN ?_ | refine xq_scopeN ?_)
      with_reducible repeat refine xc_seq ?_
      with_reducible refine xc_region ?_
      refine xo_add rfl rfl rfl (by omega) rfl ?_
      refine xo_mv rfl rfl rfl ?_
      with_reducible refine xo_nil ?_
      with_reducible repeat (first | refine xq_then ?_ | refine xq_blockN ?_ | refine xq_scopeN ?_)
      exact xq_again _ _ _ _ _ (k + 1, cnt) ⟨by simp only; omega, by simp at hsucc ⊢; omega⟩ (by simp only; omega) ⟨rfl, rfl, rfl, rfl, rfl, rfl, rfl, rfl, rfl, rfl, rfl, rfl, rfl, trivial⟩ (by repeat (first | exact List.Sublist.refl _ | apply List.Sublist.cons_cons | apply List.Sublist.cons | exact List.nil_sublist _))
    · with_reducible repeat refine xc_seq ?_
      refine xc_condT rfl ?_
      with_reducible repeat refine xc_seq ?_
      with_reducible refine xc_region ?_
      refine xo_mv rfl rfl rfl ?_
      refine xo_add rfl rfl rfl (by omega) rfl ?_
      refine xo_asg rfl rfl rfl ?_
      with_reducible refine xo_nil ?_
      with_reducible repeat (first | refine xq_then ?_ | refine xq_blockN ?_ | refine xq_scopeN ?_)
      with_reducible repeat refine xc_seq ?_
      with_reducible refine xc_region ?_
      refine xo_add rfl rfl rfl (by omega) rfl ?_
      refine xo_mv rfl rfl rfl ?_
      with_reducible refine xo_nil ?_
      with_reducible repeat (first | refine xq_then ?_ | refine xq_blockN ?_ | refine xq_scopeN ?_)
      exact xq_again _ _ _ _ _ (k + 1, cnt + 1) ⟨by simp only; omega, by simp at hsucc ⊢; omega⟩ (by simp only; omega) ⟨rfl, rfl, rfl, rfl, rfl, rfl, rfl, rfl, rfl, rfl, rfl, rfl, rfl, trivial⟩ (by repeat (first | exact List.Sublist.refl _ | apply List.Sublist.cons_cons | apply List.Sublist.cons | exact List.nil_sublist _))
    · with_reducible repeat refine xc_seq ?_
      refine xc_condF rfl ?_
      with_reducible refine xc_skip ?_
      with_reducible repeat (first | refine xq_then ?_ | refine xq_blockN ?_ | refine xq_scopeN ?_)
      with_reducible repeat refine xc_seq ?_
      with_reducible refine xc_region ?_
      refine xo_add rfl rfl rfl (by omega) rfl ?_
      refine xo_mv rfl rfl rfl ?_
      with_reducible refine xo_nil ?_
      with_reducible repeat (first | refine xq_then ?_ | refine xq_blockN ?_ | refine xq_scopeN ?_)
      exact xq_again _ _ _ _ _ (k + 1, cnt) ⟨by simp only; omega, by simp at hsucc ⊢; omega⟩ (by simp only; omega) ⟨rfl, rfl, rfl, rfl, rfl, rfl, rfl, rfl, rfl, rfl, rfl, rfl, rfl, trivial⟩ (by repeat (first | exact List.Sublist.refl _ | apply List.Sublist.cons_cons | apply List.Sublist.cons | exact List.nil_sublist _))
    · with_reducible repeat refine xc_seq ?_
      refine xc_condT rfl ?_
      with_reducible repeat refine xc_seq ?_
      with_reducible refine xc_region ?_
      refine xo_mv rfl rfl rfl ?_
      refine xo_add rfl rfl rfl (by omega) rfl ?_
      refine xo_asg rfl rfl rfl ?_
      with_reducible refine xo_nil ?_
      with_reducible repeat (first | refine xq_then ?_ | refine xq_blockN ?_ | refine xq_scopeN ?_)
      with_reducible repeat refine xc_seq ?_
      with_reducible refine xc_region ?_
      refine xo_add rfl rfl rfl (by omega) rfl ?_
      refine xo_mv rfl rfl rfl ?_
      with_reducible refine xo_nil ?_
      with_reducible repeat (first | refine xq_then ?_ | refine xq_blockN ?_ | refine xq_scopeN ?_)
      exact xq_again _ _ _ _ _ (k + 1, cnt + 1) ⟨by simp only; omega, by simp at hsucc ⊢; omega⟩ (by simp only; omega) ⟨rfl, rfl, rfl, rfl, rfl, rfl, rfl, rfl, rfl, rfl, rfl, rfl, rfl, trivial⟩ (by repeat (first | exact List.Sublist.refl _ | apply List.Sublist.cons_cons | apply List.Sublist.cons | exact List.nil_sublist _))
  have hge : ¬ k < r.length := by have := of_decide_eq_false h; omega
  obtain rfl : k = r.length := by omega
  have hSH : (selP r (fun i => decide (idAt r i ∈ H) && bitB on i) r.length).Sublist H := selP_in hs hsub fun i _ hp => by
    simp only [Bool.and_eq_true, decide_eq_true_eq] at hp
    exact hp.1
  have eS : fillB (fun i => !(decide (idAt r i ∈ H) && bitB on i)) r.length r.length = inB r (compl r (selP r (fun i => decide (idAt r i ∈ H) && bitB on i) r.length)) := fill_selP hs _
  have hlow := hmin _ hSH
  rw [← hcnt] at hlow
  generalize selP r (fun i => decide (idAt r i ∈ H) && bitB on i) r.length = S at *
  with_reducible refine xc_exit ?_
  with_reducible repeat (first | refine xq_blockX ?_ | refine xq_thenE ?_ | refine xq_blockE rfl ?_ | refine xq_scopeE ?_)
  with_reducible repeat (first | refine xq_then ?_ | refine xq_blockN ?_ | refine xq_scopeN ?_)
  rw [fill_compl, eS]
  with_reducible repeat refine xc_seq ?_
  with_reducible refine xc_region ?_
  refine xo_mv rfl rfl rfl ?_
  refine xo_mv rfl rfl rfl ?_
  refine xo_call (fs := []) (cs := []) rfl rfl rfl hold_enters rfl (fun w1 hw1 => (hold_calls (some ad) _ c _ r (compl r R) w1 (Kd.C_below hr hw1.kx.below) (C_inB hw1 (by repeat (first | exact List.Mem.head _ | apply List.Mem.tail | apply List.mem_append_right)) (by omega)) hok).mono ?_)
  rintro e w3 ⟨bN, oN, rfl, hb, hge, h1, h2⟩
  rw [hfix] at h2
  refine ⟨_, _, rfl, hw1.more hb hge h1 h2, ?_⟩
  clear hb hge h1 h2 hw1
  refine xo_asg rfl rfl rfl ?_
  with_reducible refine xo_nil ?_
  with_reducible repeat (first | refine xq_then ?_ | refine xq_blockN ?_ | refine xq_scopeN ?_)
  with_reducible repeat refine xc_seq ?_
  with_reducible refine xc_region ?_
  refine xo_mv rfl rfl rfl ?_
  refine xo_len T_ rfl rfl rfl rfl ?_
  refine xo_mv rfl rfl rfl ?_
  with_reducible refine xo_nil ?_
  with_reducible repeat (first | refine xq_then ?_ | refine xq_blockN ?_ | refine xq_scopeN ?_)
  with_reducible repeat refine xc_seq ?_
  with_reducible refine xc_block ?_
  refine xc_loop (γ := Nat) (fun k => k ≤ r.length) (fun k => [(0, .slice (some ad) r.length c), (11, .bool true), (13, .int .i64 (kk : Int)), (16, valR r6 R.length), (22, .slice (some ⟨bG, 0, none⟩) r.length r.length), (23, .slice (some ⟨bS, 0, none⟩) r.length r.length), (24, .int .i64 (cnt : Int)), (27, .slice (some ⟨bN, 0, none⟩) r.length r.length), (181, .slice (some ad) r.length c), (182, .int .i64 (r.length : Int)), (183, .int .i64 (k : Int))])
    (fun _ => [(bN, true, cel ((inB r R).map .bool) 4), (bS, true, cel ((inB r (compl r S)).map .bool) 4), (bG, true, cel ((inB r (compl r R)).map .bool) 4)]) (fun k => r.length - k) 0 (Nat.zero_le _) ⟨rfl, rfl, rfl, rfl, rfl, rfl, rfl, rfl, rfl, rfl, rfl, trivial⟩ (by repeat (first | exact List.Sublist.refl _ | apply List.Sublist.cons_cons | apply List.Sublist.cons | exact List.nil_sublist _)) ?_
  intro k hk2
  with_reducible repeat refine xc_seq ?_
  with_reducible refine xc_region ?_
  refine xo_lss rfl rfl rfl rfl ?_
  with_reducible refine xo_nil ?_
  with_reducible repeat (first | refine xq_then ?_ | refine xq_blockN ?_ | refine xq_scopeN ?_)
  with_reducible repeat refine xc_seq ?_
  refine xc_cond rfl (fun h => ?_) (fun h => ?_)
  · have hlt : k < r.length := by have := of_decide_eq_true h; omega
    have hne : (decide (idAt r k ∈ R) != !decide (idAt r k ∈ compl r R)) = false := by
      have := compl_mem (S := R) hlt
      by_cases q : idAt r k ∈ R
      · have q2 : idAt r k ∉ compl r R := fun z => this.1 z q
        simp [q, q2]
      · have q2 : idAt r k ∈ compl r R := this.2 q
        simp [q, q2]
    with_reducible refine xc_skip ?_
    with_reducible repeat (first | refine xq_then ?_ | refine xq_blockN ?_ | refine xq_scopeN ?_)
    with_reducible repeat refine xc_seq ?_
    with_reducible refine xc_block ?_
    with_reducible repeat refine xc_seq ?_
    with_reducible refine xc_region ?_
    refine xo_mv rfl rfl rfl ?_
    refine xo_asg rfl rfl rfl ?_
    with_reducible refine xo_nil ?_
    with_reducible repeat (first | refine xq_then ?_ | refine xq_blockN ?_ | refine xq_scopeN ?_)
    with_reducible repeat refine xc_seq ?_
    refine xc_slots [(0, .slice (some ad) r.length c), (11, .bool true), (13, .int .i64 (kk : Int)), (16, valR r6 R.length), (22, .slice (some ⟨bG, 0, none⟩) r.length r.length), (23, .slice (some ⟨bS, 0, none⟩) r.length r.length), (24, .int .i64 (cnt : Int)), (27, .slice (some ⟨bN, 0, none⟩) r.length r.length), (28, .int .i64 (k : Int)), (181, .slice (some ad) r.length c), (182, .int .i64 (r.length : Int)), (183, .int .i64 (k : Int))] ⟨rfl, rfl, rfl, rfl, rfl, rfl, rfl, rfl, rfl, rfl, rfl, rfl, trivial⟩ ?_
    with_reducible repeat refine xc_seq ?_
    apply xc_drawN
    · exact T_.mixed
    · rfl
    · rfl
    · rfl
    · rfl
    · apply DrawOps.cons
      · intro τ
        refine xo_mv rfl rfl rfl ?_
        exact xo_fin rfl
      apply DrawOps.cons
      · intro τ
        refine xo_mv rfl rfl rfl ?_
        exact xo_fin rfl
      apply DrawOps.cons
      · intro τ
        refine xo_ia T_ rfl rfl rfl rfl rfl ⟨by omega, by omega⟩ rfl ?_
        exact xo_fin rfl
      apply DrawOps.cons
      · intro τ
        refine xo_loadI T_ rfl rfl rfl (by repeat (first | exact List.Mem.head _ | apply List.Mem.tail | apply List.mem_append_right)) (in_load hlt) rfl ?_
        exact xo_fin rfl
      apply DrawOps.cons
      · intro τ
        refine xo_mv rfl rfl rfl ?_
        exact xo_fin rfl
      apply DrawOps.cons
      · intro τ
        refine xo_mv rfl rfl rfl ?_
        exact xo_fin rfl
      apply DrawOps.cons
      · intro τ
        refine xo_ia T_ rfl rfl rfl rfl rfl ⟨by omega, by omega⟩ rfl ?_
        exact xo_fin rfl
      apply DrawOps.cons
      · intro τ
        refine xo_loadI T_ rfl rfl rfl (by repeat (first | exact List.Mem.head _ | apply List.Mem.tail | apply List.mem_append_right)) (in_load hlt) rfl ?_
        exact xo_fin rfl
      apply DrawOps.cons
      · intro τ
        refine xo_notOp rfl rfl rfl ?_
        exact xo_fin rfl
      apply DrawOps.cons
      · intro τ
        refine xo_neqB Tryd.underlying4 rfl rfl rfl rfl ?_
        first
          | exact xo_fin (congrArg Value.bool hne)
          | exact xo_fin rfl
      exact DrawOps.nil
    · rfl
    with_reducible repeat (first | refine xq_then ?_ | refine xq_blockN ?_ | refine xq_scopeN ?_)
    with_reducible repeat refine xc_seq ?_
    refine xc_condF rfl ?_
    with_reducible refine xc_skip ?_
    with_reducible repeat (first | refine xq_then ?_ | refine xq_blockN ?_ | refine xq_scopeN ?_)
    with_reducible repeat refine xc_seq ?_
    with_reducible refine xc_region ?_
    refine xo_add rfl rfl rfl (by omega) rfl ?_
    refine xo_mv rfl rfl rfl ?_
    with_reducible refine xo_nil ?_
    with_reducible repeat (first | refine xq_then ?_ | refine xq_blockN ?_ | refine xq_scopeN ?_)
    exact xq_again _ _ _ _ _ (k + 1) hlt (by omega) ⟨rfl, rfl, rfl, rfl, rfl, rfl, rfl, rfl, rfl, rfl, rfl, trivial⟩ (by repeat (first | exact List.Sublist.refl _ | apply List.Sublist.cons_cons | apply List.Sublist.cons | exact List.nil_sublist _))
  with_reducible refine xc_exit ?_
  with_reducible repeat (first | refine xq_blockX ?_ | refine xq_thenE ?_ | refine xq_blockE rfl ?_ | refine xq_scopeE ?_)
  with_reducible repeat (first | refine xq_then ?_ | refine xq_blockN ?_ | refine xq_scopeN ?_)
  cases hc : decide ((R.length : Int) ≤ (cnt : Int))
  · have hnot : decide (id ∈ holdsF r (compl r S)) = false := decide_eq_false (hlow (by have := of_decide_eq_false hc; omega))
    with_reducible repeat refine xc_seq ?_
    with_reducible refine xc_region ?_
    refine xo_mv rfl rfl rfl ?_
    refine xo_mv rfl rfl rfl ?_
    first
      | refine xo_not rfl rfl ?_
      | (refine xo_mv rfl rfl rfl ?_)
    first
      | refine xo_not rfl rfl ?_
      | (refine xo_mv rfl rfl rfl ?_)
    first
      | refine xo_not rfl rfl ?_
      | (refine xo_lenR T_ rfl rfl (fun h => by rw [h06 h]; rfl) rfl rfl ?_)
    first
      | refine xo_not rfl rfl ?_
      | (refine xo_geq rfl rfl rfl rfl ?_)
    refine xo_as (i := 202) rfl (congrArg Value.bool hc) ?_
    first
      | refine xo_not rfl rfl ?_
      | (refine xo_mv rfl rfl rfl ?_)
    first
      | refine xo_not rfl rfl ?_
      | (refine xo_mv rfl rfl rfl ?_)
    first
      | refine xo_not rfl rfl ?_
      | (refine xo_mv rfl rfl rfl ?_)
    first
      | refine xo_not rfl rfl ?_
      | (refine xo_call (fs := []) (cs := []) rfl rfl rfl hold_enters rfl (fun w1 hw1 => (hold_calls (some ad) _ c _ r (compl r S) w1 (Kd.C_below hr hw1.kx.below) (C_inB hw1 (by repeat (first | exact List.Mem.head _ | apply List.Mem.tail | apply List.mem_append_right)) (by omega)) hok).mono ?_)
         rintro e w3 ⟨bO, oO, rfl, hb, hge, h1, h2⟩
         refine ⟨_, _, rfl, hw1.more hb hge h1 h2, ?_⟩
         clear hb hge h1 h2 hw1)
    first
      | refine xo_not rfl rfl ?_
      | (refine xo_mv rfl rfl rfl ?_)
    first
      | refine xo_not rfl rfl ?_
      | (refine xo_ia T_ rfl rfl rfl rfl rfl ⟨by omega, by omega⟩ rfl ?_)
    first
      | refine xo_not rfl rfl ?_
      | (refine xo_loadI T_ rfl rfl rfl (by repeat (first | exact List.Mem.head _ | apply List.Mem.tail | apply List.mem_append_right)) (by rw [in_load hkk, hidk, hnot]) rfl ?_)
    first
      | refine xo_not rfl rfl ?_
      | (refine xo_notOp rfl rfl rfl ?_)
    first
      | refine xo_not rfl rfl ?_
      | (first | refine xo_pickT rfl rfl rfl rfl ?_ | refine xo_pickF rfl rfl rfl rfl ?_)
    first | refine xo_pickT rfl rfl rfl rfl ?_ | refine xo_pickF rfl rfl rfl rfl ?_
    refine xo_asg rfl rfl rfl ?_
    with_reducible refine xo_nil ?_
    with_reducible repeat (first | refine xq_then ?_ | refine xq_blockN ?_ | refine xq_scopeN ?_)
    with_reducible repeat refine xc_seq ?_
    with_reducible refine xc_ret ?_
    with_reducible repeat (first | refine xq_thenR ?_ | refine xq_blockR ?_ | refine xq_scopeR ?_)
    exact xq_ret1 rfl rfl fun w' hw => ⟨rfl, hw.kx.below⟩
  · with_reducible repeat refine xc_seq ?_
    with_reducible refine xc_region ?_
    refine xo_mv rfl rfl rfl ?_
    refine xo_mv rfl rfl rfl ?_
    first
      | refine xo_not rfl rfl ?_
      | (refine xo_mv rfl rfl rfl ?_)
    first
      | refine xo_not rfl rfl ?_
      | (refine xo_mv rfl rfl rfl ?_)
    first
      | refine xo_not rfl rfl ?_
      | (refine xo_lenR T_ rfl rfl (fun h => by rw [h06 h]; rfl) rfl rfl ?_)
    first
      | refine xo_not rfl rfl ?_
      | (refine xo_geq rfl rfl rfl rfl ?_)
    refine xo_as (i := 202) rfl (congrArg Value.bool hc) ?_
    first
      | refine xo_not rfl rfl ?_
      | (refine xo_mv rfl rfl rfl ?_)
    first
      | refine xo_not rfl rfl ?_
      | (refine xo_mv rfl rfl rfl ?_)
    first
      | refine xo_not rfl rfl ?_
      | (refine xo_mv rfl rfl rfl ?_)
    first
      | refine xo_not rfl rfl ?_
      | (fail "NO RULE: Op.call -9")
    first
      | refine xo_not rfl rfl ?_
      | (refine xo_mv rfl rfl rfl ?_)
    first
      | refine xo_not rfl rfl ?_
      | (refine xo_ia T_ rfl rfl rfl rfl rfl ⟨by omega, by omega⟩ rfl ?_)
    first
      | refine xo_not rfl rfl ?_
      | (refine xo_loadR0 T_ rfl rfl rfl (by first | assumption | exact RO.fld (by assumption) rfl) rfl ?_)
    first
      | refine xo_not rfl rfl ?_
      | (refine xo_notOp rfl rfl rfl ?_)
    first
      | refine xo_not rfl rfl ?_
      | (first | refine xo_pickT rfl rfl rfl rfl ?_ | refine xo_pickF rfl rfl rfl rfl ?_)
    first | refine xo_pickT rfl rfl rfl rfl ?_ | refine xo_pickF rfl rfl rfl rfl ?_
    refine xo_asg rfl rfl rfl ?_
    with_reducible refine xo_nil ?_
    with_reducible repeat (first | refine xq_then ?_ | refine xq_blockN ?_ | refine xq_scopeN ?_)
    with_reducible repeat refine xc_seq ?_
    with_reducible refine xc_ret ?_
    with_reducible repeat (first | refine xq_thenR ?_ | refine xq_blockR ?_ | refine xq_scopeR ?_)
    exact xq_ret1 rfl rfl fun w' hw => ⟨rfl, hw.kx.below⟩
end Go.Proofs.YtcmepdamemnbkaaDoor
