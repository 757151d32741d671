/- trust.Takes. / words that the kit's print lays for a seat, as far as they are used / ref08: within, At, SameInts, SameLetters, Great. / ref08: Same, Great. / ref08.Great. / ref08.Records answers what trust.recorded answers. / ref08.Records: the walk. / ref08.Check answers what trust.Check answers. / ref08.Gone. / ref08.Hold: plain part. -/
import Derived.Test.YtcmepdamemnbkaaDoorPkLawTrustRecall4
import Derived.Test.YtcmepdamemnbkaaDoorPkLawTrustRecall1
import Derived.Laws.StructEq
import Derived.Test.YtcmepdamemnbkaaDoorPkLawTrustRecall3
namespace Go.Proofs.YtcmepdamemnbkaaDoor
open Go.RowKit Go.Proofs.YtcmepdamemnbkaaDoorW.PrintWords
set_option linter.unusedVariables false
set_option linter.unusedSimpArgs false
theorem takes1_calls (x : Int) (A : Option Addr) (c : Nat) (zs : List Int) (B : Nat) (w : World) (hB : w.cell? ⟨B, 0, none⟩ = some (.slice A zs.length c)) (hr : Kd.C (Kd.int .i64) w A zs.length zs) :
    Calls Tryd.prog 58 #[.int .i64 x, .pointer (some ⟨B, 0, none⟩)] w fun e w' => e = .returned (.bool (decide (x ∈ zs))) ∧ Below w.heap.size w w' := by
  have r1 := ro1 hB
  refine x_calls (X := XNone) Tryd.func58 rfl rfl rfl ?_
  with_reducible repeat refine xc_seq ?_
  with_reducible refine xc_region ?_
  refine xo_asg rfl rfl rfl ?_
  with_reducible refine xo_nil ?_
  with_reducible repeat (first | refine xq_then ?_ | refine xq_blockN ?_ | refine xq_scopeN ?_)
  with_reducible repeat refine xc_seq ?_
  with_reducible refine xc_region ?_
  refine xo_loadR0 T_ rfl rfl rfl (by first | assumption | exact RO.fld (by assumption) rfl) rfl ?_
  refine xo_mv rfl rfl rfl ?_
  refine xo_callB (fs := []) (cs := []) rfl rfl rfl contains_enters rfl (fun w1 hw1 => contains_calls A c zs x w1 (Kd.C_below hr hw1.kx.below)) ?_
  refine xo_asg rfl rfl rfl ?_
  with_reducible refine xo_nil ?_
  with_reducible repeat (first | refine xq_then ?_ | refine xq_blockN ?_ | refine xq_scopeN ?_)
  with_reducible repeat refine xc_seq ?_
  with_reducible refine xc_ret ?_
  with_reducible repeat (first | refine xq_thenR ?_ | refine xq_blockR ?_ | refine xq_scopeR ?_)
  exact xq_ret1 rfl rfl fun w' hw => ⟨rfl, hw.kx.below⟩
theorem deleteFunc_nil (p : Int → Bool) (g : Nat) (cs : List Value) (eg : ∀ args w, (callFunc g args).run Tryd.prog w = .ok (.enter g args) w) (w : World) (hp : Asks Tryd.prog w g cs (.int .i64) p) :
    Calls Tryd.prog 57 #[.slice none 0 0, .func (.func g) #[] cs.toArray] w fun e w' => e = .returned (.slice none 0 0) ∧ Below w.heap.size w w' := by
  have eg2 := enters_of Tryd.func68 (by kernel_rfl) rfl
  refine x_calls (X := XNone) Tryd.func57 rfl rfl rfl ?_
  with_reducible repeat refine xc_seq ?_
  with_reducible refine xc_region ?_
  refine xo_asg rfl rfl rfl ?_
  with_reducible refine xo_nil ?_
  with_reducible repeat (first | refine xq_then ?_ | refine xq_blockN ?_ | refine xq_scopeN ?_)
  with_reducible repeat refine xc_seq ?_
  with_reducible refine xc_region ?_
  refine xo_mv rfl rfl rfl ?_
  refine xo_mv rfl rfl rfl ?_
  refine xo_callB (fs := []) (cs := []) rfl rfl rfl eg2 rfl (fun w1 hw1 => indexFunc_calls p g cs eg none 0 [] w1 (Kd.C_nil _ _) (fun x W hW => hp x W (below_step hw1.kx.below hW))) ?_
  refine xo_asg rfl rfl rfl ?_
  with_reducible refine xo_nil ?_
  with_reducible repeat (first | refine xq_then ?_ | refine xq_blockN ?_ | refine xq_scopeN ?_)
  with_reducible repeat refine xc_seq ?_
  with_reducible refine xc_region ?_
  refine xo_mv rfl rfl rfl ?_
  refine xo_eql rfl rfl rfl rfl ?_
  with_reducible refine xo_nil ?_
  with_reducible repeat (first | refine xq_then ?_ | refine xq_blockN ?_ | refine xq_scopeN ?_)
  with_reducible repeat refine xc_seq ?_
  refine xc_condT rfl ?_
  with_reducible repeat refine xc_seq ?_
  with_reducible refine xc_region ?_
  refine xo_mv rfl rfl rfl ?_
  refine xo_asg rfl rfl rfl ?_
  with_reducible refine xo_nil ?_
  with_reducible repeat (first | refine xq_then ?_ | refine xq_blockN ?_ | refine xq_scopeN ?_)
  with_reducible repeat refine xc_seq ?_
  with_reducible refine xc_ret ?_
  with_reducible repeat (first | refine xq_thenR ?_ | refine xq_blockR ?_ | refine xq_scopeR ?_)
  exact xq_ret1 rfl rfl fun w' hw => ⟨rfl, hw.kx.below⟩
theorem delete_enters : ∀ args w, (callFunc 57 args).run Tryd.prog w = .ok (.enter 57 args) w := enters_of Tryd.func57 (by kernel_rfl) rfl
theorem takes1_enters : ∀ args w, (callFunc 58 args).run Tryd.prog w = .ok (.enter 58 args) w := enters_of Tryd.func58 (by kernel_rfl) rfl
def takesF (r : List RecT) (gone : List Int) (id : Int) : List Int := (holdsF r gone).filter fun n => !decide (n ∈ holdsF r (insN id gone))
def takesR (r : List RecT) (l : List LetT) (day id : Int) : List Int := if openF r l day [id] = 0 then takesF r (goneF r l day) id else []
theorem holdsF_len (r : List RecT) (gone : List Int) : (holdsF r gone).length ≤ r.length := holdsL_len gone r []
theorem RowAt.kx {e : TypeId} {base : Nat} {w w' : World} {X : Nat → Prop} {rr : RowR} {xs : List Int} (h : RowAt e base w rr xs) (k : Kx X w w') (hX : ∀ p, rr = some p → ¬ X p.1) : RowAt e base w' rr xs :=
  ⟨h.1, fun p hp => by
    obtain ⟨h1, o, h2, h3⟩ := h.2 p hp
    exact ⟨h1, o, (k.block _ (Array.getElem?_eq_some_iff.1 h2).1 (hX p hp)).trans h2, h3⟩⟩
theorem WOK.rowAt {w0 : World} {X : Nat → Prop} {η : Hp} {w : World} (h : WOK w0 X η w) {e : TypeId} {rr : RowR} {xs : List Int} (h0 : rr = none → xs = []) (hs : ∀ p, rr = some p → (p.1, true, orow e 1 xs.length p.2 (xs.map (.int .i64))) ∈ η) : RowAt e 0 w rr xs :=
  ⟨h0, fun p hp => ⟨Nat.zero_le _, h.bl _ (hs p hp)⟩⟩
theorem WOK.neH {w0 : World} {X : Nat → Prop} {η : Hp} {w : World} {e e' : Nat × Bool × HP} (h : WOK w0 X (e :: η) w) (he : e' ∈ η) : e.1 ≠ e'.1 := by
  have := h.nd
  simp only [List.map_cons, List.nodup_cons, List.mem_map, not_exists, not_and] at this
  exact fun q => this.1 e' he q.symm
theorem valR_cells (r : RowR) (n : Nat) : (valR r n).cells.toList = [valR r n] := by cases r <;> rfl
theorem takes_asks {X X0 : Nat → Prop} {w0 : World} {η : Hp} {w : World} {rr2 : RowR} {zs : List Int} {t : TypeId} {b13 : Nat} {wr : Bool} (hw : WOK w0 X0 η w) (hb : (b13, wr, cel [valR rr2 zs.length] t) ∈ η) (hr : RowAt 3 0 w rr2 zs) (hz : zs.length ≤ 1000000) (hX : ¬ X b13) (hX2 : ∀ p, rr2 = some p → ¬ X p.1) :
    AsksK Tryd.prog X w 58 [.pointer (some ⟨b13, 0, none⟩)] (fun x => decide (x ∈ zs)) := fun x W hW => by
  obtain ⟨A, c, e, hc, hC⟩ := (RowAt.kx hr hW hX2).C (by omega)
  have h1 := hW.cell (hw.cell hb 0 rfl) hX
  rw [e] at h1
  exact takes1_calls x A c zs b13 W h1 hC
set_option maxHeartbeats 8000000 in
theorem trustTakes_calls (A B : Option Addr) (c c' : Nat) (r : List RecT) (l : List LetT) (day id : Int) (w : World) (hr : Kd.C recK w A r.length r) (hl : Kd.C letK w B l.length l) (hk : Bytes r) (hkl : BytesL l) :
    Calls Tryd.prog 29 #[.slice A r.length c, .slice B l.length c', .int .i64 day, .int .i64 id] w fun e w' => ∃ rr : RowR, e = .returned (.tuple #[valR rr (takesR r l day id).length, .int .i64 (openF r l day [id])]) ∧ RowAt 3 w.heap.size w' rr (takesR r l day id) ∧ Below w.heap.size w w' := by
  refine x_calls (X := XNone) Tryd.func29 rfl rfl rfl ?_
  with_reducible repeat refine xc_seq ?_
  with_reducible refine xc_region ?_
  refine xo_asg rfl rfl rfl ?_
  refine xo_asg rfl rfl rfl ?_
  with_reducible refine xo_nil ?_
  with_reducible repeat (first | refine xq_then ?_ | refine xq_blockN ?_ | refine xq_scopeN ?_)
  with_reducible repeat refine xc_seq ?_
  with_reducible refine xc_region ?_
  refine xo_mv rfl rfl rfl ?_
  refine xo_mv rfl rfl rfl ?_
  refine xo_mv rfl rfl rfl ?_
  refine xo_mv rfl rfl rfl ?_
  refine xo_bs1 T_ rfl rfl rfl rfl rfl rfl rfl rfl (fun b19 => ?_)
  refine xo_call (fs := []) (cs := []) rfl rfl rfl open_enters rfl (fun w1 hw1 => (open_calls A B (some ⟨b19, 0, none⟩) c c' 1 r l day [id] w1 (Kd.C_below hr hw1.kx.below) (Kd.C_below hl hw1.kx.below) (C_cel hw1 (xs := [id]) (List.Mem.head _) (by simp)) hk hkl).mono ?_)
  rintro e w2 ⟨sv, rfl, hb, hne, h0⟩
  by_cases ho : openF r l day [id] = 0
  · obtain ⟨M, rfl, hM1, hM2⟩ := h0 ho
    obtain ⟨oM, hM3, hM4⟩ := hmap_of hM2
    rw [ho]
    refine ⟨_, _, rfl, hw1.more hb hM1 hM3 hM4, ?_⟩
    clear hb hM2 hM3 hM4 hne h0 hM1
    have hlen : r.length ≤ 1000000 := by have := openF_len ho; omega
    refine xo_mv rfl rfl rfl ?_
    refine xo_ext rfl rfl rfl rfl ?_
    refine xo_ext rfl rfl rfl rfl ?_
    refine xo_alloc T_ rfl rfl rfl rfl (fun b10 => ?_)
    refine xo_store T_ rfl rfl rfl rfl (by repeat (first | exact List.Mem.head _ | apply List.Mem.tail | apply List.mem_append_right)) rfl rfl rfl rfl (by repeat (first | exact Upd.head | apply Upd.tail | apply Upd.app)) rfl ?_
    refine xo_asg rfl rfl rfl ?_
    with_reducible refine xo_nil ?_
    with_reducible repeat (first | refine xq_then ?_ | refine xq_blockN ?_ | refine xq_scopeN ?_)
    with_reducible repeat refine xc_seq ?_
    with_reducible refine xc_region ?_
    refine xo_mv rfl rfl rfl ?_
    refine xo_neq rfl rfl rfl rfl ?_
    with_reducible refine xo_nil ?_
    with_reducible repeat (first | refine xq_then ?_ | refine xq_blockN ?_ | refine xq_scopeN ?_)
    with_reducible repeat refine xc_seq ?_
    refine xc_condF rfl ?_
    with_reducible refine xc_skip ?_
    with_reducible repeat (first | refine xq_then ?_ | refine xq_blockN ?_ | refine xq_scopeN ?_)
    with_reducible repeat refine xc_seq ?_
    with_reducible refine xc_region ?_
    refine xo_loadN T_ rfl rfl rfl (by repeat (first | exact List.Mem.head _ | apply List.Mem.tail | apply List.mem_append_right)) rfl rfl ?_
    refine xo_fa T_ rfl rfl rfl rfl rfl ?_
    refine xo_load0 T_ rfl rfl rfl (by repeat (first | exact List.Mem.head _ | apply List.Mem.tail | apply List.mem_append_right)) rfl rfl ?_
    refine xo_holds rfl rfl rfl rfl (fun b2 b3 => ?_)
    refine xo_collect (r := r) hr hlen rfl rfl (by repeat (first | exact List.Mem.head _ | apply List.Mem.tail | apply List.mem_append_right)) (by repeat (first | exact List.Mem.head _ | apply List.Mem.tail | apply List.mem_append_right)) (by repeat (first | exact List.Mem.head _ | apply List.Mem.tail | apply List.mem_append_right)) (fun w1 hw1 => ne_of_nd hw1) rfl (fun rr hrr => ?_)
    refine xo_asg rfl rfl rfl ?_
    with_reducible refine xo_nil ?_
    with_reducible repeat (first | refine xq_then ?_ | refine xq_blockN ?_ | refine xq_scopeN ?_)
    with_reducible repeat refine xc_seq ?_
    with_reducible refine xc_region ?_
    refine xo_fa T_ rfl rfl rfl rfl rfl ?_
    refine xo_load0 T_ rfl rfl rfl (by repeat (first | exact List.Mem.head _ | apply List.Mem.tail | apply List.mem_append_right)) rfl rfl ?_
    refine xo_mv rfl rfl rfl ?_
    refine xo_sins T_ rfl rfl rfl rfl rfl rfl (by repeat (first | exact List.Mem.head _ | apply List.Mem.tail | apply List.mem_append_right)) (by repeat (first | exact Upd.head | apply Upd.tail | apply Upd.app)) rfl ?_
    with_reducible refine xo_nil ?_
    with_reducible repeat (first | refine xq_then ?_ | refine xq_blockN ?_ | refine xq_scopeN ?_)
    with_reducible repeat refine xc_seq ?_
    with_reducible refine xc_region ?_
    refine xo_loadN T_ rfl rfl rfl (by repeat (first | exact List.Mem.head _ | apply List.Mem.tail | apply List.mem_append_right)) rfl rfl ?_
    refine xo_fa T_ rfl rfl rfl rfl rfl ?_
    refine xo_load0 T_ rfl rfl rfl (by repeat (first | exact List.Mem.head _ | apply List.Mem.tail | apply List.mem_append_right)) rfl rfl ?_
    refine xo_holds rfl rfl rfl rfl (fun b4 b5 => ?_)
    refine xo_collect (r := r) hr hlen rfl rfl (by repeat (first | exact List.Mem.head _ | apply List.Mem.tail | apply List.mem_append_right)) (by repeat (first | exact List.Mem.head _ | apply List.Mem.tail | apply List.mem_append_right)) (by repeat (first | exact List.Mem.head _ | apply List.Mem.tail | apply List.mem_append_right)) (fun w1 hw1 => ne_of_nd hw1) rfl (fun rr2 hrr2 => ?_)
    refine xo_alloc T_ rfl rfl rfl rfl (fun b13 => ?_)
    refine xo_store T_ rfl rfl rfl rfl (by repeat (first | exact List.Mem.head _ | apply List.Mem.tail | apply List.mem_append_right)) (valR_cells _ _) rfl (by cases rr2 <;> rfl) rfl (by repeat (first | exact Upd.head | apply Upd.tail | apply Upd.app)) rfl ?_
    with_reducible refine xo_nil ?_
    with_reducible repeat (first | refine xq_then ?_ | refine xq_blockN ?_ | refine xq_scopeN ?_)
    have hz : (holdsF r (insN id (goneF r l day))).length ≤ 1000000 := by have := holdsF_len r (insN id (goneF r l day)); omega
    have hz' : (holdsF r (goneF r l day)).length ≤ 1000000 := by have := holdsF_len r (goneF r l day); omega
    have ht : takesR r l day id = takesF r (goneF r l day) id := by rw [takesR, if_pos ho]
    rcases rr with _ | ⟨g1, cap1⟩
    · have hx0 := hrr rfl
      have ht0 : takesF r (goneF r l day) id = [] := by rw [takesF, hx0]; rfl
      with_reducible repeat refine xc_seq ?_
      with_reducible refine xc_region ?_
      refine xo_mv rfl rfl rfl ?_
      refine xo_mkf rfl rfl rfl rfl ?_
      refine xo_callB (fs := []) (cs := []) rfl rfl rfl delete_enters rfl (fun w1 hw1 => deleteFunc_nil (fun x => decide (x ∈ holdsF r (insN id (goneF r l day)))) _ _ takes1_enters w1 (fun x W hW => takes_asks (X := XNone) hw1 (List.Mem.head _) (hw1.rowAt hrr2 (fun p hp => by subst hp; exact List.Mem.tail _ (List.mem_append_left _ (List.Mem.head _)))) hz (fun h => h) (fun _ _ h => h) x W (Kx.of_below hW))) ?_
      refine xo_asg rfl rfl rfl ?_
      refine xo_asg rfl rfl rfl ?_
      with_reducible refine xo_nil ?_
      with_reducible repeat (first | refine xq_then ?_ | refine xq_blockN ?_ | refine xq_scopeN ?_)
      with_reducible repeat refine xc_seq ?_
      with_reducible refine xc_ret ?_
      with_reducible repeat (first | refine xq_thenR ?_ | refine xq_blockR ?_ | refine xq_scopeR ?_)
      refine xq_ret2 rfl rfl rfl fun w' hw => ⟨none, by rw [ht, ht0]; rfl, ?_, hw.kx.below⟩
      rw [ht, ht0]
      exact ⟨fun _ => rfl, fun p hp => by cases hp⟩
    · with_reducible repeat refine xc_seq ?_
      with_reducible refine xc_region ?_
      refine xo_mv rfl rfl rfl ?_
      refine xo_mkf rfl rfl rfl rfl ?_
      refine xo_call (fs := []) (cs := []) rfl rfl rfl delete_enters rfl (fun w1 hw1 => ?_)
      have hm1 := hw1.neH (e' := (g1, true, orow 3 1 (holdsF r (goneF r l day)).length cap1 ((holdsF r (goneF r l day)).map (.int .i64)))) (List.mem_append_right _ (by repeat (first | exact List.Mem.head _ | apply List.Mem.tail)))
      have hm2 : ∀ p, rr2 = some p → p.1 ≠ g1 := fun p hp => by subst hp; exact (hw1.sub (List.Sublist.cons _ (List.Sublist.refl _))).neH (e' := (g1, true, orow 3 1 (holdsF r (goneF r l day)).length cap1 ((holdsF r (goneF r l day)).map (.int .i64)))) (List.Mem.tail _ (List.Mem.tail _ (List.Mem.head _)))
      obtain ⟨o1, ho1, ho2⟩ := hw1.bl (g1, true, orow 3 1 (holdsF r (goneF r l day)).length cap1 ((holdsF r (goneF r l day)).map (.int .i64))) (List.Mem.tail _ (List.mem_append_right _ (by repeat (first | exact List.Mem.head _ | apply List.Mem.tail))))
      refine (deleteFunc_calls (fun x => decide (x ∈ holdsF r (insN id (goneF r l day)))) _ _ takes1_enters g1 cap1 (holdsF r (goneF r l day)) w1 o1 ho1 ho2 hz' (takes_asks hw1 (List.Mem.head _) (hw1.rowAt hrr2 (fun p hp => by subst hp; exact List.Mem.tail _ (List.mem_append_left _ (List.Mem.head _)))) hz hm1 hm2)).mono ?_
      rintro e w3 ⟨rfl, hk3, o3, ho3, ho4⟩
      refine ⟨_, _, rfl, hw1.updK (φ' := orow 3 1 (takesF r (goneF r l day) id).length cap1 ((takesF r (goneF r l day) id).map (.int .i64))) (Upd.tail (Upd.app (by repeat (first | exact Upd.head | apply Upd.tail)) _)) hk3 ho3 ho4, ?_⟩
      refine xo_asg rfl rfl rfl ?_
      refine xo_asg rfl rfl rfl ?_
      with_reducible refine xo_nil ?_
      with_reducible repeat (first | refine xq_then ?_ | refine xq_blockN ?_ | refine xq_scopeN ?_)
      with_reducible repeat refine xc_seq ?_
      with_reducible refine xc_ret ?_
      with_reducible repeat (first | refine xq_thenR ?_ | refine xq_blockR ?_ | refine xq_scopeR ?_)
      refine xq_ret2 rfl rfl rfl fun w' hw => ⟨some (g1, cap1), by rw [ht]; rfl, ?_, hw.kx.below⟩
      rw [ht]
      exact ⟨(fun h => by cases h), fun p hp => by
        cases hp
        exact ⟨hw.own (List.Mem.tail _ (List.mem_append_right _ (by repeat (first | exact List.Mem.head _ | apply List.Mem.tail)))), hw.bl (g1, true, orow 3 1 (takesF r (goneF r l day) id).length cap1 ((takesF r (goneF r l day) id).map (.int .i64))) (List.Mem.tail _ (List.mem_append_right _ (by repeat (first | exact List.Mem.head _ | apply List.Mem.tail))))⟩⟩
  · obtain rfl := hne ho
    refine ⟨_, _, rfl, hw1.below hb, ?_⟩
    clear hb hne h0
    refine xo_mv rfl rfl rfl ?_
    refine xo_ext rfl rfl rfl rfl ?_
    refine xo_ext rfl rfl rfl rfl ?_
    refine xo_alloc T_ rfl rfl rfl rfl (fun b8 => ?_)
    refine xo_store T_ rfl rfl rfl rfl (by repeat (first | exact List.Mem.head _ | apply List.Mem.tail | apply List.mem_append_right)) rfl rfl rfl rfl (by repeat (first | exact Upd.head | apply Upd.tail | apply Upd.app)) rfl ?_
    refine xo_asg rfl rfl rfl ?_
    with_reducible refine xo_nil ?_
    with_reducible repeat (first | refine xq_then ?_ | refine xq_blockN ?_ | refine xq_scopeN ?_)
    have hd : (!decide (openF r l day [id] = 0)) = true := by simp [ho]
    with_reducible repeat refine xc_seq ?_
    with_reducible refine xc_region ?_
    refine xo_mv rfl rfl rfl ?_
    refine xo_neq rfl rfl rfl rfl ?_
    refine xo_as (i := 24) rfl (congrArg Value.bool hd) ?_
    with_reducible refine xo_nil ?_
    with_reducible repeat (first | refine xq_then ?_ | refine xq_blockN ?_ | refine xq_scopeN ?_)
    with_reducible repeat refine xc_seq ?_
    refine xc_condT rfl ?_
    with_reducible repeat refine xc_seq ?_
    with_reducible refine xc_region ?_
    refine xo_mv rfl rfl rfl ?_
    refine xo_asg rfl rfl rfl ?_
    refine xo_asg rfl rfl rfl ?_
    with_reducible refine xo_nil ?_
    with_reducible repeat (first | refine xq_then ?_ | refine xq_blockN ?_ | refine xq_scopeN ?_)
    with_reducible repeat refine xc_seq ?_
    with_reducible refine xc_ret ?_
    with_reducible repeat (first | refine xq_thenR ?_ | refine xq_blockR ?_ | refine xq_scopeR ?_)
    refine xq_ret2 rfl rfl rfl fun w' hw => ⟨none, by rw [takesR, if_neg ho]; rfl, ?_, hw.kx.below⟩
    rw [takesR, if_neg ho]
    exact ⟨fun _ => rfl, fun p hp => by cases hp⟩
end Go.Proofs.YtcmepdamemnbkaaDoor
namespace Go.Proofs.YtcmepdamemnbkaaDoorW.PrintWords
open Go.RowKit
section
variable {P : Program} {d : Nat} {xs ys : Array Value} {f : Field} {fs : List Field} {a b : Value} {r s : Bool} {w : World}
/-- The last field that counts. -/
theorem eqf_last (hn : (f.name == "_") = false) (ha : (part f.type xs f.offset).run P w = .ok a w) (hb : (part f.type ys f.offset).run P w = .ok b w) (he : (Op.equalIn d f.type a b).run P w = .ok r w) : (Op.eqFields d xs ys [f]).run P w = .ok r w := by
  have hn' : f.name ≠ "_" := by simpa using hn
  simp only [Op.eqFields, if_pos hn', Sem.run_bind, ha, hb, he, Result.andThen_ok]
  cases r <;> simp
theorem eqf_cons (hn : (f.name == "_") = false) (ha : (part f.type xs f.offset).run P w = .ok a w) (hb : (part f.type ys f.offset).run P w = .ok b w) (he : (Op.equalIn d f.type a b).run P w = .ok r w) (hr : (Op.eqFields d xs ys fs).run P w = .ok s w) : (Op.eqFields d xs ys (f :: fs)).run P w = .ok (r && s) w := by
  have hn' : f.name ≠ "_" := by simpa using hn
  rw [Op.eqFields]
  simp only [if_pos hn', Sem.run_bind, ha, hb, he, Result.andThen_ok]
  cases r
  · simp
  · simpa using hr
theorem eqA_of {t : TypeId} {fs : Array Field} (hu : P.underlying t = some (.struct fs)) (hp : P.stoodInHeld t = false) (h : (Op.eqFields d xs ys fs.toList).run P w = .ok r w) : (Op.equalIn (d + 1) t (.agg xs) (.agg ys)).run P w = .ok r w := by
  have hf : P.fieldsOf t = fs := by simp [Program.fieldsOf, hu]
  rw [run_equalIn_struct (P := P) w d t xs ys (by rw [hf]; exact hu) hp, hf]
  exact h
end
end Go.Proofs.YtcmepdamemnbkaaDoorW.PrintWords
namespace Go.Proofs.YtcmepdamemnbkaaDoor
open Go.RowKit Go.Proofs.YtcmepdamemnbkaaDoorW.PrintWords
set_option linter.unusedVariables false
set_option linter.unusedSimpArgs false
theorem within_calls (x lo hi : Int) (w : World) : Calls Tryd.prog 55 #[.int .i64 x, .int .i64 lo, .int .i64 hi] w fun e w' => e = .returned (.bool (inF lo hi x)) ∧ Below w.heap.size w w' := by
  refine x_calls (X := XNone) Tryd.func55 rfl rfl rfl ?_
  with_reducible repeat refine xc_seq ?_
  with_reducible refine xc_region ?_
  refine xo_asg rfl rfl rfl ?_
  with_reducible refine xo_nil ?_
  with_reducible repeat (first | refine xq_then ?_ | refine xq_blockN ?_ | refine xq_scopeN ?_)
  cases h : decide (lo ≤ x)
  all_goals
    with_reducible repeat refine xc_seq ?_
    with_reducible refine xc_region ?_
    refine xo_mv rfl rfl rfl ?_
    refine xo_mv rfl rfl rfl ?_
    refine xo_geq rfl rfl rfl rfl ?_
    refine xo_mv rfl rfl rfl ?_
    refine xo_as (i := 10) rfl (congrArg Value.bool h) ?_
    first
      | refine xo_not rfl rfl ?_
      | (refine xo_mv rfl rfl rfl ?_)
    first
      | refine xo_not rfl rfl ?_
      | (refine xo_mv rfl rfl rfl ?_)
    first
      | refine xo_not rfl rfl ?_
      | (refine xo_leq rfl rfl rfl rfl ?_)
    first | refine xo_pickT rfl rfl rfl rfl ?_ | refine xo_pickF rfl rfl rfl rfl ?_
    refine xo_asg rfl rfl rfl ?_
    with_reducible refine xo_nil ?_
    with_reducible repeat (first | refine xq_then ?_ | refine xq_blockN ?_ | refine xq_scopeN ?_)
    with_reducible repeat refine xc_seq ?_
    with_reducible refine xc_ret ?_
    with_reducible repeat (first | refine xq_thenR ?_ | refine xq_blockR ?_ | refine xq_scopeR ?_)
    exact (xq_ret1 rfl rfl fun w' hw => ⟨by simp only [inF, h, Bool.true_and, Bool.false_and]; first | done | rfl, hw.kx.below⟩)
theorem within_enters : ∀ args w, (callFunc 55 args).run Tryd.prog w = .ok (.enter 55 args) w := enters_of Tryd.func55 (by kernel_rfl) rfl
def atF (r : List RecT) (id : Int) : Int := idxF (fun x => decide (x.f0 = id)) r 0
theorem at_calls (A : Option Addr) (c : Nat) (r : List RecT) (id : Int) (w : World) (hr : Kd.C recK w A r.length r) :
    Calls Tryd.prog 48 #[.slice A r.length c, .int .i64 id] w fun e w' => e = .returned (.int .i64 (atF r id)) ∧ Below w.heap.size w w' := by
  have hn := hr.2.1
  refine x_calls (X := XNone) Tryd.func48 rfl rfl rfl ?_
  with_reducible repeat refine xc_seq ?_
  with_reducible refine xc_region ?_
  refine xo_asg rfl rfl rfl ?_
  with_reducible refine xo_nil ?_
  with_reducible repeat (first | refine xq_then ?_ | refine xq_blockN ?_ | refine xq_scopeN ?_)
  with_reducible repeat refine xc_seq ?_
  with_reducible refine xc_region ?_
  refine xo_asg rfl rfl rfl ?_
  with_reducible refine xo_nil ?_
  with_reducible repeat (first | refine xq_then ?_ | refine xq_blockN ?_ | refine xq_scopeN ?_)
  with_reducible repeat refine xc_seq ?_
  with_reducible refine xc_block ?_
  refine xc_loop (γ := Nat) (fun k => k ≤ r.length ∧ ∀ j, j < k → decide ((r.getD j zRec).f0 = id) = false) (fun k => [(0, .slice A r.length c), (1, .int .i64 id), (5, .int .i64 (k : Int))]) (fun _ => []) (fun k => r.length - k) 0
    ⟨Nat.zero_le _, fun j hj => absurd hj (Nat.not_lt_zero _)⟩ ⟨rfl, rfl, rfl, trivial⟩ (List.Sublist.refl _) ?_
  rintro k ⟨hk, hno⟩
  with_reducible repeat refine xc_seq ?_
  with_reducible refine xc_region ?_
  refine xo_mv rfl rfl rfl ?_
  refine xo_mv rfl rfl rfl ?_
  refine xo_len T_ rfl rfl rfl rfl ?_
  refine xo_lss rfl rfl rfl rfl ?_
  with_reducible refine xo_nil ?_
  with_reducible repeat (first | refine xq_then ?_ | refine xq_blockN ?_ | refine xq_scopeN ?_)
  with_reducible repeat refine xc_seq ?_
  refine xc_cond rfl (fun h => ?_) (fun h => ?_)
  · have hlt : k < r.length := by have := of_decide_eq_true h; omega
    obtain ⟨ad, A2, c2, rfl, r1, _, _⟩ := rec_at hr k hlt
    unfold recV at r1
    with_reducible refine xc_skip ?_
    with_reducible repeat (first | refine xq_then ?_ | refine xq_blockN ?_ | refine xq_scopeN ?_)
    with_reducible repeat refine xc_seq ?_
    with_reducible refine xc_block ?_
    with_reducible repeat refine xc_seq ?_
    with_reducible refine xc_region ?_
    refine xo_mv rfl rfl rfl ?_
    refine xo_mv rfl rfl rfl ?_
    refine xo_ia T_ rfl rfl rfl rfl rfl ⟨by omega, by omega⟩ rfl ?_
    refine xo_faR T_ rfl rfl rfl rfl rfl ?_
    refine xo_loadR0 T_ rfl rfl rfl (by first | assumption | exact RO.fld (by assumption) rfl) rfl ?_
    refine xo_mv rfl rfl rfl ?_
    refine xo_eql rfl rfl rfl rfl ?_
    with_reducible refine xo_nil ?_
    with_reducible repeat (first | refine xq_then ?_ | refine xq_blockN ?_ | refine xq_scopeN ?_)
    with_reducible repeat refine xc_seq ?_
    refine xc_cond rfl (fun h2 => ?_) (fun h2 => ?_)
    · with_reducible repeat refine xc_seq ?_
      with_reducible refine xc_region ?_
      refine xo_mv rfl rfl rfl ?_
      refine xo_asg rfl rfl rfl ?_
      with_reducible refine xo_nil ?_
      with_reducible repeat (first | refine xq_then ?_ | refine xq_blockN ?_ | refine xq_scopeN ?_)
      with_reducible repeat refine xc_seq ?_
      with_reducible refine xc_ret ?_
      with_reducible repeat (first | refine xq_thenR ?_ | refine xq_blockR ?_ | refine xq_scopeR ?_)
      exact xq_ret1 rfl rfl fun w' hw => ⟨by rw [atF, idxF_hit _ zRec r k 0 hlt h2 hno]; simp, hw.kx.below⟩
    · with_reducible refine xc_skip ?_
      with_reducible repeat (first | refine xq_then ?_ | refine xq_blockN ?_ | refine xq_scopeN ?_)
      with_reducible repeat refine xc_seq ?_
      with_reducible refine xc_region ?_
      refine xo_mv rfl rfl rfl ?_
      refine xo_add rfl rfl rfl (by omega) rfl ?_
      refine xo_asg rfl rfl rfl ?_
      with_reducible refine xo_nil ?_
      with_reducible repeat (first | refine xq_then ?_ | refine xq_blockN ?_ | refine xq_scopeN ?_)
      refine xq_again _ _ _ _ _ (k + 1) ⟨by omega, fun j hj => ?_⟩ (by omega) ⟨rfl, rfl, rfl, trivial⟩ (List.Sublist.refl _)
      by_cases e : j = k
      · subst e; exact h2
      · exact hno j (by omega)
  · have hge : ¬ k < r.length := by have := of_decide_eq_false h; omega
    with_reducible refine xc_exit ?_
    with_reducible repeat (first | refine xq_blockX ?_ | refine xq_thenE ?_ | refine xq_blockE rfl ?_ | refine xq_scopeE ?_)
    with_reducible repeat (first | refine xq_then ?_ | refine xq_blockN ?_ | refine xq_scopeN ?_)
    with_reducible repeat refine xc_seq ?_
    with_reducible refine xc_region ?_
    refine xo_asg rfl rfl rfl ?_
    with_reducible refine xo_nil ?_
    with_reducible repeat (first | refine xq_then ?_ | refine xq_blockN ?_ | refine xq_scopeN ?_)
    with_reducible repeat refine xc_seq ?_
    with_reducible refine xc_ret ?_
    with_reducible repeat (first | refine xq_thenR ?_ | refine xq_blockR ?_ | refine xq_scopeR ?_)
    refine xq_ret1 rfl rfl fun w' hw => ⟨?_, hw.kx.below⟩
    rw [atF, idxF_miss _ zRec r 0 (fun j hj => hno j (by omega))]
theorem at_enters : ∀ args w, (callFunc 48 args).run Tryd.prog w = .ok (.enter 48 args) w := enters_of Tryd.func48 (by kernel_rfl) rfl
/-- two rows that are alike -/
theorem sameInts_calls (A B : Option Addr) (c c' : Nat) (xs : List Int) (w : World) (hr : Kd.C (Kd.int .i64) w A xs.length xs) (hl : Kd.C (Kd.int .i64) w B xs.length xs) :
    Calls Tryd.prog 17 #[.slice A xs.length c, .slice B xs.length c'] w fun e w' => e = .returned (.bool true) ∧ Below w.heap.size w w' := by
  have hn := hr.2.1
  refine x_calls (X := XNone) Tryd.func17 rfl rfl rfl ?_
  with_reducible repeat refine xc_seq ?_
  with_reducible refine xc_region ?_
  refine xo_asg rfl rfl rfl ?_
  with_reducible refine xo_nil ?_
  with_reducible repeat (first | refine xq_then ?_ | refine xq_blockN ?_ | refine xq_scopeN ?_)
  have h0 : (!decide ((xs.length : Int) = (xs.length : Int))) = false := by simp
  with_reducible repeat refine xc_seq ?_
  with_reducible refine xc_region ?_
  refine xo_mv rfl rfl rfl ?_
  refine xo_len T_ rfl rfl rfl rfl ?_
  refine xo_mv rfl rfl rfl ?_
  refine xo_len T_ rfl rfl rfl rfl ?_
  refine xo_neq rfl rfl rfl rfl ?_
  refine xo_as (i := 10) rfl (congrArg Value.bool h0) ?_
  with_reducible refine xo_nil ?_
  with_reducible repeat (first | refine xq_then ?_ | refine xq_blockN ?_ | refine xq_scopeN ?_)
  with_reducible repeat refine xc_seq ?_
  refine xc_condF rfl ?_
  with_reducible refine xc_skip ?_
  with_reducible repeat (first | refine xq_then ?_ | refine xq_blockN ?_ | refine xq_scopeN ?_)
  with_reducible repeat refine xc_seq ?_
  with_reducible refine xc_region ?_
  refine xo_asg rfl rfl rfl ?_
  with_reducible refine xo_nil ?_
  with_reducible repeat (first | refine xq_then ?_ | refine xq_blockN ?_ | refine xq_scopeN ?_)
  with_reducible repeat refine xc_seq ?_
  with_reducible refine xc_block ?_
  refine xc_loop (γ := Nat) (fun k => k ≤ xs.length) (fun k => [(0, .slice A xs.length c), (1, .slice B xs.length c'), (5, .int .i64 (k : Int))]) (fun _ => []) (fun k => xs.length - k) 0
    (Nat.zero_le _) ⟨rfl, rfl, rfl, trivial⟩ (List.Sublist.refl _) ?_
  intro k hk
  with_reducible repeat refine xc_seq ?_
  with_reducible refine xc_region ?_
  refine xo_mv rfl rfl rfl ?_
  refine xo_mv rfl rfl rfl ?_
  refine xo_len T_ rfl rfl rfl rfl ?_
  refine xo_lss rfl rfl rfl rfl ?_
  with_reducible refine xo_nil ?_
  with_reducible repeat (first | refine xq_then ?_ | refine xq_blockN ?_ | refine xq_scopeN ?_)
  with_reducible repeat refine xc_seq ?_
  refine xc_cond rfl (fun h => ?_) (fun h => ?_)
  · have hlt : k < xs.length := by have := of_decide_eq_true h; omega
    obtain ⟨ad, rfl, r1⟩ := int_at hr k hlt
    obtain ⟨bd, rfl, r2⟩ := int_at hl k hlt
    with_reducible refine xc_skip ?_
    with_reducible repeat (first | refine xq_then ?_ | refine xq_blockN ?_ | refine xq_scopeN ?_)
    with_reducible repeat refine xc_seq ?_
    with_reducible refine xc_block ?_
    have h0 : (!decide (xs.getD k 0 = xs.getD k 0)) = false := by simp
    with_reducible repeat refine xc_seq ?_
    apply xc_drawN
    · exact T_.mixed
    · rfl
    · rfl
    · rfl
    · rfl
    · apply DrawOps.cons
      · intro τ
        refine xo_mv rfl rfl rfl ?_
        exact xo_fin rfl
      apply DrawOps.cons
      · intro τ
        refine xo_mv rfl rfl rfl ?_
        exact xo_fin rfl
      apply DrawOps.cons
      · intro τ
        refine xo_ia T_ rfl rfl rfl rfl rfl ⟨by omega, by omega⟩ rfl ?_
        exact xo_fin rfl
      apply DrawOps.cons
      · intro τ
        refine xo_loadR0 T_ rfl rfl rfl (by first | assumption | exact RO.fld (by assumption) rfl) rfl ?_
        exact xo_fin rfl
      apply DrawOps.cons
      · intro τ
        refine xo_mv rfl rfl rfl ?_
        exact xo_fin rfl
      apply DrawOps.cons
      · intro τ
        refine xo_mv rfl rfl rfl ?_
        exact xo_fin rfl
      apply DrawOps.cons
      · intro τ
        refine xo_ia T_ rfl rfl rfl rfl rfl ⟨by omega, by omega⟩ rfl ?_
        exact xo_fin rfl
      apply DrawOps.cons
      · intro τ
        refine xo_loadR0 T_ rfl rfl rfl (by first | assumption | exact RO.fld (by assumption) rfl) rfl ?_
        exact xo_fin rfl
      apply DrawOps.cons
      · intro τ
        refine xo_neq rfl rfl rfl rfl ?_
        first
          | exact xo_fin (congrArg Value.bool h0)
          | exact xo_fin rfl
      exact DrawOps.nil
    · rfl
    with_reducible repeat (first | refine xq_then ?_ | refine xq_blockN ?_ | refine xq_scopeN ?_)
    with_reducible repeat refine xc_seq ?_
    refine xc_condF rfl ?_
    with_reducible refine xc_skip ?_
    with_reducible repeat (first | refine xq_then ?_ | refine xq_blockN ?_ | refine xq_scopeN ?_)
    with_reducible repeat refine xc_seq ?_
    with_reducible refine xc_region ?_
    refine xo_mv rfl rfl rfl ?_
    refine xo_add rfl rfl rfl (by omega) rfl ?_
    refine xo_asg rfl rfl rfl ?_
    with_reducible refine xo_nil ?_
    with_reducible repeat (first | refine xq_then ?_ | refine xq_blockN ?_ | refine xq_scopeN ?_)
    exact xq_again _ _ _ _ _ (k + 1) (by omega) (by omega) ⟨rfl, rfl, rfl, trivial⟩ (List.Sublist.refl _)
  · have hge : ¬ k < xs.length := by have := of_decide_eq_false h; omega
    with_reducible refine xc_exit ?_
    with_reducible repeat (first | refine xq_blockX ?_ | refine xq_thenE ?_ | refine xq_blockE rfl ?_ | refine xq_scopeE ?_)
    with_reducible repeat (first | refine xq_then ?_ | refine xq_blockN ?_ | refine xq_scopeN ?_)
    with_reducible repeat refine xc_seq ?_
    with_reducible refine xc_region ?_
    refine xo_asg rfl rfl rfl ?_
    with_reducible refine xo_nil ?_
    with_reducible repeat (first | refine xq_then ?_ | refine xq_blockN ?_ | refine xq_scopeN ?_)
    with_reducible repeat refine xc_seq ?_
    with_reducible refine xc_ret ?_
    with_reducible repeat (first | refine xq_thenR ?_ | refine xq_blockR ?_ | refine xq_scopeR ?_)
    exact xq_ret1 rfl rfl fun w' hw => ⟨rfl, hw.kx.below⟩
theorem sameInts_enters : ∀ args w, (callFunc 17 args).run Tryd.prog w = .ok (.enter 17 args) w := enters_of Tryd.func17 (by kernel_rfl) rfl
theorem eqLet (d : Nat) (w : World) (x y : LetT) :
    (Op.equalIn (d + 2) 52 (.agg (letV x).toArray) (.agg (letV y).toArray)).run Tryd.prog w = .ok (x.f0 == y.f0 && (x.f1 == y.f1 && (x.f2 == y.f2 && (x.f3 == y.f3)))) w := by
  refine eqA_of Tryd.underlying52 (by kernel_rfl) ?_
  refine eqf_cons (by rfl) (by go_simp; rfl) (by go_simp; rfl) (by go_simp) ?_
  refine eqf_cons (by rfl) (by go_simp; rfl) (by go_simp; rfl) (by go_simp) ?_
  refine eqf_cons (by rfl) (by go_simp; rfl) (by go_simp; rfl) (by go_simp) ?_
  exact eqf_last (by rfl) (by go_simp; rfl) (by go_simp; rfl) (by go_simp)
section
variable {ro : Option Nat} {n N : Nat} {ds : List Deferred} {w0 : World} {X : Nat → Prop} {Q : Exit → Act → World → Prop} {σ : Slots} {η : Hp} {ops rest : List Oper} {d : Option Tmp} {ty pos aft} {g : Option (Nat × Bool)}
attribute [local go_sem high] eqLet
end
end Go.Proofs.YtcmepdamemnbkaaDoor
namespace Go.Proofs.YtcmepdamemnbkaaDoor
open Go.RowKit Go.Proofs.YtcmepdamemnbkaaDoorW.PrintWords
set_option linter.unusedVariables false
set_option linter.unusedSimpArgs false
theorem ne_ff (x : Int) : (!decide (x = x)) = false := by simp
end Go.Proofs.YtcmepdamemnbkaaDoor
namespace Go.Proofs.YtcmepdamemnbkaaDoor
open Go.RowKit Go.Proofs.YtcmepdamemnbkaaDoorW.PrintWords
set_option linter.unusedVariables false
set_option linter.unusedSimpArgs false
/-- few records of few short ways -/
def Small (r : List RecT) : Prop := r.length ≤ 13 ∧ ∀ j, j < r.length → (r.getD j zRec).f2.length ≤ 6 ∧ ∀ i, i < (r.getD j zRec).f2.length → ((r.getD j zRec).f2.getD i []).length ≤ 8
set_option maxHeartbeats 4000000 in
theorem great_calls (A B M : Option Addr) (c c' c3 m : Nat) (r : List RecT) (l : List LetT) (w : World) (hr : Kd.C recK w A r.length r) (hl : Kd.C letK w B l.length l) :
    Calls Tryd.prog 12 #[.slice A r.length c, .slice B l.length c', .slice M m c3] w fun e w' => ∃ b, e = .returned (.bool b) ∧ Below w.heap.size w w' ∧ (b = false → Small r ∧ l.length ≤ 30 ∧ m ≤ 60) := by
  have hn := hr.2.1
  refine x_calls (X := XNone) Tryd.func12 rfl rfl rfl ?_
  with_reducible repeat refine xc_seq ?_
  with_reducible refine xc_region ?_
  refine xo_asg rfl rfl rfl ?_
  with_reducible refine xo_nil ?_
  with_reducible repeat (first | refine xq_then ?_ | refine xq_blockN ?_ | refine xq_scopeN ?_)
  cases h1 : decide (13 < (r.length : Int)) <;> cases h2 : decide (30 < (l.length : Int))
  all_goals
    with_reducible repeat refine xc_seq ?_
    with_reducible refine xc_region ?_
    refine xo_mv rfl rfl rfl ?_
    refine xo_len T_ rfl rfl rfl rfl ?_
    refine xo_gtr rfl rfl rfl rfl ?_
    refine xo_mv rfl rfl rfl ?_
    refine xo_as (i := 12) rfl (congrArg Value.bool h1) ?_
    first
      | refine xo_not rfl rfl ?_
      | (refine xo_mv rfl rfl rfl ?_)
    first
      | refine xo_not rfl rfl ?_
      | (refine xo_len T_ rfl rfl rfl rfl ?_)
    first
      | refine xo_not rfl rfl ?_
      | (refine xo_gtr rfl rfl rfl rfl ?_)
    first | refine xo_pickT rfl rfl rfl rfl ?_ | refine xo_pickF rfl rfl rfl rfl ?_
    refine xo_mv rfl rfl rfl ?_
    first | refine xo_as (i := 17) rfl (congrArg Value.bool h2) ?_ | skip
    first
      | refine xo_not rfl rfl ?_
      | (refine xo_mv rfl rfl rfl ?_)
    first
      | refine xo_not rfl rfl ?_
      | (refine xo_len T_ rfl rfl rfl rfl ?_)
    first
      | refine xo_not rfl rfl ?_
      | (refine xo_gtr rfl rfl rfl rfl ?_)
    first | refine xo_pickT rfl rfl rfl rfl ?_ | refine xo_pickF rfl rfl rfl rfl ?_
    with_reducible refine xo_nil ?_
    with_reducible repeat (first | refine xq_then ?_ | refine xq_blockN ?_ | refine xq_scopeN ?_)
  rotate_left
  iterate 3
    · with_reducible repeat refine xc_seq ?_
      refine xc_condT rfl ?_
      with_reducible repeat refine xc_seq ?_
      with_reducible refine xc_region ?_
      refine xo_asg rfl rfl rfl ?_
      with_reducible refine xo_nil ?_
      with_reducible repeat (first | refine xq_then ?_ | refine xq_blockN ?_ | refine xq_scopeN ?_)
      with_reducible repeat refine xc_seq ?_
      with_reducible refine xc_ret ?_
      with_reducible repeat (first | refine xq_thenR ?_ | refine xq_blockR ?_ | refine xq_scopeR ?_)
      exact xq_ret1 rfl rfl fun w' hw => ⟨true, rfl, hw.kx.below, (fun h => by cases h)⟩
  with_reducible repeat refine xc_seq ?_
  refine xc_cond rfl (fun h3 => ?_) (fun h3 => ?_)
  · with_reducible repeat refine xc_seq ?_
    with_reducible refine xc_region ?_
    refine xo_asg rfl rfl rfl ?_
    with_reducible refine xo_nil ?_
    with_reducible repeat (first | refine xq_then ?_ | refine xq_blockN ?_ | refine xq_scopeN ?_)
    with_reducible repeat refine xc_seq ?_
    with_reducible refine xc_ret ?_
    with_reducible repeat (first | refine xq_thenR ?_ | refine xq_blockR ?_ | refine xq_scopeR ?_)
    exact xq_ret1 rfl rfl fun w' hw => ⟨true, rfl, hw.kx.below, (fun h => by cases h)⟩
  have h3 := of_decide_eq_false h3
  have h1 := of_decide_eq_false h1
  have h2 := of_decide_eq_false h2
  with_reducible refine xc_skip ?_
  with_reducible repeat (first | refine xq_then ?_ | refine xq_blockN ?_ | refine xq_scopeN ?_)
  with_reducible repeat refine xc_seq ?_
  with_reducible refine xc_region ?_
  refine xo_asg rfl rfl rfl ?_
  with_reducible refine xo_nil ?_
  with_reducible repeat (first | refine xq_then ?_ | refine xq_blockN ?_ | refine xq_scopeN ?_)
  with_reducible repeat refine xc_seq ?_
  with_reducible refine xc_block ?_
  refine xc_loop (γ := Nat) (fun k => k ≤ r.length ∧ ∀ j, j < k → (r.getD j zRec).f2.length ≤ 6 ∧ ∀ i, i < (r.getD j zRec).f2.length → ((r.getD j zRec).f2.getD i []).length ≤ 8) (fun k => [(0, .slice A r.length c), (7, .int .i64 (k : Int))]) (fun _ => []) (fun k => r.length - k) 0
    ⟨Nat.zero_le _, fun j hj => absurd hj (by simp)⟩ ⟨rfl, rfl, trivial⟩ (List.Sublist.refl _) ?_
  rintro k ⟨hk, hsm⟩
  with_reducible repeat refine xc_seq ?_
  with_reducible refine xc_region ?_
  refine xo_mv rfl rfl rfl ?_
  refine xo_mv rfl rfl rfl ?_
  refine xo_len T_ rfl rfl rfl rfl ?_
  refine xo_lss rfl rfl rfl rfl ?_
  with_reducible refine xo_nil ?_
  with_reducible repeat (first | refine xq_then ?_ | refine xq_blockN ?_ | refine xq_scopeN ?_)
  with_reducible repeat refine xc_seq ?_
  refine xc_cond rfl (fun h => ?_) (fun h => ?_)
  · have hlt : k < r.length := by have := of_decide_eq_true h; omega
    obtain ⟨ad, A2, c2, rfl, r1, hc1, hw1⟩ := rec_at hr k hlt
    generalize hxx : r.getD k zRec = x at *
    have hn2 := hw1.2.1
    with_reducible refine xc_skip ?_
    with_reducible repeat (first | refine xq_then ?_ | refine xq_blockN ?_ | refine xq_scopeN ?_)
    with_reducible repeat refine xc_seq ?_
    with_reducible refine xc_block ?_
    with_reducible repeat refine xc_seq ?_
    with_reducible refine xc_region ?_
    refine xo_mv rfl rfl rfl ?_
    refine xo_mv rfl rfl rfl ?_
    refine xo_ia T_ rfl rfl rfl rfl rfl ⟨by omega, by omega⟩ rfl ?_
    refine xo_faR T_ rfl rfl rfl rfl rfl ?_
    refine xo_loadR0 T_ rfl rfl rfl (by first | assumption | exact RO.fld (by assumption) rfl) rfl ?_
    refine xo_len T_ rfl rfl rfl rfl ?_
    refine xo_gtr rfl rfl rfl rfl ?_
    with_reducible refine xo_nil ?_
    with_reducible repeat (first | refine xq_then ?_ | refine xq_blockN ?_ | refine xq_scopeN ?_)
    with_reducible repeat refine xc_seq ?_
    refine xc_cond rfl (fun h4 => ?_) (fun h4 => ?_)
    · with_reducible repeat refine xc_seq ?_
      with_reducible refine xc_region ?_
      refine xo_asg rfl rfl rfl ?_
      with_reducible refine xo_nil ?_
      with_reducible repeat (first | refine xq_then ?_ | refine xq_blockN ?_ | refine xq_scopeN ?_)
      with_reducible repeat refine xc_seq ?_
      with_reducible refine xc_ret ?_
      with_reducible repeat (first | refine xq_thenR ?_ | refine xq_blockR ?_ | refine xq_scopeR ?_)
      exact xq_ret1 rfl rfl fun w' hw => ⟨true, rfl, hw.kx.below, (fun h => by cases h)⟩
    have h4 := of_decide_eq_false h4
    with_reducible refine xc_skip ?_
    with_reducible repeat (first | refine xq_then ?_ | refine xq_blockN ?_ | refine xq_scopeN ?_)
    with_reducible repeat refine xc_seq ?_
    with_reducible refine xc_region ?_
    refine xo_asg rfl rfl rfl ?_
    with_reducible refine xo_nil ?_
    with_reducible repeat (first | refine xq_then ?_ | refine xq_blockN ?_ | refine xq_scopeN ?_)
    with_reducible repeat refine xc_seq ?_
    with_reducible refine xc_block ?_
    refine xc_loop (γ := Nat) (fun j => j ≤ x.f2.length ∧ ∀ i, i < j → (x.f2.getD i []).length ≤ 8) (fun j => [(0, .slice (some ad) r.length c), (7, .int .i64 (k : Int)), (8, .int .i64 (j : Int))]) (fun _ => []) (fun j => x.f2.length - j) 0
      ⟨Nat.zero_le _, fun j hj => absurd hj (by simp)⟩ ⟨rfl, rfl, rfl, trivial⟩ (List.Sublist.refl _) ?_
    rintro j ⟨hj, hw8⟩
    with_reducible repeat refine xc_seq ?_
    with_reducible refine xc_region ?_
    refine xo_mv rfl rfl rfl ?_
    refine xo_mv rfl rfl rfl ?_
    refine xo_mv rfl rfl rfl ?_
    refine xo_ia T_ rfl rfl rfl rfl rfl ⟨by omega, by omega⟩ rfl ?_
    refine xo_faR T_ rfl rfl rfl rfl rfl ?_
    refine xo_loadR0 T_ rfl rfl rfl (by first | assumption | exact RO.fld (by assumption) rfl) rfl ?_
    refine xo_len T_ rfl rfl rfl rfl ?_
    refine xo_lss rfl rfl rfl rfl ?_
    with_reducible refine xo_nil ?_
    with_reducible repeat (first | refine xq_then ?_ | refine xq_blockN ?_ | refine xq_scopeN ?_)
    with_reducible repeat refine xc_seq ?_
    refine xc_cond rfl (fun h => ?_) (fun h => ?_)
    · have hjl : j < x.f2.length := by have := of_decide_eq_true h; omega
      obtain ⟨ad2, A4, c4, rfl, r3, hc3, hw3⟩ := way_at hw1 j hjl
      with_reducible refine xc_skip ?_
      with_reducible repeat (first | refine xq_then ?_ | refine xq_blockN ?_ | refine xq_scopeN ?_)
      with_reducible repeat refine xc_seq ?_
      with_reducible refine xc_block ?_
      with_reducible repeat refine xc_seq ?_
      with_reducible refine xc_region ?_
      refine xo_mv rfl rfl rfl ?_
      refine xo_mv rfl rfl rfl ?_
      refine xo_ia T_ rfl rfl rfl rfl rfl ⟨by omega, by omega⟩ rfl ?_
      refine xo_faR T_ rfl rfl rfl rfl rfl ?_
      refine xo_loadR0 T_ rfl rfl rfl (by first | assumption | exact RO.fld (by assumption) rfl) rfl ?_
      refine xo_mv rfl rfl rfl ?_
      refine xo_ia T_ rfl rfl rfl rfl rfl ⟨by omega, by omega⟩ rfl ?_
      refine xo_loadR0 T_ rfl rfl rfl (by first | assumption | exact RO.fld (by assumption) rfl) rfl ?_
      refine xo_len T_ rfl rfl rfl rfl ?_
      refine xo_gtr rfl rfl rfl rfl ?_
      with_reducible refine xo_nil ?_
      with_reducible repeat (first | refine xq_then ?_ | refine xq_blockN ?_ | refine xq_scopeN ?_)
      with_reducible repeat refine xc_seq ?_
      refine xc_cond rfl (fun h5 => ?_) (fun h5 => ?_)
      · with_reducible repeat refine xc_seq ?_
        with_reducible refine xc_region ?_
        refine xo_asg rfl rfl rfl ?_
        with_reducible refine xo_nil ?_
        with_reducible repeat (first | refine xq_then ?_ | refine xq_blockN ?_ | refine xq_scopeN ?_)
        with_reducible repeat refine xc_seq ?_
        with_reducible refine xc_ret ?_
        with_reducible repeat (first | refine xq_thenR ?_ | refine xq_blockR ?_ | refine xq_scopeR ?_)
        exact xq_ret1 rfl rfl fun w' hw => ⟨true, rfl, hw.kx.below, (fun h => by cases h)⟩
      have h5 := of_decide_eq_false h5
      with_reducible refine xc_skip ?_
      with_reducible repeat (first | refine xq_then ?_ | refine xq_blockN ?_ | refine xq_scopeN ?_)
      with_reducible repeat refine xc_seq ?_
      with_reducible refine xc_region ?_
      refine xo_mv rfl rfl rfl ?_
      refine xo_add rfl rfl rfl (by omega) rfl ?_
      refine xo_asg rfl rfl rfl ?_
      with_reducible refine xo_nil ?_
      with_reducible repeat (first | refine xq_then ?_ | refine xq_blockN ?_ | refine xq_scopeN ?_)
      refine xq_again _ _ _ _ _ (j + 1) ⟨by omega, fun i hi => ?_⟩ (by omega) ⟨rfl, rfl, rfl, trivial⟩ (List.Sublist.refl _)
      by_cases e : i = j
      · subst e; omega
      · exact hw8 i (by omega)
    · have hge : ¬ j < x.f2.length := by have := of_decide_eq_false h; omega
      with_reducible refine xc_exit ?_
      with_reducible repeat (first | refine xq_blockX ?_ | refine xq_thenE ?_ | refine xq_blockE rfl ?_ | refine xq_scopeE ?_)
      with_reducible repeat (first | refine xq_then ?_ | refine xq_blockN ?_ | refine xq_scopeN ?_)
      with_reducible repeat refine xc_seq ?_
      with_reducible refine xc_region ?_
      refine xo_mv rfl rfl rfl ?_
      refine xo_add rfl rfl rfl (by omega) rfl ?_
      refine xo_asg rfl rfl rfl ?_
      with_reducible refine xo_nil ?_
      with_reducible repeat (first | refine xq_then ?_ | refine xq_blockN ?_ | refine xq_scopeN ?_)
      refine xq_again _ _ _ _ _ (k + 1) ⟨by omega, fun i hi => ?_⟩ (by omega) ⟨rfl, rfl, trivial⟩ (List.Sublist.refl _)
      by_cases e : i = k
      · subst e
        rw [hxx]
        exact ⟨by omega, fun i hi => hw8 i (by omega)⟩
      · exact hsm i (by omega)
  · have hge : ¬ k < r.length := by have := of_decide_eq_false h; omega
    with_reducible refine xc_exit ?_
    with_reducible repeat (first | refine xq_blockX ?_ | refine xq_thenE ?_ | refine xq_blockE rfl ?_ | refine xq_scopeE ?_)
    with_reducible repeat (first | refine xq_then ?_ | refine xq_blockN ?_ | refine xq_scopeN ?_)
    with_reducible repeat refine xc_seq ?_
    with_reducible refine xc_region ?_
    refine xo_asg rfl rfl rfl ?_
    with_reducible refine xo_nil ?_
    with_reducible repeat (first | refine xq_then ?_ | refine xq_blockN ?_ | refine xq_scopeN ?_)
    with_reducible repeat refine xc_seq ?_
    with_reducible refine xc_ret ?_
    with_reducible repeat (first | refine xq_thenR ?_ | refine xq_blockR ?_ | refine xq_scopeR ?_)
    exact xq_ret1 rfl rfl fun w' hw => ⟨false, rfl, hw.kx.below, fun _ => ⟨⟨by omega, fun j hj => hsm j (by omega)⟩, by omega, by omega⟩⟩
theorem great_enters : ∀ args w, (callFunc 12 args).run Tryd.prog w = .ok (.enter 12 args) w := enters_of Tryd.func12 (by kernel_rfl) rfl
end Go.Proofs.YtcmepdamemnbkaaDoor
namespace Go.Proofs.YtcmepdamemnbkaaDoor
open Go.RowKit Go.Proofs.YtcmepdamemnbkaaDoorW.PrintWords
set_option linter.unusedVariables false
set_option linter.unusedSimpArgs false
def idAt (r : List RecT) (k : Nat) : Int := (r.getD k zRec).f0
def SortedIds (r : List RecT) : Prop := ∀ j, j + 1 < r.length → idAt r j < idAt r (j + 1)
def pastAt (l : List Int) (j : Nat) : Int := if j = 0 then -1 else l.getD (j - 1) 0
theorem recF_sorted : ∀ (r : List RecT) (bs : List Int) (last : Int), recF bs last r = true → (∀ j, j < r.length → last < idAt r j) ∧ SortedIds r
  | [], _, _, _ => ⟨fun j hj => absurd hj (by simp), fun j hj => absurd hj (by simp)⟩
  | x :: r, bs, last, h => by
    simp only [recF, Bool.and_eq_true] at h
    obtain ⟨⟨⟨h1, _⟩, _⟩, _, h2⟩ := h
    simp only [inF, Bool.and_eq_true, decide_eq_true_eq] at h1
    obtain ⟨h3, h4⟩ := recF_sorted r _ _ h2
    refine ⟨fun j hj => ?_, fun j hj => ?_⟩
    · cases j with
      | zero => simp [idAt]; omega
      | succ j =>
        have := h3 j (by simpa using hj)
        simp [idAt] at this ⊢
        omega
    · cases j with
      | zero =>
        have := h3 0 (by simpa using hj)
        simpa [idAt] using this
      | succ j =>
        have := h4 j (by simpa using hj)
        simpa [idAt] using this
theorem recorded_sorted {r : List RecT} (h : ¬ SortedIds r) : recordedF r = false := by
  cases h1 : recordedF r with
  | false => rfl
  | true =>
    simp only [recordedF, Bool.and_eq_true] at h1
    exact absurd (recF_sorted r _ _ h1.1).2 h
theorem sorted_lt {r : List RecT} (h : SortedIds r) : ∀ j i, i < j → j < r.length → idAt r i < idAt r j
  | 0, i, h1, _ => absurd h1 (by omega)
  | j + 1, i, h1, h2 => by
    have h3 := h j h2
    by_cases e : i = j
    · subst e; exact h3
    · have := sorted_lt h j i (by omega) (by omega)
      omega
theorem atF_neg (r : List RecT) (n : Int) : decide (atF r n < 0) = !knownF r n := by
  have := idxF_any (fun x : RecT => decide (x.f0 = n)) r 0
  unfold atF knownF
  rw [← this]
  by_cases h : idxF (fun x : RecT => decide (x.f0 = n)) r 0 < 0
  · simp [h]
  · simp [h]; omega
theorem knownF_iff {r : List RecT} {n : Int} : knownF r n = true ↔ ∃ i, i < r.length ∧ idAt r i = n := by
  unfold knownF
  simp only [List.any_eq_true, decide_eq_true_eq]
  constructor
  · rintro ⟨x, hx, rfl⟩
    obtain ⟨i, hi, rfl⟩ := List.getElem_of_mem hx
    exact ⟨i, hi, by simp [idAt, List.getD_eq_getElem?_getD, List.getElem?_eq_getElem hi]⟩
  · rintro ⟨i, hi, rfl⟩
    exact ⟨r.getD i zRec, getD_mem r zRec i hi, rfl⟩
/-- one number of a way: what the reference asks is what trust asks -/
theorem way_step {r : List RecT} (hs : SortedIds r) {k : Nat} (hk : k < r.length) {bs : List Int} (hbs : ∀ n, n ∈ bs ↔ ∃ i, i < k ∧ idAt r i = n) (h0 : ∀ i, i < k → 0 ≤ idAt r i) (way : List Int) (j : Nat) (n : Int) :
    (decide (idAt r k ≤ n) || decide (atF r n < 0) || (decide (0 < (j : Int)) && decide (n ≤ way.getD (j - 1) 0))) = (decide (n ≤ pastAt way j) || !decide (n ∈ bs)) := by
  have hkn : n ∈ bs ↔ knownF r n = true ∧ n < idAt r k := by
    rw [hbs, knownF_iff]
    constructor
    · rintro ⟨i, hi, rfl⟩
      exact ⟨⟨i, by omega, rfl⟩, sorted_lt hs k i hi hk⟩
    · rintro ⟨⟨i, hi, rfl⟩, h2⟩
      refine ⟨i, ?_, rfl⟩
      by_cases hik : i < k
      · exact hik
      · exfalso
        by_cases e : i = k
        · subst e; omega
        · have := sorted_lt hs i k (by omega) hi
          omega
  have hpos : n ∈ bs → 0 ≤ n := fun h => by
    obtain ⟨i, hi, rfl⟩ := (hbs n).1 h
    exact h0 i hi
  rw [atF_neg, Bool.eq_iff_iff]
  simp only [Bool.or_eq_true, Bool.and_eq_true, decide_eq_true_eq, Bool.not_eq_true', decide_eq_false_iff_not, hkn, pastAt]
  cases hkb : knownF r n
  · simp
  · simp only [hkb, true_and] at hkn
    by_cases hj : j = 0
    · subst hj
      simp
      intro h
      exact Classical.byContradiction fun q => absurd (hpos (hkn.2 (by omega))) (by omega)
    · simp [hj, show 0 < j by omega]
      constructor
      · rintro (h | h)
        · exact .inr h
        · exact .inl h
      · rintro (h | h)
        · exact .inr h
        · exact .inl h
theorem rec_at' {w : World} {ad : Addr} {r : List RecT} (h : Kd.C recK w (some ad) r.length r) (k : Nat) (hk : k < r.length) (h0 : 0 < (k : Int)) :
    ∃ A2 c2, RO w XNone (ad.add (((k : Int) - 1).toNat * szN 3)) (recV (r.getD (k - 1) zRec) A2 c2) := by
  obtain ⟨ad2, A2, c2, e, h1, _⟩ := rec_at h (k - 1) (by omega)
  cases e
  rw [show ((k : Int) - 1).toNat = ((k - 1 : Nat) : Int).toNat by omega]
  exact ⟨A2, c2, h1⟩
theorem int_at' {w : World} {ad : Addr} {n : Nat} {zs : List Int} (h : Kd.C (Kd.int .i64) w (some ad) n zs) (k : Nat) (hk : k < n) (h0 : 0 < (k : Int)) : RO w XNone (ad.add (((k : Int) - 1).toNat * szN 0)) [.int .i64 (zs.getD (k - 1) 0)] := by
  obtain ⟨ad2, e, h1⟩ := int_at h (k - 1) (by omega)
  cases e
  rw [show ((k : Int) - 1).toNat = ((k - 1 : Nat) : Int).toNat by omega]
  exact h1
theorem waysF_false {bs : List Int} {l : List (List Int)} {k : Nat} (hk : k < l.length) (h : (wayF bs (-1) (l.getD k []) && inF 1 4 (l.getD k []).length) = false) : waysF bs l = false := by
  cases h1 : waysF bs l with
  | false => rfl
  | true =>
    rw [waysF, List.all_eq_true] at h1
    rw [h1 _ (getD_mem l [] k hk)] at h
    cases h
theorem waysF_true {bs : List Int} {l : List (List Int)} (h : ∀ k, k < l.length → (wayF bs (-1) (l.getD k []) && inF 1 4 (l.getD k []).length) = true) : waysF bs l = true := by
  rw [waysF, List.all_eq_true]
  intro x hx
  obtain ⟨i, hi, rfl⟩ := List.getElem_of_mem hx
  have := h i hi
  simpa [List.getD_eq_getElem?_getD, List.getElem?_eq_getElem hi] using this
end Go.Proofs.YtcmepdamemnbkaaDoor
namespace Go.Proofs.YtcmepdamemnbkaaDoor
open Go.RowKit Go.Proofs.YtcmepdamemnbkaaDoorW.PrintWords
set_option linter.unusedVariables false
set_option linter.unusedSimpArgs false
def bad1 (r : List RecT) (k : Nat) (x : RecT) : Bool := !inF 0 9999 x.f0 || (decide (0 < (k : Int)) && decide (x.f0 ≤ (r.getD (k - 1) zRec).f0)) || !inF 1 4 x.f1
def bad2 (x : RecT) : Bool := (decide (x.f1 ≤ 2) && !decide ((x.f2.length : Int) = 0)) || (decide (2 < x.f1) && !inF 1 3 x.f2.length)
def bad3 (r : List RecT) (x : RecT) (way : List Int) (j : Nat) : Bool := decide (x.f0 ≤ way.getD j 0) || decide (atF r (way.getD j 0) < 0) || (decide (0 < (j : Int)) && decide (way.getD j 0 ≤ way.getD (j - 1) 0))
theorem inF_step (p x : Int) (hp : 0 ≤ p) : inF (p + 1) 9999 x = (inF 0 9999 x && !decide (x ≤ p)) := by
  rw [Bool.eq_iff_iff]
  simp [inF]
  omega
theorem bad12 {r : List RecT} {k : Nat} {x : RecT} {last : Int} (hlast : last = if k = 0 then -1 else idAt r (k - 1)) (h0 : ∀ i, i < k → 0 ≤ idAt r i) :
    (inF (last + 1) 9999 x.f0 && inF 1 4 x.f1 && inF (if 3 ≤ x.f1 then 1 else 0) (mostF x.f1) x.f2.length) = (!bad1 r k x && !bad2 x) := by
  subst hlast
  have h1 : inF ((if k = 0 then -1 else idAt r (k - 1)) + 1) 9999 x.f0 = (inF 0 9999 x.f0 && !(decide (0 < (k : Int)) && decide (x.f0 ≤ (r.getD (k - 1) zRec).f0))) := by
    by_cases hk : k = 0
    · subst hk; simp [inF]
    · have := h0 (k - 1) (by omega)
      have e0 : decide (0 < (k : Int)) = true := decide_eq_true (by omega)
      rw [if_neg hk, e0, Bool.true_and]
      exact inF_step _ _ this
  have h2 : inF (if 3 ≤ x.f1 then 1 else 0) (mostF x.f1) x.f2.length = !bad2 x := by
    by_cases h : 3 ≤ x.f1
    · rw [if_pos h, mostF, if_pos h, bad2, decide_eq_false (by omega : ¬ x.f1 ≤ 2), decide_eq_true (by omega : 2 < x.f1)]
      simp
    · rw [if_neg h, mostF, if_neg h, bad2, decide_eq_true (by omega : x.f1 ≤ 2), decide_eq_false (by omega : ¬ 2 < x.f1)]
      by_cases e : (x.f2.length : Int) = 0
      · simp [inF, e]
      · simp [inF, e]
  rw [h1, h2, bad1]
  cases inF 0 9999 x.f0 <;> cases (decide (0 < (k : Int)) && decide (x.f0 ≤ (r.getD (k - 1) zRec).f0)) <;> cases inF 1 4 x.f1 <;> cases bad2 x <;> rfl
set_option maxHeartbeats 16000000 in
theorem records_calls (A : Option Addr) (c : Nat) (r : List RecT) (w : World) (hr : Kd.C recK w A r.length r) (hk : Bytes r) :
    Calls Tryd.prog 46 #[.slice A r.length c] w fun e w' => e = .returned (.bool (recordedF r)) ∧ Below w.heap.size w w' := by
  have hn := hr.2.1
  refine x_calls (X := XNone) Tryd.func46 rfl rfl rfl ?_
  with_reducible repeat refine xc_seq ?_
  with_reducible refine xc_region ?_
  refine xo_asg rfl rfl rfl ?_
  with_reducible refine xo_nil ?_
  with_reducible repeat (first | refine xq_then ?_ | refine xq_blockN ?_ | refine xq_scopeN ?_)
  with_reducible repeat refine xc_seq ?_
  with_reducible refine xc_region ?_
  refine xo_mv rfl rfl rfl ?_
  refine xo_len T_ rfl rfl rfl rfl ?_
  refine xo_gtr rfl rfl rfl rfl ?_
  with_reducible refine xo_nil ?_
  with_reducible repeat (first | refine xq_then ?_ | refine xq_blockN ?_ | refine xq_scopeN ?_)
  with_reducible repeat refine xc_seq ?_
  refine xc_cond rfl (fun h12 => ?_) (fun h12 => ?_)
  · with_reducible repeat refine xc_seq ?_
    with_reducible refine xc_region ?_
    refine xo_asg rfl rfl rfl ?_
    with_reducible refine xo_nil ?_
    with_reducible repeat (first | refine xq_then ?_ | refine xq_blockN ?_ | refine xq_scopeN ?_)
    with_reducible repeat refine xc_seq ?_
    with_reducible refine xc_ret ?_
    with_reducible repeat (first | refine xq_thenR ?_ | refine xq_blockR ?_ | refine xq_scopeR ?_)
    have h12 := of_decide_eq_true h12
    exact xq_ret1 rfl rfl fun w' hw => ⟨by rw [recordedF, decide_eq_false (by omega), Bool.and_false], hw.kx.below⟩
  have h12 := of_decide_eq_false h12
  have hrecd : recordedF r = recF [] (-1) r := by rw [recordedF, decide_eq_true (by omega), Bool.and_true]
  with_reducible refine xc_skip ?_
  with_reducible repeat (first | refine xq_then ?_ | refine xq_blockN ?_ | refine xq_scopeN ?_)
  with_reducible repeat refine xc_seq ?_
  with_reducible refine xc_region ?_
  refine xo_asg rfl rfl rfl ?_
  with_reducible refine xo_nil ?_
  with_reducible repeat (first | refine xq_then ?_ | refine xq_blockN ?_ | refine xq_scopeN ?_)
  with_reducible repeat refine xc_seq ?_
  with_reducible refine xc_block ?_
  refine xc_loop (γ := Nat × List Int) (fun q => q.1 ≤ r.length ∧ (∀ j, j + 1 < q.1 → idAt r j < idAt r (j + 1)) ∧ (∀ i, i < q.1 → 0 ≤ idAt r i) ∧ (∀ n, n ∈ q.2 ↔ ∃ i, i < q.1 ∧ idAt r i = n) ∧ (SortedIds r → recordedF r = recF q.2 (if q.1 = 0 then -1 else idAt r (q.1 - 1)) (r.drop q.1)))
    (fun q => [(0, .slice A r.length c), (3, .int .i64 (q.1 : Int))]) (fun _ => []) (fun q => r.length - q.1) (0, [])
    ⟨Nat.zero_le _, fun j hj => absurd hj (by simp), fun j hj => absurd hj (by simp), fun n => by simp, fun _ => by simpa using hrecd⟩ ⟨rfl, rfl, trivial⟩ (List.Sublist.refl _) ?_
  rintro ⟨k, bs⟩ ⟨hk1, hsrt, h0, hbs, hrec⟩
  simp only at hk1 hsrt h0 hbs hrec ⊢
  with_reducible repeat refine xc_seq ?_
  with_reducible refine xc_region ?_
  refine xo_mv rfl rfl rfl ?_
  refine xo_mv rfl rfl rfl ?_
  refine xo_len T_ rfl rfl rfl rfl ?_
  refine xo_lss rfl rfl rfl rfl ?_
  with_reducible refine xo_nil ?_
  with_reducible repeat (first | refine xq_then ?_ | refine xq_blockN ?_ | refine xq_scopeN ?_)
  with_reducible repeat refine xc_seq ?_
  refine xc_cond rfl (fun h => ?_) (fun h => ?_)
  · have hlt : k < r.length := by have := of_decide_eq_true h; omega
    obtain ⟨ad, A2, c2, rfl, r1, hc2, hw2⟩ := rec_at hr k hlt
    have hprev : decide (0 < (k : Int)) = false ∨ (decide (0 < (k : Int)) = true ∧ 0 < (k : Int) ∧ ∃ A3 c3, RO w XNone (ad.add (((k : Int) - 1).toNat * szN 3)) (recV (r.getD (k - 1) zRec) A3 c3)) := by
      by_cases e : 0 < (k : Int)
      · exact .inr ⟨decide_eq_true e, e, rec_at' hr k hlt e⟩
      · exact .inl (decide_eq_false e)
    have hby := hk _ (getD_mem r zRec k hlt)
    have hbad : ((!bad1 r k (r.getD k zRec) && !bad2 (r.getD k zRec)) && waysF bs (r.getD k zRec).f2) = false → recordedF r = false := fun hf => by
      by_cases hs : SortedIds r
      · rw [hrec hs, drop_at r zRec k hlt, recF, bad12 rfl h0]
        rw [← Bool.and_assoc, hf, Bool.false_and]
      · exact recorded_sorted hs
    have hgood : ((!bad1 r k (r.getD k zRec) && !bad2 (r.getD k zRec)) && waysF bs (r.getD k zRec).f2) = true → SortedIds r → recordedF r = recF (insN (idAt r k) bs) (idAt r k) (r.drop (k + 1)) := fun hf hs => by
      rw [hrec hs, drop_at r zRec k hlt, recF, bad12 rfl h0]
      rw [← Bool.and_assoc, hf, Bool.true_and]
      rfl
    have hstep := fun hs : SortedIds r => way_step hs hlt hbs h0
    have hid : idAt r k = (r.getD k zRec).f0 := rfl
    generalize r.getD k zRec = x at *
    have hn2 := hw2.2.1
    with_reducible refine xc_skip ?_
    with_reducible repeat (first | refine xq_then ?_ | refine xq_blockN ?_ | refine xq_scopeN ?_)
    with_reducible repeat refine xc_seq ?_
    with_reducible refine xc_block ?_
    with_reducible repeat refine xc_seq ?_
    with_reducible refine xc_region ?_
    refine xo_mv rfl rfl rfl ?_
    refine xo_mv rfl rfl rfl ?_
    refine xo_ia T_ rfl rfl rfl rfl rfl ⟨by omega, by omega⟩ rfl ?_
    refine xo_loadRN T_ rfl rfl rfl (by assumption) rfl rfl ?_
    refine xo_alloc T_ rfl rfl rfl rfl (fun b4 => ?_)
    refine xo_store T_ rfl rfl rfl rfl (by repeat (first | exact List.Mem.head _ | apply List.Mem.tail | apply List.mem_append_right)) rfl rfl rfl rfl (by repeat (first | exact Upd.head | apply Upd.tail | apply Upd.app)) rfl ?_
    with_reducible refine xo_nil ?_
    with_reducible repeat (first | refine xq_then ?_ | refine xq_blockN ?_ | refine xq_scopeN ?_)
    with_reducible refine xc_seq ?_
    refine xc_cut (γ := Unit) (fun _ => True) (fun _ => [(0, .slice (some ad) r.length c), (3, .int .i64 (k : Int)), (4, .pointer (some ⟨b4, 0, none⟩)), (46, .bool (bad1 r k x))]) (fun _ => [(b4, true, cel (recV x A2 c2) 50)]) ?_ (fun _ _ => ?_)
    · rcases hprev with h2 | ⟨h2, h2', A3, c3, r2⟩ <;> cases h1 : !inF 0 9999 x.f0 <;> cases h3 : decide (x.f0 ≤ (r.getD (k - 1) zRec).f0) <;> cases h4 : !inF 1 4 x.f1
      all_goals
        with_reducible repeat refine xc_seq ?_
        apply xc_drawN
        · exact T_.mixed
        · rfl
        · rfl
        · rfl
        · rfl
        · apply DrawOps.cons
          · intro τ
            refine xo_fa T_ rfl rfl rfl rfl rfl ?_
            exact xo_fin rfl
          apply DrawOps.cons
          · intro τ
            refine xo_load0 T_ rfl rfl rfl (by repeat (first | exact List.Mem.head _ | apply List.Mem.tail | apply List.mem_append_right)) rfl rfl ?_
            exact xo_fin rfl
          apply DrawOps.cons
          · intro τ
            refine xo_callB (fs := []) (cs := []) rfl rfl rfl within_enters rfl (fun w1 hw1 => within_calls _ _ _ w1) ?_
            exact xo_fin rfl
          apply DrawOps.cons
          · intro τ
            refine xo_notOp rfl rfl rfl ?_
            first
              | exact xo_fin (congrArg Value.bool h1)
              | exact xo_fin rfl
          apply DrawOps.cons
          · intro τ
            refine xo_mv rfl rfl rfl ?_
            exact xo_fin rfl
          apply DrawOps.cons
          · intro τ
            first
              | refine xo_not rfl rfl ?_
              | (refine xo_mv rfl rfl rfl ?_)
            exact xo_fin rfl
          apply DrawOps.cons
          · intro τ
            first
              | refine xo_not rfl rfl ?_
              | (refine xo_gtr rfl rfl rfl rfl ?_)
            first
              | exact xo_fin (congrArg Value.bool h2)
              | exact xo_fin rfl
          apply DrawOps.cons
          · intro τ
            first
              | refine xo_not rfl rfl ?_
              | (refine xo_mv rfl rfl rfl ?_)
            exact xo_fin rfl
          apply DrawOps.cons
          · intro τ
            first
              | refine xo_not rfl rfl ?_
              | (refine xo_fa T_ rfl rfl rfl rfl rfl ?_)
            exact xo_fin rfl
          apply DrawOps.cons
          · intro τ
            first
              | refine xo_not rfl rfl ?_
              | (refine xo_load0 T_ rfl rfl rfl (by repeat (first | exact List.Mem.head _ | apply List.Mem.tail | apply List.mem_append_right)) rfl rfl ?_)
            exact xo_fin rfl
          apply DrawOps.cons
          · intro τ
            first
              | refine xo_not rfl rfl ?_
              | (refine xo_mv rfl rfl rfl ?_)
            exact xo_fin rfl
          apply DrawOps.cons
          · intro τ
            first
              | refine xo_not rfl rfl ?_
              | (refine xo_mv rfl rfl rfl ?_)
            exact xo_fin rfl
          apply DrawOps.cons
          · intro τ
            first
              | refine xo_not rfl rfl ?_
              | (refine xo_sub rfl rfl rfl (by omega) rfl ?_)
            exact xo_fin rfl
          apply DrawOps.cons
          · intro τ
            first
              | refine xo_not rfl rfl ?_
              | (refine xo_ia T_ rfl rfl rfl rfl rfl ⟨by omega, by omega⟩ rfl ?_)
            exact xo_fin rfl
          apply DrawOps.cons
          · intro τ
            first
              | refine xo_not rfl rfl ?_
              | (refine xo_faR T_ rfl rfl rfl rfl rfl ?_)
            exact xo_fin rfl
          apply DrawOps.cons
          · intro τ
            first
              | refine xo_not rfl rfl ?_
              | (refine xo_loadR0 T_ rfl rfl rfl (by first | assumption | exact RO.fld (by assumption) rfl) rfl ?_)
            exact xo_fin rfl
          apply DrawOps.cons
          · intro τ
            first
              | refine xo_not rfl rfl ?_
              | (refine xo_leq rfl rfl rfl rfl ?_)
            first
              | exact xo_fin (congrArg Value.bool h3)
              | exact xo_fin rfl
          apply DrawOps.cons
          · intro τ
            first
              | refine xo_not rfl rfl ?_
              | (first | refine xo_pickT rfl rfl rfl rfl ?_ | refine xo_pickF rfl rfl rfl rfl ?_)
            exact xo_fin rfl
          apply DrawOps.cons
          · intro τ
            first | refine xo_pickT rfl rfl rfl rfl ?_ | refine xo_pickF rfl rfl rfl rfl ?_
            exact xo_fin rfl
          apply DrawOps.cons
          · intro τ
            refine xo_mv rfl rfl rfl ?_
            exact xo_fin rfl
          apply DrawOps.cons
          · intro τ
            first
              | refine xo_not rfl rfl ?_
              | (refine xo_fa T_ rfl rfl rfl rfl rfl ?_)
            exact xo_fin rfl
          apply DrawOps.cons
          · intro τ
            first
              | refine xo_not rfl rfl ?_
              | (refine xo_load0 T_ rfl rfl rfl (by repeat (first | exact List.Mem.head _ | apply List.Mem.tail | apply List.mem_append_right)) rfl rfl ?_)
            exact xo_fin rfl
          apply DrawOps.cons
          · intro τ
            first
              | refine xo_not rfl rfl ?_
              | (refine xo_conv T_ rfl rfl rfl rfl (IntWalk.i64_in _ ⟨by omega, by omega⟩) rfl ?_)
            exact xo_fin rfl
          apply DrawOps.cons
          · intro τ
            first
              | refine xo_not rfl rfl ?_
              | (refine xo_callB (fs := []) (cs := []) rfl rfl rfl within_enters rfl (fun w1 hw1 => within_calls _ _ _ w1) ?_)
            exact xo_fin rfl
          apply DrawOps.cons
          · intro τ
            first
              | refine xo_not rfl rfl ?_
              | (refine xo_notOp rfl rfl rfl ?_)
            first
              | exact xo_fin (congrArg Value.bool h4)
              | exact xo_fin rfl
          apply DrawOps.cons
          · intro τ
            first | refine xo_pickT rfl rfl rfl rfl ?_ | refine xo_pickF rfl rfl rfl rfl ?_
            exact xo_fin rfl
          exact DrawOps.nil
        · rfl
        with_reducible repeat (first | refine xq_then ?_ | refine xq_blockN ?_ | refine xq_scopeN ?_)
        exact xq_meet _ _ _ () trivial ⟨rfl, rfl, rfl, by rw [bad1, h1, h2, h3, h4]; rfl, trivial⟩ (by repeat (first | exact List.Sublist.refl _ | apply List.Sublist.cons_cons | apply List.Sublist.cons | exact List.nil_sublist _))
    with_reducible repeat refine xc_seq ?_
    refine xc_cond rfl (fun h46 => ?_) (fun h46 => ?_)
    · with_reducible repeat refine xc_seq ?_
      with_reducible refine xc_region ?_
      refine xo_asg rfl rfl rfl ?_
      with_reducible refine xo_nil ?_
      with_reducible repeat (first | refine xq_then ?_ | refine xq_blockN ?_ | refine xq_scopeN ?_)
      with_reducible repeat refine xc_seq ?_
      with_reducible refine xc_ret ?_
      with_reducible repeat (first | refine xq_thenR ?_ | refine xq_blockR ?_ | refine xq_scopeR ?_)
      exact xq_ret1 rfl rfl fun w' hw => ⟨by rw [hbad (by rw [h46]; rfl)], hw.kx.below⟩
    with_reducible refine xc_skip ?_
    with_reducible repeat (first | refine xq_then ?_ | refine xq_blockN ?_ | refine xq_scopeN ?_)
    with_reducible refine xc_seq ?_
    refine xc_cut (γ := Unit) (fun _ => True) (fun _ => [(0, .slice (some ad) r.length c), (3, .int .i64 (k : Int)), (4, .pointer (some ⟨b4, 0, none⟩)), (67, .bool (bad2 x))]) (fun _ => [(b4, true, cel (recV x A2 c2) 50)]) ?_ (fun _ _ => ?_)
    · cases h5 : decide (x.f1 ≤ 2) <;> cases h6 : !decide ((x.f2.length : Int) = 0) <;> cases h7 : decide (2 < x.f1) <;> cases h8 : !inF 1 3 x.f2.length
      all_goals
        with_reducible repeat refine xc_seq ?_
        with_reducible refine xc_region ?_
        refine xo_fa T_ rfl rfl rfl rfl rfl ?_
        refine xo_load0 T_ rfl rfl rfl (by repeat (first | exact List.Mem.head _ | apply List.Mem.tail | apply List.mem_append_right)) rfl rfl ?_
        refine xo_leq rfl rfl rfl rfl ?_
        refine xo_as (i := 49) rfl (congrArg Value.bool h5) ?_
        refine xo_mv rfl rfl rfl ?_
        first
          | refine xo_not rfl rfl ?_
          | (refine xo_fa T_ rfl rfl rfl rfl rfl ?_)
        first
          | refine xo_not rfl rfl ?_
          | (refine xo_load0 T_ rfl rfl rfl (by repeat (first | exact List.Mem.head _ | apply List.Mem.tail | apply List.mem_append_right)) rfl rfl ?_)
        first
          | refine xo_not rfl rfl ?_
          | (refine xo_len T_ rfl rfl rfl rfl ?_)
        first
          | refine xo_not rfl rfl ?_
          | (refine xo_neq rfl rfl rfl rfl ?_)
        first | refine xo_as (i := 54) rfl (congrArg Value.bool h6) ?_ | skip
        first | refine xo_pickT rfl rfl rfl rfl ?_ | refine xo_pickF rfl rfl rfl rfl ?_
        refine xo_mv rfl rfl rfl ?_
        first
          | refine xo_not rfl rfl ?_
          | (refine xo_fa T_ rfl rfl rfl rfl rfl ?_)
        first
          | refine xo_not rfl rfl ?_
          | (refine xo_load0 T_ rfl rfl rfl (by repeat (first | exact List.Mem.head _ | apply List.Mem.tail | apply List.mem_append_right)) rfl rfl ?_)
        first
          | refine xo_not rfl rfl ?_
          | (refine xo_gtr rfl rfl rfl rfl ?_)
        first | refine xo_as (i := 59) rfl (congrArg Value.bool h7) ?_ | skip
        first
          | refine xo_not rfl rfl ?_
          | (refine xo_mv rfl rfl rfl ?_)
        first
          | refine xo_not rfl rfl ?_
          | (refine xo_fa T_ rfl rfl rfl rfl rfl ?_)
        first
          | refine xo_not rfl rfl ?_
          | (refine xo_load0 T_ rfl rfl rfl (by repeat (first | exact List.Mem.head _ | apply List.Mem.tail | apply List.mem_append_right)) rfl rfl ?_)
        first
          | refine xo_not rfl rfl ?_
          | (refine xo_len T_ rfl rfl rfl rfl ?_)
        first
          | refine xo_not rfl rfl ?_
          | (refine xo_callB (fs := []) (cs := []) rfl rfl rfl within_enters rfl (fun w1 hw1 => within_calls _ _ _ w1) ?_)
        first
          | refine xo_not rfl rfl ?_
          | (refine xo_notOp rfl rfl rfl ?_)
        first | refine xo_as (i := 65) rfl (congrArg Value.bool h8) ?_ | skip
        first
          | refine xo_not rfl rfl ?_
          | (first | refine xo_pickT rfl rfl rfl rfl ?_ | refine xo_pickF rfl rfl rfl rfl ?_)
        first | refine xo_pickT rfl rfl rfl rfl ?_ | refine xo_pickF rfl rfl rfl rfl ?_
        with_reducible refine xo_nil ?_
        with_reducible repeat (first | refine xq_then ?_ | refine xq_blockN ?_ | refine xq_scopeN ?_)
        exact xq_meet _ _ _ () trivial ⟨rfl, rfl, rfl, by rw [bad2, h5, h6, h7, h8]; rfl, trivial⟩ (by repeat (first | exact List.Sublist.refl _ | apply List.Sublist.cons_cons | apply List.Sublist.cons | exact List.nil_sublist _))
    with_reducible repeat refine xc_seq ?_
    refine xc_cond rfl (fun h67 => ?_) (fun h67 => ?_)
    · with_reducible repeat refine xc_seq ?_
      with_reducible refine xc_region ?_
      refine xo_asg rfl rfl rfl ?_
      with_reducible refine xo_nil ?_
      with_reducible repeat (first | refine xq_then ?_ | refine xq_blockN ?_ | refine xq_scopeN ?_)
      with_reducible repeat refine xc_seq ?_
      with_reducible refine xc_ret ?_
      with_reducible repeat (first | refine xq_thenR ?_ | refine xq_blockR ?_ | refine xq_scopeR ?_)
      exact xq_ret1 rfl rfl fun w' hw => ⟨by rw [hbad (by rw [h67, Bool.not_true, Bool.and_false, Bool.false_and])], hw.kx.below⟩
    rw [h46, h67] at hbad hgood
    simp only [Bool.not_false, Bool.and_self, Bool.true_and] at hbad hgood
    with_reducible refine xc_skip ?_
    with_reducible repeat (first | refine xq_then ?_ | refine xq_blockN ?_ | refine xq_scopeN ?_)
    with_reducible repeat refine xc_seq ?_
    with_reducible refine xc_region ?_
    refine xo_asg rfl rfl rfl ?_
    with_reducible refine xo_nil ?_
    with_reducible repeat (first | refine xq_then ?_ | refine xq_blockN ?_ | refine xq_scopeN ?_)
    with_reducible repeat refine xc_seq ?_
    with_reducible refine xc_block ?_
    refine xc_loop (γ := Nat) (fun i => i ≤ x.f2.length ∧ (SortedIds r → ∀ i', i' < i → (wayF bs (-1) (x.f2.getD i' []) && inF 1 4 (x.f2.getD i' []).length) = true))
      (fun i => [(0, .slice (some ad) r.length c), (3, .int .i64 (k : Int)), (4, .pointer (some ⟨b4, 0, none⟩)), (5, .int .i64 (i : Int))]) (fun _ => [(b4, true, cel (recV x A2 c2) 50)]) (fun i => x.f2.length - i) 0
      ⟨Nat.zero_le _, fun _ j hj => absurd hj (by simp)⟩ ⟨rfl, rfl, rfl, rfl, trivial⟩ (by repeat (first | exact List.Sublist.refl _ | apply List.Sublist.cons_cons | apply List.Sublist.cons | exact List.nil_sublist _)) ?_
    rintro i ⟨hi1, hways⟩
    with_reducible repeat refine xc_seq ?_
    with_reducible refine xc_region ?_
    refine xo_mv rfl rfl rfl ?_
    refine xo_fa T_ rfl rfl rfl rfl rfl ?_
    refine xo_load0 T_ rfl rfl rfl (by repeat (first | exact List.Mem.head _ | apply List.Mem.tail | apply List.mem_append_right)) rfl rfl ?_
    refine xo_len T_ rfl rfl rfl rfl ?_
    refine xo_lss rfl rfl rfl rfl ?_
    with_reducible refine xo_nil ?_
    with_reducible repeat (first | refine xq_then ?_ | refine xq_blockN ?_ | refine xq_scopeN ?_)
    with_reducible repeat refine xc_seq ?_
    refine xc_cond rfl (fun h => ?_) (fun h => ?_)
    · have hil : i < x.f2.length := by have := of_decide_eq_true h; omega
      obtain ⟨ad2, A4, c4, rfl, r3, hc3, hw3⟩ := way_at hw2 i hil
      have hwf := @waysF_false bs x.f2 i hil
      generalize hway : x.f2.getD i [] = way at *
      have hn3 := hw3.2.1
      with_reducible refine xc_skip ?_
      with_reducible repeat (first | refine xq_then ?_ | refine xq_blockN ?_ | refine xq_scopeN ?_)
      with_reducible repeat refine xc_seq ?_
      with_reducible refine xc_block ?_
      with_reducible repeat refine xc_seq ?_
      with_reducible refine xc_region ?_
      refine xo_fa T_ rfl rfl rfl rfl rfl ?_
      refine xo_load0 T_ rfl rfl rfl (by repeat (first | exact List.Mem.head _ | apply List.Mem.tail | apply List.mem_append_right)) rfl rfl ?_
      refine xo_mv rfl rfl rfl ?_
      refine xo_ia T_ rfl rfl rfl rfl rfl ⟨by omega, by omega⟩ rfl ?_
      refine xo_loadR0 T_ rfl rfl rfl (by first | assumption | exact RO.fld (by assumption) rfl) rfl ?_
      refine xo_asg rfl rfl rfl ?_
      with_reducible refine xo_nil ?_
      with_reducible repeat (first | refine xq_then ?_ | refine xq_blockN ?_ | refine xq_scopeN ?_)
      with_reducible repeat refine xc_seq ?_
      with_reducible refine xc_region ?_
      refine xo_mv rfl rfl rfl ?_
      refine xo_len T_ rfl rfl rfl rfl ?_
      refine xo_callB (fs := []) (cs := []) rfl rfl rfl within_enters rfl (fun w1 hw1 => within_calls _ _ _ w1) ?_
      refine xo_notOp rfl rfl rfl ?_
      with_reducible refine xo_nil ?_
      with_reducible repeat (first | refine xq_then ?_ | refine xq_blockN ?_ | refine xq_scopeN ?_)
      with_reducible repeat refine xc_seq ?_
      refine xc_cond rfl (fun h83 => ?_) (fun h83 => ?_)
      · with_reducible repeat refine xc_seq ?_
        with_reducible refine xc_region ?_
        refine xo_asg rfl rfl rfl ?_
        with_reducible refine xo_nil ?_
        with_reducible repeat (first | refine xq_then ?_ | refine xq_blockN ?_ | refine xq_scopeN ?_)
        with_reducible repeat refine xc_seq ?_
        with_reducible refine xc_ret ?_
        with_reducible repeat (first | refine xq_thenR ?_ | refine xq_blockR ?_ | refine xq_scopeR ?_)
        simp only [Bool.not_eq_true'] at h83
        exact xq_ret1 rfl rfl fun w' hw => ⟨by rw [hbad (hwf (by rw [h83, Bool.and_false]))], hw.kx.below⟩
      simp only [Bool.not_eq_false'] at h83
      with_reducible refine xc_skip ?_
      with_reducible repeat (first | refine xq_then ?_ | refine xq_blockN ?_ | refine xq_scopeN ?_)
      with_reducible repeat refine xc_seq ?_
      with_reducible refine xc_region ?_
      refine xo_asg rfl rfl rfl ?_
      with_reducible refine xo_nil ?_
      with_reducible repeat (first | refine xq_then ?_ | refine xq_blockN ?_ | refine xq_scopeN ?_)
      with_reducible repeat refine xc_seq ?_
      with_reducible refine xc_block ?_
      refine xc_loop (γ := Nat) (fun j => j ≤ way.length ∧ (SortedIds r → wayF bs (-1) way = wayF bs (pastAt way j) (way.drop j)))
        (fun j => [(0, .slice (some ad) r.length c), (3, .int .i64 (k : Int)), (4, .pointer (some ⟨b4, 0, none⟩)), (5, .int .i64 (i : Int)), (6, .slice A4 way.length c4), (7, .int .i64 (j : Int))]) (fun _ => [(b4, true, cel (recV x (some ad2) c2) 50)]) (fun j => way.length - j) 0
        ⟨Nat.zero_le _, fun _ => rfl⟩ ⟨rfl, rfl, rfl, rfl, rfl, rfl, trivial⟩ (by repeat (first | exact List.Sublist.refl _ | apply List.Sublist.cons_cons | apply List.Sublist.cons | exact List.nil_sublist _)) ?_
      rintro j ⟨hj1, hwj⟩
      with_reducible repeat refine xc_seq ?_
      with_reducible refine xc_region ?_
      refine xo_mv rfl rfl rfl ?_
      refine xo_mv rfl rfl rfl ?_
      refine xo_len T_ rfl rfl rfl rfl ?_
      refine xo_lss rfl rfl rfl rfl ?_
      with_reducible refine xo_nil ?_
      with_reducible repeat (first | refine xq_then ?_ | refine xq_blockN ?_ | refine xq_scopeN ?_)
      with_reducible repeat refine xc_seq ?_
      refine xc_cond rfl (fun h => ?_) (fun h => ?_)
      · have hjl : j < way.length := by have := of_decide_eq_true h; omega
        obtain ⟨ad4, rfl, r4⟩ := int_at hw3 j hjl
        have hprev : decide (0 < (j : Int)) = false ∨ (decide (0 < (j : Int)) = true ∧ 0 < (j : Int) ∧ RO w XNone (ad4.add (((j : Int) - 1).toNat * szN 0)) [.int .i64 (way.getD (j - 1) 0)]) := by
          by_cases e : 0 < (j : Int)
          · exact .inr ⟨decide_eq_true e, e, int_at' hw3 j hjl e⟩
          · exact .inl (decide_eq_false e)
        have hst : SortedIds r → wayF bs (pastAt way j) (way.drop j) = (!bad3 r x way j && wayF bs (pastAt way (j + 1)) (way.drop (j + 1))) := fun hs => by
          rw [drop_at way 0 j hjl, wayF, ← hstep hs way j (way.getD j 0), hid]
          rfl
        with_reducible refine xc_skip ?_
        with_reducible repeat (first | refine xq_then ?_ | refine xq_blockN ?_ | refine xq_scopeN ?_)
        with_reducible repeat refine xc_seq ?_
        with_reducible refine xc_block ?_
        refine xc_cut (γ := Unit) (fun _ => True) (fun _ => [(0, .slice (some ad) r.length c), (3, .int .i64 (k : Int)), (4, .pointer (some ⟨b4, 0, none⟩)), (5, .int .i64 (i : Int)), (6, .slice (some ad4) way.length c4), (7, .int .i64 (j : Int)), (121, .bool (bad3 r x way j))]) (fun _ => [(b4, true, cel (recV x (some ad2) c2) 50)]) ?_ (fun _ _ => ?_)
        · rcases hprev with h2 | ⟨h2, h2', r5⟩ <;> cases h1 : decide (x.f0 ≤ way.getD j 0) <;> cases h3 : decide (atF r (way.getD j 0) < 0) <;> cases h4 : decide (way.getD j 0 ≤ way.getD (j - 1) 0)
          all_goals
            with_reducible repeat refine xc_seq ?_
            apply xc_drawN
            · exact T_.mixed
            · rfl
            · rfl
            · rfl
            · rfl
            · apply DrawOps.cons
              · intro τ
                refine xo_mv rfl rfl rfl ?_
                exact xo_fin rfl
              apply DrawOps.cons
              · intro τ
                refine xo_mv rfl rfl rfl ?_
                exact xo_fin rfl
              apply DrawOps.cons
              · intro τ
                refine xo_ia T_ rfl rfl rfl rfl rfl ⟨by omega, by omega⟩ rfl ?_
                exact xo_fin rfl
              apply DrawOps.cons
              · intro τ
                refine xo_loadR0 T_ rfl rfl rfl (by first | assumption | exact RO.fld (by assumption) rfl) rfl ?_
                exact xo_fin rfl
              apply DrawOps.cons
              · intro τ
                refine xo_fa T_ rfl rfl rfl rfl rfl ?_
                exact xo_fin rfl
              apply DrawOps.cons
              · intro τ
                refine xo_load0 T_ rfl rfl rfl (by repeat (first | exact List.Mem.head _ | apply List.Mem.tail | apply List.mem_append_right)) rfl rfl ?_
                exact xo_fin rfl
              apply DrawOps.cons
              · intro τ
                refine xo_geq rfl rfl rfl rfl ?_
                first
                  | exact xo_fin (congrArg Value.bool h1)
                  | exact xo_fin rfl
              apply DrawOps.cons
              · intro τ
                refine xo_mv rfl rfl rfl ?_
                exact xo_fin rfl
              apply DrawOps.cons
              · intro τ
                first
                  | refine xo_not rfl rfl ?_
                  | (refine xo_mv rfl rfl rfl ?_)
                exact xo_fin rfl
              apply DrawOps.cons
              · intro τ
                first
                  | refine xo_not rfl rfl ?_
                  | (refine xo_mv rfl rfl rfl ?_)
                exact xo_fin rfl
              apply DrawOps.cons
              · intro τ
                first
                  | refine xo_not rfl rfl ?_
                  | (refine xo_mv rfl rfl rfl ?_)
                exact xo_fin rfl
              apply DrawOps.cons
              · intro τ
                first
                  | refine xo_not rfl rfl ?_
                  | (refine xo_ia T_ rfl rfl rfl rfl rfl ⟨by omega, by omega⟩ rfl ?_)
                exact xo_fin rfl
              apply DrawOps.cons
              · intro τ
                first
                  | refine xo_not rfl rfl ?_
                  | (refine xo_loadR0 T_ rfl rfl rfl (by first | assumption | exact RO.fld (by assumption) rfl) rfl ?_)
                exact xo_fin rfl
              apply DrawOps.cons
              · intro τ
                first
                  | refine xo_not rfl rfl ?_
                  | (refine xo_callB (fs := []) (cs := []) rfl rfl rfl at_enters rfl (fun w1 hw1 => at_calls _ _ _ _ w1 (Kd.C_below hr hw1.kx.below)) ?_)
                exact xo_fin rfl
              apply DrawOps.cons
              · intro τ
                first
                  | refine xo_not rfl rfl ?_
                  | (refine xo_lss rfl rfl rfl rfl ?_)
                first
                  | exact xo_fin (congrArg Value.bool h3)
                  | exact xo_fin rfl
              apply DrawOps.cons
              · intro τ
                first | refine xo_pickT rfl rfl rfl rfl ?_ | refine xo_pickF rfl rfl rfl rfl ?_
                exact xo_fin rfl
              apply DrawOps.cons
              · intro τ
                refine xo_mv rfl rfl rfl ?_
                exact xo_fin rfl
              apply DrawOps.cons
              · intro τ
                first
                  | refine xo_not rfl rfl ?_
                  | (refine xo_mv rfl rfl rfl ?_)
                exact xo_fin rfl
              apply DrawOps.cons
              · intro τ
                first
                  | refine xo_not rfl rfl ?_
                  | (refine xo_gtr rfl rfl rfl rfl ?_)
                first
                  | exact xo_fin (congrArg Value.bool h2)
                  | exact xo_fin rfl
              apply DrawOps.cons
              · intro τ
                first
                  | refine xo_not rfl rfl ?_
                  | (refine xo_mv rfl rfl rfl ?_)
                exact xo_fin rfl
              apply DrawOps.cons
              · intro τ
                first
                  | refine xo_not rfl rfl ?_
                  | (refine xo_mv rfl rfl rfl ?_)
                exact xo_fin rfl
              apply DrawOps.cons
              · intro τ
                first
                  | refine xo_not rfl rfl ?_
                  | (refine xo_mv rfl rfl rfl ?_)
                exact xo_fin rfl
              apply DrawOps.cons
              · intro τ
                first
                  | refine xo_not rfl rfl ?_
                  | (refine xo_ia T_ rfl rfl rfl rfl rfl ⟨by omega, by omega⟩ rfl ?_)
                exact xo_fin rfl
              apply DrawOps.cons
              · intro τ
                first
                  | refine xo_not rfl rfl ?_
                  | (refine xo_loadR0 T_ rfl rfl rfl (by first | assumption | exact RO.fld (by assumption) rfl) rfl ?_)
                exact xo_fin rfl
              apply DrawOps.cons
              · intro τ
                first
                  | refine xo_not rfl rfl ?_
                  | (refine xo_mv rfl rfl rfl ?_)
                exact xo_fin rfl
              apply DrawOps.cons
              · intro τ
                first
                  | refine xo_not rfl rfl ?_
                  | (refine xo_mv rfl rfl rfl ?_)
                exact xo_fin rfl
              apply DrawOps.cons
              · intro τ
                first
                  | refine xo_not rfl rfl ?_
                  | (refine xo_sub rfl rfl rfl (by omega) rfl ?_)
                exact xo_fin rfl
              apply DrawOps.cons
              · intro τ
                first
                  | refine xo_not rfl rfl ?_
                  | (refine xo_ia T_ rfl rfl rfl rfl rfl ⟨by omega, by omega⟩ rfl ?_)
                exact xo_fin rfl
              apply DrawOps.cons
              · intro τ
                first
                  | refine xo_not rfl rfl ?_
                  | (refine xo_loadR0 T_ rfl rfl rfl (by first | assumption | exact RO.fld (by assumption) rfl) rfl ?_)
                exact xo_fin rfl
              apply DrawOps.cons
              · intro τ
                first
                  | refine xo_not rfl rfl ?_
                  | (refine xo_leq rfl rfl rfl rfl ?_)
                first
                  | exact xo_fin (congrArg Value.bool h4)
                  | exact xo_fin rfl
              apply DrawOps.cons
              · intro τ
                first
                  | refine xo_not rfl rfl ?_
                  | (first | refine xo_pickT rfl rfl rfl rfl ?_ | refine xo_pickF rfl rfl rfl rfl ?_)
                exact xo_fin rfl
              apply DrawOps.cons
              · intro τ
                first | refine xo_pickT rfl rfl rfl rfl ?_ | refine xo_pickF rfl rfl rfl rfl ?_
                exact xo_fin rfl
              exact DrawOps.nil
            · rfl
            with_reducible repeat (first | refine xq_then ?_ | refine xq_blockN ?_ | refine xq_scopeN ?_)
            exact xq_meet _ _ _ () trivial ⟨rfl, rfl, rfl, rfl, rfl, rfl, by rw [bad3, h1, h2, h3, h4]; rfl, trivial⟩ (by repeat (first | exact List.Sublist.refl _ | apply List.Sublist.cons_cons | apply List.Sublist.cons | exact List.nil_sublist _))
        with_reducible repeat refine xc_seq ?_
        refine xc_cond rfl (fun hb3 => ?_) (fun hb3 => ?_)
        · with_reducible repeat refine xc_seq ?_
          with_reducible refine xc_region ?_
          refine xo_asg rfl rfl rfl ?_
          with_reducible refine xo_nil ?_
          with_reducible repeat (first | refine xq_then ?_ | refine xq_blockN ?_ | refine xq_scopeN ?_)
          with_reducible repeat refine xc_seq ?_
          with_reducible refine xc_ret ?_
          with_reducible repeat (first | refine xq_thenR ?_ | refine xq_blockR ?_ | refine xq_scopeR ?_)
          refine xq_ret1 rfl rfl fun w' hw => ⟨?_, hw.kx.below⟩
          by_cases hs : SortedIds r
          · rw [hbad (hwf (by rw [hwj hs, hst hs, hb3]; rfl))]
          · rw [recorded_sorted hs]
        with_reducible refine xc_skip ?_
        with_reducible repeat (first | refine xq_then ?_ | refine xq_blockN ?_ | refine xq_scopeN ?_)
        with_reducible repeat refine xc_seq ?_
        with_reducible refine xc_region ?_
        refine xo_mv rfl rfl rfl ?_
        refine xo_add rfl rfl rfl (by omega) rfl ?_
        refine xo_asg rfl rfl rfl ?_
        with_reducible refine xo_nil ?_
        with_reducible repeat (first | refine xq_then ?_ | refine xq_blockN ?_ | refine xq_scopeN ?_)
        exact xq_again _ _ _ _ _ (j + 1) ⟨by omega, fun hs => by rw [hwj hs, hst hs, hb3]; rfl⟩ (by omega) ⟨rfl, rfl, rfl, rfl, rfl, rfl, trivial⟩ (by repeat (first | exact List.Sublist.refl _ | apply List.Sublist.cons_cons | apply List.Sublist.cons | exact List.nil_sublist _))
      · have hge : ¬ j < way.length := by have := of_decide_eq_false h; omega
        with_reducible refine xc_exit ?_
        with_reducible repeat (first | refine xq_blockX ?_ | refine xq_thenE ?_ | refine xq_blockE rfl ?_ | refine xq_scopeE ?_)
        with_reducible repeat (first | refine xq_then ?_ | refine xq_blockN ?_ | refine xq_scopeN ?_)
        with_reducible repeat refine xc_seq ?_
        with_reducible refine xc_region ?_
        refine xo_mv rfl rfl rfl ?_
        refine xo_add rfl rfl rfl (by omega) rfl ?_
        refine xo_asg rfl rfl rfl ?_
        with_reducible refine xo_nil ?_
        with_reducible repeat (first | refine xq_then ?_ | refine xq_blockN ?_ | refine xq_scopeN ?_)
        refine xq_again _ _ _ _ _ (i + 1) ⟨by omega, fun hs i' hi' => ?_⟩ (by omega) ⟨rfl, rfl, rfl, rfl, trivial⟩ (by repeat (first | exact List.Sublist.refl _ | apply List.Sublist.cons_cons | apply List.Sublist.cons | exact List.nil_sublist _))
        by_cases e : i' = i
        · subst e
          rw [hway, h83, hwj hs, List.drop_of_length_le (by omega)]
          rfl
        · exact hways hs i' (by omega)
    · have hge : ¬ i < x.f2.length := by have := of_decide_eq_false h; omega
      simp only [bad1, Bool.or_eq_false_iff, Bool.not_eq_false', Bool.and_eq_false_iff, decide_eq_false_iff_not] at h46
      obtain ⟨⟨h46a, h46b⟩, h46c⟩ := h46
      simp only [inF, Bool.and_eq_true, decide_eq_true_eq] at h46a
      with_reducible refine xc_exit ?_
      with_reducible repeat (first | refine xq_blockX ?_ | refine xq_thenE ?_ | refine xq_blockE rfl ?_ | refine xq_scopeE ?_)
      with_reducible repeat (first | refine xq_then ?_ | refine xq_blockN ?_ | refine xq_scopeN ?_)
      with_reducible repeat refine xc_seq ?_
      with_reducible refine xc_region ?_
      refine xo_mv rfl rfl rfl ?_
      refine xo_add rfl rfl rfl (by omega) rfl ?_
      refine xo_asg rfl rfl rfl ?_
      with_reducible refine xo_nil ?_
      with_reducible repeat (first | refine xq_then ?_ | refine xq_blockN ?_ | refine xq_scopeN ?_)
      refine xq_again _ _ _ _ _ (k + 1, insN (idAt r k) bs) ⟨hlt, fun j hj => ?_, fun j hj => ?_, fun n => ?_, fun hs => ?_⟩ (by first | omega | (simp only; omega)) ⟨rfl, rfl, trivial⟩ (by repeat (first | exact List.Sublist.refl _ | apply List.Sublist.cons_cons | apply List.Sublist.cons | exact List.nil_sublist _))
      · simp only at hj
        by_cases e : j + 1 = k
        · subst e
          rw [hid]
          simp only [idAt, Nat.add_sub_cancel] at h46b ⊢
          omega
        · exact hsrt j (by omega)
      · simp only at hj
        by_cases e : j = k
        · subst e; omega
        · exact h0 j (by omega)
      · simp only
        rw [mem_insN, hbs]
        constructor
        · rintro (rfl | ⟨i, hi, rfl⟩)
          · exact ⟨k, by omega, rfl⟩
          · exact ⟨i, by omega, rfl⟩
        · rintro ⟨i, hi, rfl⟩
          by_cases e : i = k
          · subst e; exact .inl rfl
          · exact .inr ⟨i, by omega, rfl⟩
      · simp only [Nat.add_eq_zero_iff, Nat.one_ne_zero, and_false, if_false, Nat.add_sub_cancel]
        exact hgood (waysF_true fun i' hi' => hways hs i' (by omega)) hs
  · have hge : ¬ k < r.length := by have := of_decide_eq_false h; omega
    have hs : SortedIds r := fun j hj => hsrt j (by omega)
    with_reducible refine xc_exit ?_
    with_reducible repeat (first | refine xq_blockX ?_ | refine xq_thenE ?_ | refine xq_blockE rfl ?_ | refine xq_scopeE ?_)
    with_reducible repeat (first | refine xq_then ?_ | refine xq_blockN ?_ | refine xq_scopeN ?_)
    with_reducible repeat refine xc_seq ?_
    with_reducible refine xc_region ?_
    refine xo_asg rfl rfl rfl ?_
    with_reducible refine xo_nil ?_
    with_reducible repeat (first | refine xq_then ?_ | refine xq_blockN ?_ | refine xq_scopeN ?_)
    with_reducible repeat refine xc_seq ?_
    with_reducible refine xc_ret ?_
    with_reducible repeat (first | refine xq_thenR ?_ | refine xq_blockR ?_ | refine xq_scopeR ?_)
    exact xq_ret1 rfl rfl fun w' hw => ⟨by rw [hrec hs, List.drop_of_length_le (by omega)]; rfl, hw.kx.below⟩
theorem records_enters : ∀ args w, (callFunc 46 args).run Tryd.prog w = .ok (.enter 46 args) w := enters_of Tryd.func46 (by kernel_rfl) rfl
end Go.Proofs.YtcmepdamemnbkaaDoor
namespace Go.Proofs.YtcmepdamemnbkaaDoor
open Go.RowKit Go.Proofs.YtcmepdamemnbkaaDoorW.PrintWords
set_option linter.unusedVariables false
set_option linter.unusedSimpArgs false
theorem lettersF_len {r : List RecT} : ∀ (l : List LetT) (last i : Int), lettersF r last i l = true → l = [] ∨ i + (l.length : Int) ≤ 20
  | [], _, _, _ => .inl rfl
  | x :: l, last, i, h => by
    simp only [lettersF, Bool.and_eq_true, Bool.not_eq_true', decide_eq_false_iff_not] at h
    obtain ⟨⟨_, h1⟩, h2⟩ := h
    rcases lettersF_len l _ _ h2 with rfl | h3
    · right; simp; omega
    · right; simp; omega
def pastL (l : List LetT) (k : Nat) : Int := if k = 0 then -1 else (l.getD (k - 1) zLet).f0
def badL (r : List RecT) (l : List LetT) (k : Nat) (x : LetT) : Bool := !inF 0 9999 x.f0 || (decide (0 < (k : Int)) && decide (x.f0 ≤ (l.getD (k - 1) zLet).f0)) || !inF 0 100000 x.f1 || decide (atF r x.f2 < 0) || !inF 1 2 x.f3
theorem split6 (c1 c2 c3 c4 c5 c6 : Bool) : (c1 = true ∧ (c1 || (c2 && c3) || c4 || c5 || c6) = true) ∨ (c1 = false ∧ c2 = true ∧ c3 = true ∧ (c1 || (c2 && c3) || c4 || c5 || c6) = true)
    ∨ (c1 = false ∧ c2 = true ∧ c3 = false ∧ c4 = true ∧ (c1 || (c2 && c3) || c4 || c5 || c6) = true) ∨ (c1 = false ∧ c2 = true ∧ c3 = false ∧ c4 = false ∧ c5 = true ∧ (c1 || (c2 && c3) || c4 || c5 || c6) = true)
    ∨ (c1 = false ∧ c2 = true ∧ c3 = false ∧ c4 = false ∧ c5 = false ∧ c6 = true ∧ (c1 || (c2 && c3) || c4 || c5 || c6) = true) ∨ (c1 = false ∧ c2 = true ∧ c3 = false ∧ c4 = false ∧ c5 = false ∧ c6 = false ∧ (c1 || (c2 && c3) || c4 || c5 || c6) = false)
    ∨ (c1 = false ∧ c2 = false ∧ c4 = true ∧ (c1 || (c2 && c3) || c4 || c5 || c6) = true) ∨ (c1 = false ∧ c2 = false ∧ c4 = false ∧ c5 = true ∧ (c1 || (c2 && c3) || c4 || c5 || c6) = true)
    ∨ (c1 = false ∧ c2 = false ∧ c4 = false ∧ c5 = false ∧ c6 = true ∧ (c1 || (c2 && c3) || c4 || c5 || c6) = true) ∨ (c1 = false ∧ c2 = false ∧ c4 = false ∧ c5 = false ∧ c6 = false ∧ (c1 || (c2 && c3) || c4 || c5 || c6) = false) := by
  cases c1 <;> cases c2 <;> cases c3 <;> cases c4 <;> cases c5 <;> cases c6 <;> simp
theorem let_at' {w : World} {ad : Addr} {l : List LetT} (h : Kd.C letK w (some ad) l.length l) (k : Nat) (hk : k < l.length) (h0 : 0 < (k : Int)) :
    RO w XNone (ad.add (((k : Int) - 1).toNat * szN 4)) (letV (l.getD (k - 1) zLet)) := by
  obtain ⟨ad2, e, h1⟩ := let_at h (k - 1) (by omega)
  cases e
  rw [show ((k : Int) - 1).toNat = ((k - 1 : Nat) : Int).toNat by omega]
  exact h1
theorem badL_step {r : List RecT} {l : List LetT} {k : Nat} {x : LetT} (hk : k < 20) (h0 : ∀ i, i < k → 0 ≤ (l.getD i zLet).f0) :
    (inF (pastL l k + 1) 9999 x.f0 && inF 0 100000 x.f1 && knownF r x.f2 && inF 1 2 x.f3 && !decide (20 ≤ (k : Int))) = !badL r l k x := by
  have h1 : inF (pastL l k + 1) 9999 x.f0 = (inF 0 9999 x.f0 && !(decide (0 < (k : Int)) && decide (x.f0 ≤ (l.getD (k - 1) zLet).f0))) := by
    by_cases hk : k = 0
    · subst hk; simp [inF, pastL]
    · have := h0 (k - 1) (by omega)
      have e0 : decide (0 < (k : Int)) = true := decide_eq_true (by omega)
      rw [pastL, if_neg hk, e0, Bool.true_and]
      exact inF_step _ _ this
  have h2 : decide (20 ≤ (k : Int)) = false := decide_eq_false (by omega)
  rw [h1, h2, badL, atF_neg]
  cases inF 0 9999 x.f0 <;> cases (decide (0 < (k : Int)) && decide (x.f0 ≤ (l.getD (k - 1) zLet).f0)) <;> cases inF 0 100000 x.f1 <;> cases knownF r x.f2 <;> cases inF 1 2 x.f3 <;> rfl
set_option maxHeartbeats 16000000 in
theorem refCheck_calls (A B : Option Addr) (c c' : Nat) (r : List RecT) (l : List LetT) (w : World) (hr : Kd.C recK w A r.length r) (hl : Kd.C letK w B l.length l) (hk : Bytes r) (hkl : BytesL l) :
    Calls Tryd.prog 54 #[.slice A r.length c, .slice B l.length c'] w fun e w' => e = .returned (.int .i64 (checkF r l)) ∧ Below w.heap.size w w' := by
  have hn := hl.2.1
  refine x_calls (X := XNone) Tryd.func54 rfl rfl rfl ?_
  with_reducible repeat refine xc_seq ?_
  with_reducible refine xc_region ?_
  refine xo_asg rfl rfl rfl ?_
  with_reducible refine xo_nil ?_
  with_reducible repeat (first | refine xq_then ?_ | refine xq_blockN ?_ | refine xq_scopeN ?_)
  with_reducible repeat refine xc_seq ?_
  with_reducible refine xc_region ?_
  refine xo_mv rfl rfl rfl ?_
  refine xo_callB (fs := []) (cs := []) rfl rfl rfl records_enters rfl (fun w1 hw1 => records_calls A c r w1 (Kd.C_below hr hw1.kx.below) hk) ?_
  refine xo_notOp rfl rfl rfl ?_
  with_reducible refine xo_nil ?_
  with_reducible repeat (first | refine xq_then ?_ | refine xq_blockN ?_ | refine xq_scopeN ?_)
  with_reducible repeat refine xc_seq ?_
  refine xc_cond rfl (fun hrec => ?_) (fun hrec => ?_)
  · with_reducible repeat refine xc_seq ?_
    with_reducible refine xc_region ?_
    refine xo_asg rfl rfl rfl ?_
    with_reducible refine xo_nil ?_
    with_reducible repeat (first | refine xq_then ?_ | refine xq_blockN ?_ | refine xq_scopeN ?_)
    with_reducible repeat refine xc_seq ?_
    with_reducible refine xc_ret ?_
    with_reducible repeat (first | refine xq_thenR ?_ | refine xq_blockR ?_ | refine xq_scopeR ?_)
    simp only [Bool.not_eq_true'] at hrec
    exact xq_ret1 rfl rfl fun w' hw => ⟨by rw [checkF, hrec]; rfl, hw.kx.below⟩
  simp only [Bool.not_eq_false'] at hrec
  with_reducible refine xc_skip ?_
  with_reducible repeat (first | refine xq_then ?_ | refine xq_blockN ?_ | refine xq_scopeN ?_)
  with_reducible repeat refine xc_seq ?_
  with_reducible refine xc_region ?_
  refine xo_mv rfl rfl rfl ?_
  refine xo_len T_ rfl rfl rfl rfl ?_
  refine xo_gtr rfl rfl rfl rfl ?_
  with_reducible refine xo_nil ?_
  with_reducible repeat (first | refine xq_then ?_ | refine xq_blockN ?_ | refine xq_scopeN ?_)
  with_reducible repeat refine xc_seq ?_
  refine xc_cond rfl (fun h20 => ?_) (fun h20 => ?_)
  · with_reducible repeat refine xc_seq ?_
    with_reducible refine xc_region ?_
    refine xo_asg rfl rfl rfl ?_
    with_reducible refine xo_nil ?_
    with_reducible repeat (first | refine xq_then ?_ | refine xq_blockN ?_ | refine xq_scopeN ?_)
    with_reducible repeat refine xc_seq ?_
    with_reducible refine xc_ret ?_
    with_reducible repeat (first | refine xq_thenR ?_ | refine xq_blockR ?_ | refine xq_scopeR ?_)
    have h20 := of_decide_eq_true h20
    refine xq_ret1 rfl rfl fun w' hw => ⟨?_, hw.kx.below⟩
    have : lettersF r (-1) 0 l = false := by
      cases h1 : lettersF r (-1) 0 l with
      | false => rfl
      | true =>
        rcases lettersF_len l _ _ h1 with rfl | h2
        · simp at h20
        · omega
    rw [checkF, hrec, this]
    rfl
  have h20 := of_decide_eq_false h20
  with_reducible refine xc_skip ?_
  with_reducible repeat (first | refine xq_then ?_ | refine xq_blockN ?_ | refine xq_scopeN ?_)
  with_reducible repeat refine xc_seq ?_
  with_reducible refine xc_region ?_
  refine xo_asg rfl rfl rfl ?_
  with_reducible refine xo_nil ?_
  with_reducible repeat (first | refine xq_then ?_ | refine xq_blockN ?_ | refine xq_scopeN ?_)
  with_reducible repeat refine xc_seq ?_
  with_reducible refine xc_block ?_
  refine xc_loop (γ := Nat) (fun k => k ≤ l.length ∧ (∀ i, i < k → 0 ≤ (l.getD i zLet).f0) ∧ lettersF r (-1) 0 l = lettersF r (pastL l k) (k : Int) (l.drop k)) (fun k => [(0, .slice A r.length c), (1, .slice B l.length c'), (5, .int .i64 (k : Int))]) (fun _ => []) (fun k => l.length - k) 0
    ⟨Nat.zero_le _, fun j hj => absurd hj (by simp), rfl⟩ ⟨rfl, rfl, rfl, trivial⟩ (List.Sublist.refl _) ?_
  rintro k ⟨hk1, h0, hlet⟩
  with_reducible repeat refine xc_seq ?_
  with_reducible refine xc_region ?_
  refine xo_mv rfl rfl rfl ?_
  refine xo_mv rfl rfl rfl ?_
  refine xo_len T_ rfl rfl rfl rfl ?_
  refine xo_lss rfl rfl rfl rfl ?_
  with_reducible refine xo_nil ?_
  with_reducible repeat (first | refine xq_then ?_ | refine xq_blockN ?_ | refine xq_scopeN ?_)
  with_reducible repeat refine xc_seq ?_
  refine xc_cond rfl (fun h => ?_) (fun h => ?_)
  · have hlt : k < l.length := by have := of_decide_eq_true h; omega
    obtain ⟨ad, rfl, r1⟩ := let_at hl k hlt
    have hby := hkl _ (getD_mem l zLet k hlt)
    have hprev : decide (0 < (k : Int)) = true → 0 < (k : Int) ∧ RO w XNone (ad.add (((k : Int) - 1).toNat * szN 4)) (letV (l.getD (k - 1) zLet)) := fun h => ⟨of_decide_eq_true h, let_at' hl k hlt (of_decide_eq_true h)⟩
    rw [drop_at l zLet k hlt, lettersF, badL_step (by omega) h0] at hlet
    have hp1 : pastL l (k + 1) = (l.getD k zLet).f0 := by simp [pastL]
    have hxid : (l.getD k zLet).f0 = (l.getD k zLet).f0 := rfl
    generalize hx : l.getD k zLet = x at *
    with_reducible refine xc_skip ?_
    with_reducible repeat (first | refine xq_then ?_ | refine xq_blockN ?_ | refine xq_scopeN ?_)
    with_reducible repeat refine xc_seq ?_
    with_reducible refine xc_block ?_
    with_reducible repeat refine xc_seq ?_
    with_reducible refine xc_region ?_
    refine xo_mv rfl rfl rfl ?_
    refine xo_mv rfl rfl rfl ?_
    refine xo_ia T_ rfl rfl rfl rfl rfl ⟨by omega, by omega⟩ rfl ?_
    refine xo_loadRN T_ rfl rfl rfl (by assumption) rfl rfl ?_
    refine xo_alloc T_ rfl rfl rfl rfl (fun b6 => ?_)
    refine xo_store T_ rfl rfl rfl rfl (by repeat (first | exact List.Mem.head _ | apply List.Mem.tail | apply List.mem_append_right)) rfl rfl rfl rfl (by repeat (first | exact Upd.head | apply Upd.tail | apply Upd.app)) rfl ?_
    with_reducible refine xo_nil ?_
    with_reducible repeat (first | refine xq_then ?_ | refine xq_blockN ?_ | refine xq_scopeN ?_)
    refine xc_cut (γ := Unit) (fun _ => True) (fun _ => [(0, .slice A r.length c), (1, .slice (some ad) l.length c'), (5, .int .i64 (k : Int)), (61, .bool (badL r l k x))]) (fun _ => []) ?_ (fun _ _ => ?_)
    · rcases split6 (!inF 0 9999 x.f0) (decide (0 < (k : Int))) (decide (x.f0 ≤ (l.getD (k - 1) zLet).f0)) (!inF 0 100000 x.f1) (decide (atF r x.f2 < 0)) (!inF 1 2 x.f3) with
        ⟨h1, hB⟩ | ⟨h1, h2, h3, hB⟩ | ⟨h1, h2, h3, h4, hB⟩ | ⟨h1, h2, h3, h4, h5, hB⟩ | ⟨h1, h2, h3, h4, h5, h6, hB⟩ | ⟨h1, h2, h3, h4, h5, h6, hB⟩ | ⟨h1, h2, h4, hB⟩ | ⟨h1, h2, h4, h5, hB⟩ | ⟨h1, h2, h4, h5, h6, hB⟩ | ⟨h1, h2, h4, h5, h6, hB⟩
      all_goals
        try (have q := hprev h2; obtain ⟨h2', r2⟩ := q)
        with_reducible repeat refine xc_seq ?_
        apply xc_drawN
        · exact T_.mixed
        · rfl
        · rfl
        · rfl
        · rfl
        · apply DrawOps.cons
          · intro τ
            refine xo_fa T_ rfl rfl rfl rfl rfl ?_
            exact xo_fin rfl
          apply DrawOps.cons
          · intro τ
            refine xo_load0 T_ rfl rfl rfl (by repeat (first | exact List.Mem.head _ | apply List.Mem.tail | apply List.mem_append_right)) rfl rfl ?_
            exact xo_fin rfl
          apply DrawOps.cons
          · intro τ
            refine xo_callB (fs := []) (cs := []) rfl rfl rfl within_enters rfl (fun w1 hw1 => within_calls _ _ _ w1) ?_
            exact xo_fin rfl
          apply DrawOps.cons
          · intro τ
            refine xo_notOp rfl rfl rfl ?_
            first
              | exact xo_fin (congrArg Value.bool h1)
              | exact xo_fin rfl
          apply DrawOps.cons
          · intro τ
            refine xo_mv rfl rfl rfl ?_
            exact xo_fin rfl
          apply DrawOps.cons
          · intro τ
            first
              | refine xo_not rfl rfl ?_
              | (refine xo_mv rfl rfl rfl ?_)
            exact xo_fin rfl
          apply DrawOps.cons
          · intro τ
            first
              | refine xo_not rfl rfl ?_
              | (refine xo_gtr rfl rfl rfl rfl ?_)
            first
              | exact xo_fin (congrArg Value.bool h2)
              | exact xo_fin rfl
          apply DrawOps.cons
          · intro τ
            first
              | refine xo_not rfl rfl ?_
              | (refine xo_mv rfl rfl rfl ?_)
            exact xo_fin rfl
          apply DrawOps.cons
          · intro τ
            first
              | refine xo_not rfl rfl ?_
              | (refine xo_fa T_ rfl rfl rfl rfl rfl ?_)
            exact xo_fin rfl
          apply DrawOps.cons
          · intro τ
            first
              | refine xo_not rfl rfl ?_
              | (refine xo_load0 T_ rfl rfl rfl (by repeat (first | exact List.Mem.head _ | apply List.Mem.tail | apply List.mem_append_right)) rfl rfl ?_)
            exact xo_fin rfl
          apply DrawOps.cons
          · intro τ
            first
              | refine xo_not rfl rfl ?_
              | (refine xo_mv rfl rfl rfl ?_)
            exact xo_fin rfl
          apply DrawOps.cons
          · intro τ
            first
              | refine xo_not rfl rfl ?_
              | (refine xo_mv rfl rfl rfl ?_)
            exact xo_fin rfl
          apply DrawOps.cons
          · intro τ
            first
              | refine xo_not rfl rfl ?_
              | (refine xo_sub rfl rfl rfl (by omega) rfl ?_)
            exact xo_fin rfl
          apply DrawOps.cons
          · intro τ
            first
              | refine xo_not rfl rfl ?_
              | (refine xo_ia T_ rfl rfl rfl rfl rfl ⟨by omega, by omega⟩ rfl ?_)
            exact xo_fin rfl
          apply DrawOps.cons
          · intro τ
            first
              | refine xo_not rfl rfl ?_
              | (refine xo_faR T_ rfl rfl rfl rfl rfl ?_)
            exact xo_fin rfl
          apply DrawOps.cons
          · intro τ
            first
              | refine xo_not rfl rfl ?_
              | (refine xo_loadR0 T_ rfl rfl rfl (by first | assumption | exact RO.fld (by assumption) rfl) rfl ?_)
            exact xo_fin rfl
          apply DrawOps.cons
          · intro τ
            first
              | refine xo_not rfl rfl ?_
              | (refine xo_leq rfl rfl rfl rfl ?_)
            first
              | exact xo_fin (congrArg Value.bool h3)
              | exact xo_fin rfl
          apply DrawOps.cons
          · intro τ
            first
              | refine xo_not rfl rfl ?_
              | (first | refine xo_pickT rfl rfl rfl rfl ?_ | refine xo_pickF rfl rfl rfl rfl ?_)
            exact xo_fin rfl
          apply DrawOps.cons
          · intro τ
            first | refine xo_pickT rfl rfl rfl rfl ?_ | refine xo_pickF rfl rfl rfl rfl ?_
            exact xo_fin rfl
          apply DrawOps.cons
          · intro τ
            refine xo_mv rfl rfl rfl ?_
            exact xo_fin rfl
          apply DrawOps.cons
          · intro τ
            first
              | refine xo_not rfl rfl ?_
              | (refine xo_fa T_ rfl rfl rfl rfl rfl ?_)
            exact xo_fin rfl
          apply DrawOps.cons
          · intro τ
            first
              | refine xo_not rfl rfl ?_
              | (refine xo_load0 T_ rfl rfl rfl (by repeat (first | exact List.Mem.head _ | apply List.Mem.tail | apply List.mem_append_right)) rfl rfl ?_)
            exact xo_fin rfl
          apply DrawOps.cons
          · intro τ
            first
              | refine xo_not rfl rfl ?_
              | (refine xo_callB (fs := []) (cs := []) rfl rfl rfl within_enters rfl (fun w1 hw1 => within_calls _ _ _ w1) ?_)
            exact xo_fin rfl
          apply DrawOps.cons
          · intro τ
            first
              | refine xo_not rfl rfl ?_
              | (refine xo_notOp rfl rfl rfl ?_)
            first
              | exact xo_fin (congrArg Value.bool h4)
              | exact xo_fin rfl
          apply DrawOps.cons
          · intro τ
            first | refine xo_pickT rfl rfl rfl rfl ?_ | refine xo_pickF rfl rfl rfl rfl ?_
            exact xo_fin rfl
          apply DrawOps.cons
          · intro τ
            refine xo_mv rfl rfl rfl ?_
            exact xo_fin rfl
          apply DrawOps.cons
          · intro τ
            first
              | refine xo_not rfl rfl ?_
              | (refine xo_mv rfl rfl rfl ?_)
            exact xo_fin rfl
          apply DrawOps.cons
          · intro τ
            first
              | refine xo_not rfl rfl ?_
              | (refine xo_fa T_ rfl rfl rfl rfl rfl ?_)
            exact xo_fin rfl
          apply DrawOps.cons
          · intro τ
            first
              | refine xo_not rfl rfl ?_
              | (refine xo_load0 T_ rfl rfl rfl (by repeat (first | exact List.Mem.head _ | apply List.Mem.tail | apply List.mem_append_right)) rfl rfl ?_)
            exact xo_fin rfl
          apply DrawOps.cons
          · intro τ
            first
              | refine xo_not rfl rfl ?_
              | (refine xo_callB (fs := []) (cs := []) rfl rfl rfl at_enters rfl (fun w1 hw1 => at_calls _ _ _ _ w1 (Kd.C_below hr hw1.kx.below)) ?_)
            exact xo_fin rfl
          apply DrawOps.cons
          · intro τ
            first
              | refine xo_not rfl rfl ?_
              | (refine xo_lss rfl rfl rfl rfl ?_)
            first
              | exact xo_fin (congrArg Value.bool h5)
              | exact xo_fin rfl
          apply DrawOps.cons
          · intro τ
            first | refine xo_pickT rfl rfl rfl rfl ?_ | refine xo_pickF rfl rfl rfl rfl ?_
            exact xo_fin rfl
          apply DrawOps.cons
          · intro τ
            refine xo_mv rfl rfl rfl ?_
            exact xo_fin rfl
          apply DrawOps.cons
          · intro τ
            first
              | refine xo_not rfl rfl ?_
              | (refine xo_fa T_ rfl rfl rfl rfl rfl ?_)
            exact xo_fin rfl
          apply DrawOps.cons
          · intro τ
            first
              | refine xo_not rfl rfl ?_
              | (refine xo_load0 T_ rfl rfl rfl (by repeat (first | exact List.Mem.head _ | apply List.Mem.tail | apply List.mem_append_right)) rfl rfl ?_)
            exact xo_fin rfl
          apply DrawOps.cons
          · intro τ
            first
              | refine xo_not rfl rfl ?_
              | (refine xo_conv T_ rfl rfl rfl rfl (IntWalk.i64_in _ ⟨by omega, by omega⟩) rfl ?_)
            exact xo_fin rfl
          apply DrawOps.cons
          · intro τ
            first
              | refine xo_not rfl rfl ?_
              | (refine xo_callB (fs := []) (cs := []) rfl rfl rfl within_enters rfl (fun w1 hw1 => within_calls _ _ _ w1) ?_)
            exact xo_fin rfl
          apply DrawOps.cons
          · intro τ
            first
              | refine xo_not rfl rfl ?_
              | (refine xo_notOp rfl rfl rfl ?_)
            first
              | exact xo_fin (congrArg Value.bool h6)
              | exact xo_fin rfl
          apply DrawOps.cons
          · intro τ
            first | refine xo_pickT rfl rfl rfl rfl ?_ | refine xo_pickF rfl rfl rfl rfl ?_
            exact xo_fin rfl
          exact DrawOps.nil
        · rfl
        with_reducible repeat (first | refine xq_then ?_ | refine xq_blockN ?_ | refine xq_scopeN ?_)
        exact xq_meet _ _ _ () trivial ⟨rfl, rfl, rfl, by rw [badL, hB]; rfl, trivial⟩ (by repeat (first | exact List.Sublist.refl _ | apply List.Sublist.cons_cons | apply List.Sublist.cons | exact List.nil_sublist _))
    with_reducible repeat refine xc_seq ?_
    refine xc_cond rfl (fun hb => ?_) (fun hb => ?_)
    · with_reducible repeat refine xc_seq ?_
      with_reducible refine xc_region ?_
      refine xo_asg rfl rfl rfl ?_
      with_reducible refine xo_nil ?_
      with_reducible repeat (first | refine xq_then ?_ | refine xq_blockN ?_ | refine xq_scopeN ?_)
      with_reducible repeat refine xc_seq ?_
      with_reducible refine xc_ret ?_
      with_reducible repeat (first | refine xq_thenR ?_ | refine xq_blockR ?_ | refine xq_scopeR ?_)
      exact xq_ret1 rfl rfl fun w' hw => ⟨by rw [checkF, hrec, hlet, hb]; rfl, hw.kx.below⟩
    with_reducible refine xc_skip ?_
    with_reducible repeat (first | refine xq_then ?_ | refine xq_blockN ?_ | refine xq_scopeN ?_)
    with_reducible repeat refine xc_seq ?_
    with_reducible refine xc_region ?_
    refine xo_mv rfl rfl rfl ?_
    refine xo_add rfl rfl rfl (by omega) rfl ?_
    refine xo_asg rfl rfl rfl ?_
    with_reducible refine xo_nil ?_
    with_reducible repeat (first | refine xq_then ?_ | refine xq_blockN ?_ | refine xq_scopeN ?_)
    refine xq_again _ _ _ _ _ (k + 1) ⟨by omega, fun i hi => ?_, ?_⟩ (by omega) ⟨rfl, rfl, rfl, trivial⟩ (List.Sublist.refl _)
    · by_cases e : i = k
      · subst e
        rw [hx]
        simp only [badL, Bool.or_eq_false_iff, Bool.not_eq_false', inF, Bool.and_eq_true, decide_eq_true_eq] at hb
        exact hb.1.1.1.1.1
      · exact h0 i (by omega)
    · rw [hlet, hb, hp1]; simp
  · have hge : ¬ k < l.length := by have := of_decide_eq_false h; omega
    with_reducible refine xc_exit ?_
    with_reducible repeat (first | refine xq_blockX ?_ | refine xq_thenE ?_ | refine xq_blockE rfl ?_ | refine xq_scopeE ?_)
    with_reducible repeat (first | refine xq_then ?_ | refine xq_blockN ?_ | refine xq_scopeN ?_)
    with_reducible repeat refine xc_seq ?_
    with_reducible refine xc_region ?_
    refine xo_asg rfl rfl rfl ?_
    with_reducible refine xo_nil ?_
    with_reducible repeat (first | refine xq_then ?_ | refine xq_blockN ?_ | refine xq_scopeN ?_)
    with_reducible repeat refine xc_seq ?_
    with_reducible refine xc_ret ?_
    with_reducible repeat (first | refine xq_thenR ?_ | refine xq_blockR ?_ | refine xq_scopeR ?_)
    exact xq_ret1 rfl rfl fun w' hw => ⟨by rw [checkF, hrec, hlet, List.drop_of_length_le (by omega)]; rfl, hw.kx.below⟩
end Go.Proofs.YtcmepdamemnbkaaDoor
namespace Go.Proofs.YtcmepdamemnbkaaDoor
open Go.RowKit Go.Proofs.YtcmepdamemnbkaaDoorW.PrintWords
set_option linter.unusedVariables false
set_option linter.unusedSimpArgs false
end Go.Proofs.YtcmepdamemnbkaaDoor
namespace Go.Proofs.YtcmepdamemnbkaaDoor
open Go.RowKit Go.Proofs.YtcmepdamemnbkaaDoorW.PrintWords
set_option linter.unusedVariables false
set_option linter.unusedSimpArgs false
theorem recorded_len {r : List RecT} (h : recordedF r = true) : r.length ≤ 12 := by
  simp only [recordedF, Bool.and_eq_true, decide_eq_true_eq] at h
  exact h.2
theorem sorted_of {r : List RecT} (h : recordedF r = true) : SortedIds r := by
  simp only [recordedF, Bool.and_eq_true] at h
  exact (recF_sorted r _ _ h.1).2
theorem sorted_inj {r : List RecT} (h : SortedIds r) {i j : Nat} (hi : i < r.length) (hj : j < r.length) (e : idAt r i = idAt r j) : i = j := by
  by_cases h1 : i < j
  · have := sorted_lt h j i h1 hj; omega
  · by_cases h2 : j < i
    · have := sorted_lt h i j h2 hi; omega
    · omega
theorem wayF_mem {bs : List Int} : ∀ (w : List Int) (p : Int), wayF bs p w = true → ∀ n ∈ w, n ∈ bs
  | [], _, _, n, h => by cases h
  | m :: w, p, h, n, hn => by
    simp only [wayF, Bool.and_eq_true, Bool.not_eq_true', Bool.or_eq_false_iff, Bool.not_eq_false', decide_eq_true_eq] at h
    rcases List.mem_cons.1 hn with rfl | hn
    · exact h.1.2
    · exact wayF_mem w m h.2 n hn
theorem idxF_at {α : Type} (p : α → Bool) (z : α) : ∀ (zs : List α) (i : Nat), zs.any p = true → ∃ a, a < zs.length ∧ idxF p zs i = ((i + a : Nat) : Int) ∧ p (zs.getD a z) = true
  | [], _, h => by cases h
  | x :: r, i, h => by
    by_cases hx : p x = true
    · exact ⟨0, by simp, by simp [idxF, hx], by simpa using hx⟩
    · have hx' : p x = false := by simpa using hx
      rw [List.any_cons, hx', Bool.false_or] at h
      obtain ⟨a, h1, h2, h3⟩ := idxF_at p z r (i + 1) h
      exact ⟨a + 1, by simpa using h1, by rw [idxF, hx', if_neg (by simp), h2]; omega, by simpa using h3⟩
theorem atF_known {r : List RecT} {n : Int} (h : knownF r n = true) : ∃ a, a < r.length ∧ atF r n = (a : Int) ∧ idAt r a = n := by
  obtain ⟨a, h1, h2, h3⟩ := idxF_at (fun x : RecT => decide (x.f0 = n)) zRec r 0 h
  exact ⟨a, h1, by rw [atF, h2]; simp, of_decide_eq_true h3⟩
theorem holdsL_mem {G : List Int} : ∀ (r : List RecT) (bs : List Int) (n : Int), n ∈ holdsL G bs r → ∃ i, i < r.length ∧ idAt r i = n
  | [], _, n, h => by cases h
  | x :: r, bs, n, h => by
    unfold holdsL at h
    split at h
    · obtain ⟨i, h1, h2⟩ := holdsL_mem r _ n h
      exact ⟨i + 1, by simpa using h1, by simpa [idAt] using h2⟩
    · rcases List.mem_cons.1 h with rfl | h
      · exact ⟨0, by simp, rfl⟩
      · obtain ⟨i, h1, h2⟩ := holdsL_mem r _ n h
        exact ⟨i + 1, by simpa using h1, by simpa [idAt] using h2⟩
theorem idAt_drop (r : List RecT) (k i : Nat) : idAt (r.drop k) i = idAt r (k + i) := by simp [idAt, List.getD_eq_getElem?_getD, List.getElem?_drop]
theorem hold_state (r : List RecT) (G : List Int) : ∀ k, k ≤ r.length → ∃ bs pre, holdsF r G = pre ++ holdsL G bs (r.drop k) ∧ (∀ n, n ∈ bs ↔ n ∈ pre) ∧ ∀ n ∈ pre, ∃ i, i < k ∧ idAt r i = n
  | 0, _ => ⟨[], [], rfl, fun n => Iff.rfl, fun n h => by cases h⟩
  | k + 1, hk => by
    obtain ⟨bs, pre, h1, h2, h3⟩ := hold_state r G k (by omega)
    rw [drop_at r zRec k (by omega), holdsL] at h1
    split at h1
    · exact ⟨bs, pre, h1, h2, fun n hn => by obtain ⟨i, hi, e⟩ := h3 n hn; exact ⟨i, by omega, e⟩⟩
    · refine ⟨insN (r.getD k zRec).f0 bs, pre ++ [(r.getD k zRec).f0], by rw [h1, List.append_assoc]; rfl, fun n => ?_, fun n hn => ?_⟩
      · rw [mem_insN, h2, List.mem_append, List.mem_singleton]
        exact or_comm
      · rcases List.mem_append.1 hn with hn | hn
        · obtain ⟨i, hi, e⟩ := h3 n hn; exact ⟨i, by omega, e⟩
        · rw [List.mem_singleton] at hn; exact ⟨k, by omega, hn.symm⟩
/-- what the reference's row of truths says of the k-th record -/
theorem hold_at {r : List RecT} (hs : SortedIds r) (G : List Int) (k : Nat) (hk : k < r.length) :
    ∃ bs, decide (idAt r k ∈ holdsF r G) = (standsF bs (r.getD k zRec).f2 && !decide (idAt r k ∈ G)) ∧ ∀ n, n ∈ bs ↔ n ∈ holdsF r G ∧ ∃ i, i < k ∧ idAt r i = n := by
  obtain ⟨bs, pre, h1, h2, h3⟩ := hold_state r G k (by omega)
  have hlater : ∀ bs n, n ∈ holdsL G bs (r.drop (k + 1)) → ∃ i, k < i ∧ i < r.length ∧ idAt r i = n := fun bs n hn => by
    obtain ⟨i, hi, e⟩ := holdsL_mem _ _ _ hn
    rw [idAt_drop] at e
    rw [List.length_drop] at hi
    exact ⟨k + 1 + i, by omega, by omega, e⟩
  have hnot : ∀ bs, idAt r k ∉ holdsL G bs (r.drop (k + 1)) := fun bs hn => by
    obtain ⟨i, h4, h5, e⟩ := hlater bs _ hn
    have := sorted_inj hs h5 hk e
    omega
  have hpre : idAt r k ∉ pre := fun hn => by
    obtain ⟨i, hi, e⟩ := h3 _ hn
    have := sorted_inj hs (by omega) hk e
    omega
  have hall : ∀ n, n ∈ holdsL G bs (r.drop k) → ∃ i, k ≤ i ∧ i < r.length ∧ idAt r i = n := fun n hn => by
    obtain ⟨i, hi, e⟩ := holdsL_mem _ _ _ hn
    rw [idAt_drop] at e
    rw [List.length_drop] at hi
    exact ⟨k + i, by omega, by omega, e⟩
  refine ⟨bs, ?_, fun n => ?_⟩
  · have h4 : idAt r k ∈ holdsF r G ↔ idAt r k ∈ holdsL G bs (r.drop k) := by
      rw [h1, List.mem_append]
      exact ⟨fun h => h.resolve_left hpre, .inr⟩
    have hid : (r.getD k zRec).f0 = idAt r k := rfl
    rw [drop_at r zRec k hk, holdsL, hid] at h4
    rw [Bool.eq_iff_iff, decide_eq_true_eq, h4]
    by_cases h5 : idAt r k ∈ G <;> cases h6 : standsF bs (r.getD k zRec).f2 <;> simp [h5, hnot]
  · rw [h2, h1, List.mem_append]
    constructor
    · intro hn
      exact ⟨.inl hn, h3 n hn⟩
    · rintro ⟨hn | hn, i, hi, e⟩
      · exact hn
      · obtain ⟨j, h4, h5, e2⟩ := hall n hn
        have := sorted_inj hs (by omega : i < r.length) h5 (e.trans e2.symm)
        omega
end Go.Proofs.YtcmepdamemnbkaaDoor
