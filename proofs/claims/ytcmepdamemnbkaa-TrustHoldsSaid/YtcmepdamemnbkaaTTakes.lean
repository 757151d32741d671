/- trust.Takes. -/
import Derived.Test.YtcmepdamemnbkaaTHolds
namespace Go.Proofs.Ytcmepdamemnbkaa
open Go.RowKit Go.Proofs.YtcmepdamemnbkaaW.PrintWords
set_option linter.unusedVariables false
set_option linter.unusedSimpArgs false
theorem takes1_calls (x : Int) (A : Option Addr) (c : Nat) (zs : List Int) (B : Nat) (w : World) (hB : w.cell? ⟨B, 0, none⟩ = some (.slice A zs.length c)) (hr : Kd.C (Kd.int .i64) w A zs.length zs) :
    Calls Try.prog 28 #[.int .i64 x, .pointer (some ⟨B, 0, none⟩)] w fun e w' => e = .returned (.bool (decide (x ∈ zs))) ∧ Below w.heap.size w w' := by
  have r1 := ro1 hB
  refine x_calls (X := XNone) Try.func28 rfl rfl rfl ?_
  with_reducible repeat refine xc_seq ?_
  with_reducible refine xc_region ?_
  refine xo_asg rfl rfl rfl ?_
  with_reducible refine xo_nil ?_
  with_reducible repeat (first | refine xq_then ?_ | refine xq_blockN ?_ | refine xq_scopeN ?_)
  with_reducible repeat refine xc_seq ?_
  with_reducible refine xc_region ?_
  refine xo_loadR0 T_ rfl rfl rfl (by assumption) rfl ?_
  refine xo_mv rfl rfl rfl ?_
  refine xo_callB (fs := []) (cs := []) rfl rfl rfl contains_enters rfl (fun w1 hw1 => contains_calls A c zs x w1 (Kd.C_below hr hw1.kx.below)) ?_
  refine xo_asg rfl rfl rfl ?_
  with_reducible refine xo_nil ?_
  with_reducible repeat (first | refine xq_then ?_ | refine xq_blockN ?_ | refine xq_scopeN ?_)
  with_reducible repeat refine xc_seq ?_
  with_reducible refine xc_ret ?_
  with_reducible repeat (first | refine xq_thenR ?_ | refine xq_blockR ?_ | refine xq_scopeR ?_)
  exact xq_ret1 rfl rfl fun w' hw => ⟨rfl, hw.kx.below⟩
theorem deleteFunc_nil (p : Int → Bool) (g : Nat) (cs : List Value) (eg : ∀ args w, (callFunc g args).run Try.prog w = .ok (.enter g args) w) (w : World) (hp : Asks Try.prog w g cs (.int .i64) p) :
    Calls Try.prog 27 #[.slice none 0 0, .func (.func g) #[] cs.toArray] w fun e w' => e = .returned (.slice none 0 0) ∧ Below w.heap.size w w' := by
  have eg2 := enters_of Try.func49 (by kernel_rfl) rfl
  refine x_calls (X := XNone) Try.func27 rfl rfl rfl ?_
  with_reducible repeat refine xc_seq ?_
  with_reducible refine xc_region ?_
  refine xo_asg rfl rfl rfl ?_
  with_reducible refine xo_nil ?_
  with_reducible repeat (first | refine xq_then ?_ | refine xq_blockN ?_ | refine xq_scopeN ?_)
  with_reducible repeat refine xc_seq ?_
  with_reducible refine xc_region ?_
  refine xo_mv rfl rfl rfl ?_
  refine xo_mv rfl rfl rfl ?_
  refine xo_callB (fs := []) (cs := []) rfl rfl rfl eg2 rfl (fun w1 hw1 => indexFunc_calls p g cs eg none 0 [] w1 (Kd.C_nil _ _) (fun x W hW => hp x W (below_step hw1.kx.below hW))) ?_
  refine xo_asg rfl rfl rfl ?_
  with_reducible refine xo_nil ?_
  with_reducible repeat (first | refine xq_then ?_ | refine xq_blockN ?_ | refine xq_scopeN ?_)
  with_reducible repeat refine xc_seq ?_
  with_reducible refine xc_region ?_
  refine xo_mv rfl rfl rfl ?_
  refine xo_eql rfl rfl rfl rfl ?_
  with_reducible refine xo_nil ?_
  with_reducible repeat (first | refine xq_then ?_ | refine xq_blockN ?_ | refine xq_scopeN ?_)
  with_reducible repeat refine xc_seq ?_
  refine xc_condT rfl ?_
  with_reducible repeat refine xc_seq ?_
  with_reducible refine xc_region ?_
  refine xo_mv rfl rfl rfl ?_
  refine xo_asg rfl rfl rfl ?_
  with_reducible refine xo_nil ?_
  with_reducible repeat (first | refine xq_then ?_ | refine xq_blockN ?_ | refine xq_scopeN ?_)
  with_reducible repeat refine xc_seq ?_
  with_reducible refine xc_ret ?_
  with_reducible repeat (first | refine xq_thenR ?_ | refine xq_blockR ?_ | refine xq_scopeR ?_)
  exact xq_ret1 rfl rfl fun w' hw => ⟨rfl, hw.kx.below⟩
theorem delete_enters : ∀ args w, (callFunc 27 args).run Try.prog w = .ok (.enter 27 args) w := enters_of Try.func27 (by kernel_rfl) rfl
theorem takes1_enters : ∀ args w, (callFunc 28 args).run Try.prog w = .ok (.enter 28 args) w := enters_of Try.func28 (by kernel_rfl) rfl
def takesF (r : List RecT) (gone : List Int) (id : Int) : List Int := (holdsF r gone).filter fun n => !decide (n ∈ holdsF r (insN id gone))
def takesR (r : List RecT) (l : List LetT) (day id : Int) : List Int := if openF r l day [id] = 0 then takesF r (goneF r l day) id else []
theorem holdsF_len (r : List RecT) (gone : List Int) : (holdsF r gone).length ≤ r.length := holdsL_len gone r []
theorem RowAt.kx {e : TypeId} {base : Nat} {w w' : World} {X : Nat → Prop} {rr : RowR} {xs : List Int} (h : RowAt e base w rr xs) (k : Kx X w w') (hX : ∀ p, rr = some p → ¬ X p.1) : RowAt e base w' rr xs :=
  ⟨h.1, fun p hp => by
    obtain ⟨h1, o, h2, h3⟩ := h.2 p hp
    exact ⟨h1, o, (k.block _ (Array.getElem?_eq_some_iff.1 h2).1 (hX p hp)).trans h2, h3⟩⟩
theorem WOK.rowAt {w0 : World} {X : Nat → Prop} {η : Hp} {w : World} (h : WOK w0 X η w) {e : TypeId} {rr : RowR} {xs : List Int} (h0 : rr = none → xs = []) (hs : ∀ p, rr = some p → (p.1, true, orow e 1 xs.length p.2 (xs.map (.int .i64))) ∈ η) : RowAt e 0 w rr xs :=
  ⟨h0, fun p hp => ⟨Nat.zero_le _, h.bl _ (hs p hp)⟩⟩
theorem WOK.neH {w0 : World} {X : Nat → Prop} {η : Hp} {w : World} {e e' : Nat × Bool × HP} (h : WOK w0 X (e :: η) w) (he : e' ∈ η) : e.1 ≠ e'.1 := by
  have := h.nd
  simp only [List.map_cons, List.nodup_cons, List.mem_map, not_exists, not_and] at this
  exact fun q => this.1 e' he q.symm
theorem valR_cells (r : RowR) (n : Nat) : (valR r n).cells.toList = [valR r n] := by cases r <;> rfl
theorem valR_cells' (r : RowR) (n : Nat) : (valR r n).cells = #[valR r n] := by cases r <;> rfl
theorem takes_asks {X X0 : Nat → Prop} {w0 : World} {η : Hp} {w : World} {rr2 : RowR} {zs : List Int} {t : TypeId} {b13 : Nat} {wr : Bool} (hw : WOK w0 X0 η w) (hb : (b13, wr, cel [valR rr2 zs.length] t) ∈ η) (hr : RowAt 3 0 w rr2 zs) (hz : zs.length ≤ 1000000) (hX : ¬ X b13) (hX2 : ∀ p, rr2 = some p → ¬ X p.1) :
    AsksK Try.prog X w 28 [.pointer (some ⟨b13, 0, none⟩)] (fun x => decide (x ∈ zs)) := fun x W hW => by
  obtain ⟨A, c, e, hc, hC⟩ := (RowAt.kx hr hW hX2).C (by omega)
  have h1 := hW.cell (hw.cell hb 0 rfl) hX
  rw [e] at h1
  exact takes1_calls x A c zs b13 W h1 hC
set_option maxHeartbeats 8000000 in
theorem trustTakes_calls (A B : Option Addr) (c c' : Nat) (r : List RecT) (l : List LetT) (day id : Int) (w : World) (hr : Kd.C recK w A r.length r) (hl : Kd.C letK w B l.length l) (hk : Bytes r) (hkl : BytesL l) :
    Calls Try.prog 9 #[.slice A r.length c, .slice B l.length c', .int .i64 day, .int .i64 id] w fun e w' => ∃ rr : RowR, e = .returned (.tuple #[valR rr (takesR r l day id).length, .int .i64 (openF r l day [id])]) ∧ RowAt 3 w.heap.size w' rr (takesR r l day id) ∧ Below w.heap.size w w' := by
  refine x_calls (X := XNone) Try.func9 rfl rfl rfl ?_
  with_reducible repeat refine xc_seq ?_
  with_reducible refine xc_region ?_
  refine xo_asg rfl rfl rfl ?_
  refine xo_asg rfl rfl rfl ?_
  with_reducible refine xo_nil ?_
  with_reducible repeat (first | refine xq_then ?_ | refine xq_blockN ?_ | refine xq_scopeN ?_)
  with_reducible repeat refine xc_seq ?_
  with_reducible refine xc_region ?_
  refine xo_mv rfl rfl rfl ?_
  refine xo_mv rfl rfl rfl ?_
  refine xo_mv rfl rfl rfl ?_
  refine xo_mv rfl rfl rfl ?_
  refine xo_bs1 T_ rfl rfl rfl rfl rfl rfl rfl rfl (fun b19 => ?_)
  refine xo_call (fs := []) (cs := []) rfl rfl rfl open_enters rfl (fun w1 hw1 => (open_calls A B (some ⟨b19, 0, none⟩) c c' 1 r l day [id] w1 (Kd.C_below hr hw1.kx.below) (Kd.C_below hl hw1.kx.below) (C_cel hw1 (xs := [id]) (List.Mem.head _) (by simp)) hk hkl).mono ?_)
  rintro e w2 ⟨sv, rfl, hb, hne, h0⟩
  by_cases ho : openF r l day [id] = 0
  · obtain ⟨M, rfl, hM1, hM2⟩ := h0 ho
    obtain ⟨oM, hM3, hM4⟩ := hmap_of hM2
    rw [ho]
    refine ⟨_, _, rfl, hw1.more hb hM1 hM3 hM4, ?_⟩
    clear hb hM2 hM3 hM4 hne h0 hM1
    have hlen : r.length ≤ 1000000 := by have := openF_len ho; omega
    refine xo_mv rfl rfl rfl ?_
    refine xo_ext rfl rfl rfl rfl ?_
    refine xo_ext rfl rfl rfl rfl ?_
    refine xo_alloc T_ rfl rfl rfl rfl (fun b10 => ?_)
    refine xo_store T_ rfl rfl rfl rfl (by repeat (first | exact List.Mem.head _ | apply List.Mem.tail | apply List.mem_append_right)) rfl rfl rfl rfl (by repeat (first | exact Upd.head | apply Upd.tail | apply Upd.app)) rfl ?_
    refine xo_asg rfl rfl rfl ?_
    with_reducible refine xo_nil ?_
    with_reducible repeat (first | refine xq_then ?_ | refine xq_blockN ?_ | refine xq_scopeN ?_)
    with_reducible repeat refine xc_seq ?_
    with_reducible refine xc_region ?_
    refine xo_mv rfl rfl rfl ?_
    refine xo_neq rfl rfl rfl rfl ?_
    with_reducible refine xo_nil ?_
    with_reducible repeat (first | refine xq_then ?_ | refine xq_blockN ?_ | refine xq_scopeN ?_)
    with_reducible repeat refine xc_seq ?_
    refine xc_condF rfl ?_
    with_reducible refine xc_skip ?_
    with_reducible repeat (first | refine xq_then ?_ | refine xq_blockN ?_ | refine xq_scopeN ?_)
    with_reducible repeat refine xc_seq ?_
    with_reducible refine xc_region ?_
    refine xo_loadN T_ rfl rfl rfl (by repeat (first | exact List.Mem.head _ | apply List.Mem.tail | apply List.mem_append_right)) rfl rfl ?_
    refine xo_fa T_ rfl rfl rfl rfl rfl ?_
    refine xo_load0 T_ rfl rfl rfl (by repeat (first | exact List.Mem.head _ | apply List.Mem.tail | apply List.mem_append_right)) rfl rfl ?_
    refine xo_holds rfl rfl rfl rfl (fun b2 b3 => ?_)
    refine xo_collect (r := r) hr hlen rfl rfl (by repeat (first | exact List.Mem.head _ | apply List.Mem.tail | apply List.mem_append_right)) (by repeat (first | exact List.Mem.head _ | apply List.Mem.tail | apply List.mem_append_right)) (by repeat (first | exact List.Mem.head _ | apply List.Mem.tail | apply List.mem_append_right)) (fun w1 hw1 => ne_of_nd hw1) rfl (fun rr hrr => ?_)
    refine xo_asg rfl rfl rfl ?_
    with_reducible refine xo_nil ?_
    with_reducible repeat (first | refine xq_then ?_ | refine xq_blockN ?_ | refine xq_scopeN ?_)
    with_reducible repeat refine xc_seq ?_
    with_reducible refine xc_region ?_
    refine xo_fa T_ rfl rfl rfl rfl rfl ?_
    refine xo_load0 T_ rfl rfl rfl (by repeat (first | exact List.Mem.head _ | apply List.Mem.tail | apply List.mem_append_right)) rfl rfl ?_
    refine xo_mv rfl rfl rfl ?_
    refine xo_sins T_ rfl rfl rfl rfl rfl rfl (by repeat (first | exact List.Mem.head _ | apply List.Mem.tail | apply List.mem_append_right)) (by repeat (first | exact Upd.head | apply Upd.tail | apply Upd.app)) rfl ?_
    with_reducible refine xo_nil ?_
    with_reducible repeat (first | refine xq_then ?_ | refine xq_blockN ?_ | refine xq_scopeN ?_)
    with_reducible repeat refine xc_seq ?_
    with_reducible refine xc_region ?_
    refine xo_loadN T_ rfl rfl rfl (by repeat (first | exact List.Mem.head _ | apply List.Mem.tail | apply List.mem_append_right)) rfl rfl ?_
    refine xo_fa T_ rfl rfl rfl rfl rfl ?_
    refine xo_load0 T_ rfl rfl rfl (by repeat (first | exact List.Mem.head _ | apply List.Mem.tail | apply List.mem_append_right)) rfl rfl ?_
    refine xo_holds rfl rfl rfl rfl (fun b4 b5 => ?_)
    refine xo_collect (r := r) hr hlen rfl rfl (by repeat (first | exact List.Mem.head _ | apply List.Mem.tail | apply List.mem_append_right)) (by repeat (first | exact List.Mem.head _ | apply List.Mem.tail | apply List.mem_append_right)) (by repeat (first | exact List.Mem.head _ | apply List.Mem.tail | apply List.mem_append_right)) (fun w1 hw1 => ne_of_nd hw1) rfl (fun rr2 hrr2 => ?_)
    refine xo_alloc T_ rfl rfl rfl rfl (fun b13 => ?_)
    refine xo_store T_ rfl rfl rfl rfl (by repeat (first | exact List.Mem.head _ | apply List.Mem.tail | apply List.mem_append_right)) (valR_cells _ _) rfl (by cases rr2 <;> rfl) rfl (by repeat (first | exact Upd.head | apply Upd.tail | apply Upd.app)) rfl ?_
    with_reducible refine xo_nil ?_
    with_reducible repeat (first | refine xq_then ?_ | refine xq_blockN ?_ | refine xq_scopeN ?_)
    have hz : (holdsF r (insN id (goneF r l day))).length ≤ 1000000 := by have := holdsF_len r (insN id (goneF r l day)); omega
    have hz' : (holdsF r (goneF r l day)).length ≤ 1000000 := by have := holdsF_len r (goneF r l day); omega
    have ht : takesR r l day id = takesF r (goneF r l day) id := by rw [takesR, if_pos ho]
    rcases rr with _ | ⟨g1, cap1⟩
    · have hx0 := hrr rfl
      have ht0 : takesF r (goneF r l day) id = [] := by rw [takesF, hx0]; rfl
      with_reducible repeat refine xc_seq ?_
      with_reducible refine xc_region ?_
      refine xo_mv rfl rfl rfl ?_
      refine xo_mkf rfl rfl rfl rfl ?_
      refine xo_callB (fs := []) (cs := []) rfl rfl rfl delete_enters rfl (fun w1 hw1 => deleteFunc_nil (fun x => decide (x ∈ holdsF r (insN id (goneF r l day)))) _ _ takes1_enters w1 (fun x W hW => takes_asks (X := XNone) hw1 (List.Mem.head _) (hw1.rowAt hrr2 (fun p hp => by subst hp; exact List.Mem.tail _ (List.mem_append_left _ (List.Mem.head _)))) hz (fun h => h) (fun _ _ h => h) x W (Kx.of_below hW))) ?_
      refine xo_asg rfl rfl rfl ?_
      refine xo_asg rfl rfl rfl ?_
      with_reducible refine xo_nil ?_
      with_reducible repeat (first | refine xq_then ?_ | refine xq_blockN ?_ | refine xq_scopeN ?_)
      with_reducible repeat refine xc_seq ?_
      with_reducible refine xc_ret ?_
      with_reducible repeat (first | refine xq_thenR ?_ | refine xq_blockR ?_ | refine xq_scopeR ?_)
      refine xq_ret2 rfl rfl rfl fun w' hw => ⟨none, by rw [ht, ht0]; rfl, ?_, hw.kx.below⟩
      rw [ht, ht0]
      exact ⟨fun _ => rfl, fun p hp => by cases hp⟩
    · with_reducible repeat refine xc_seq ?_
      with_reducible refine xc_region ?_
      refine xo_mv rfl rfl rfl ?_
      refine xo_mkf rfl rfl rfl rfl ?_
      refine xo_call (fs := []) (cs := []) rfl rfl rfl delete_enters rfl (fun w1 hw1 => ?_)
      have hm1 := hw1.neH (e' := (g1, true, orow 3 1 (holdsF r (goneF r l day)).length cap1 ((holdsF r (goneF r l day)).map (.int .i64)))) (List.mem_append_right _ (by repeat (first | exact List.Mem.head _ | apply List.Mem.tail)))
      have hm2 : ∀ p, rr2 = some p → p.1 ≠ g1 := fun p hp => by subst hp; exact (hw1.sub (List.Sublist.cons _ (List.Sublist.refl _))).neH (e' := (g1, true, orow 3 1 (holdsF r (goneF r l day)).length cap1 ((holdsF r (goneF r l day)).map (.int .i64)))) (List.Mem.tail _ (List.Mem.tail _ (List.Mem.head _)))
      obtain ⟨o1, ho1, ho2⟩ := hw1.bl (g1, true, orow 3 1 (holdsF r (goneF r l day)).length cap1 ((holdsF r (goneF r l day)).map (.int .i64))) (List.Mem.tail _ (List.mem_append_right _ (by repeat (first | exact List.Mem.head _ | apply List.Mem.tail))))
      refine (deleteFunc_calls (fun x => decide (x ∈ holdsF r (insN id (goneF r l day)))) _ _ takes1_enters g1 cap1 (holdsF r (goneF r l day)) w1 o1 ho1 ho2 hz' (takes_asks hw1 (List.Mem.head _) (hw1.rowAt hrr2 (fun p hp => by subst hp; exact List.Mem.tail _ (List.mem_append_left _ (List.Mem.head _)))) hz hm1 hm2)).mono ?_
      rintro e w3 ⟨rfl, hk3, o3, ho3, ho4⟩
      refine ⟨_, _, rfl, hw1.updK (φ' := orow 3 1 (takesF r (goneF r l day) id).length cap1 ((takesF r (goneF r l day) id).map (.int .i64))) (Upd.tail (Upd.app (by repeat (first | exact Upd.head | apply Upd.tail)) _)) hk3 ho3 ho4, ?_⟩
      refine xo_asg rfl rfl rfl ?_
      refine xo_asg rfl rfl rfl ?_
      with_reducible refine xo_nil ?_
      with_reducible repeat (first | refine xq_then ?_ | refine xq_blockN ?_ | refine xq_scopeN ?_)
      with_reducible repeat refine xc_seq ?_
      with_reducible refine xc_ret ?_
      with_reducible repeat (first | refine xq_thenR ?_ | refine xq_blockR ?_ | refine xq_scopeR ?_)
      refine xq_ret2 rfl rfl rfl fun w' hw => ⟨some (g1, cap1), by rw [ht]; rfl, ?_, hw.kx.below⟩
      rw [ht]
      exact ⟨(fun h => by cases h), fun p hp => by
        cases hp
        exact ⟨hw.own (List.Mem.tail _ (List.mem_append_right _ (by repeat (first | exact List.Mem.head _ | apply List.Mem.tail)))), hw.bl (g1, true, orow 3 1 (takesF r (goneF r l day) id).length cap1 ((takesF r (goneF r l day) id).map (.int .i64))) (List.Mem.tail _ (List.mem_append_right _ (by repeat (first | exact List.Mem.head _ | apply List.Mem.tail))))⟩⟩
  · obtain rfl := hne ho
    refine ⟨_, _, rfl, hw1.below hb, ?_⟩
    clear hb hne h0
    refine xo_mv rfl rfl rfl ?_
    refine xo_ext rfl rfl rfl rfl ?_
    refine xo_ext rfl rfl rfl rfl ?_
    refine xo_alloc T_ rfl rfl rfl rfl (fun b8 => ?_)
    refine xo_store T_ rfl rfl rfl rfl (by repeat (first | exact List.Mem.head _ | apply List.Mem.tail | apply List.mem_append_right)) rfl rfl rfl rfl (by repeat (first | exact Upd.head | apply Upd.tail | apply Upd.app)) rfl ?_
    refine xo_asg rfl rfl rfl ?_
    with_reducible refine xo_nil ?_
    with_reducible repeat (first | refine xq_then ?_ | refine xq_blockN ?_ | refine xq_scopeN ?_)
    have hd : (!decide (openF r l day [id] = 0)) = true := by simp [ho]
    with_reducible repeat refine xc_seq ?_
    with_reducible refine xc_region ?_
    refine xo_mv rfl rfl rfl ?_
    refine xo_neq rfl rfl rfl rfl ?_
    refine xo_as (i := 24) rfl (congrArg Value.bool hd) ?_
    with_reducible refine xo_nil ?_
    with_reducible repeat (first | refine xq_then ?_ | refine xq_blockN ?_ | refine xq_scopeN ?_)
    with_reducible repeat refine xc_seq ?_
    refine xc_condT rfl ?_
    with_reducible repeat refine xc_seq ?_
    with_reducible refine xc_region ?_
    refine xo_mv rfl rfl rfl ?_
    refine xo_asg rfl rfl rfl ?_
    refine xo_asg rfl rfl rfl ?_
    with_reducible refine xo_nil ?_
    with_reducible repeat (first | refine xq_then ?_ | refine xq_blockN ?_ | refine xq_scopeN ?_)
    with_reducible repeat refine xc_seq ?_
    with_reducible refine xc_ret ?_
    with_reducible repeat (first | refine xq_thenR ?_ | refine xq_blockR ?_ | refine xq_scopeR ?_)
    refine xq_ret2 rfl rfl rfl fun w' hw => ⟨none, by rw [takesR, if_neg ho]; rfl, ?_, hw.kx.below⟩
    rw [takesR, if_neg ho]
    exact ⟨fun _ => rfl, fun p hp => by cases hp⟩
end Go.Proofs.Ytcmepdamemnbkaa
