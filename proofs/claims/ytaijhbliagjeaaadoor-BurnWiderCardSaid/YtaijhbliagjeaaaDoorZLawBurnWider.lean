/- BurnWider: the row: whatever comes in, the call returns true, and what came in reads as it did. Out of the plain law and the printed machine side. -/
import Derived.Test.YtaijhbliagjeaaaDoorRows
import Derived.Test.YtaijhbliagjeaaaDoorPkLawBurnWider1
import Derived.Test.YtaijhbliagjeaaaDoorPkLawBurnWider9
import Derived.Test.YtaijhbliagjeaaaDoorCards
import Derived.Test.YtaijhbliagjeaaaDoorTie
import Derived.Test.YtaijhbliagjeaaaDoorPkLawBurnWider7
import Derived.SevenTiedAt
import Derived.LaidLaws
import Derived.LaidHandle
import Derived.LaidMore
import Derived.JoinedOf
import Derived.ChangeVars
import Derived.Stop.Joined
import Derived.WalkKit
import Derived.ProofKit
import Derived.OpenShut
import Derived.ShutString
import Derived.ChangeOld
import Derived.Below
import Derived.SizedLaws
import Derived.OpenVars
namespace Go.Proofs.YtaijhbliagjeaaaDoor.burnWider
open Go.ChangeShapes Go.WideShapes Go.ChangeAt Go.RowKit Go.Proofs.YtaijhbliagjeaaaDoor Go.Proofs.YtaijhbliagjeaaaDoorW.PrintWords
set_option linter.unusedVariables false
set_option linter.unusedSimpArgs false
theorem own : ownKnob Tryd.prog.godebug = none := by kernel_rfl
theorem laidOut : laidOutB Tryd.prog = true := by kernel_rfl
set_option maxRecDepth 100000 in
theorem opens_t3 : Opens Tryd.prog 3 (Kd.int .i64) (fun n => (Lit.int .i64 n).wf = true) := opens_int Tryd.underlying3 (by kernel_rfl)
set_option maxRecDepth 100000 in
theorem opens_t23 : Opens Tryd.prog 23 (Kd.pair (Kd.int .i64) (Kd.int .i64)) (fun (x : (Int × Int)) => (fun n => (Lit.int .i64 n).wf = true) x.1 ∧ (fun n => (Lit.int .i64 n).wf = true) x.2) := opens_struct (d := (Kd.pair (Kd.int .i64) (Kd.int .i64))) (G := (fun (x : (Int × Int)) => (fun n => (Lit.int .i64 n).wf = true) x.1 ∧ (fun n => (Lit.int .i64 n).wf = true) x.2)) Tryd.underlying23 (by kernel_rfl) (opensF_cons (P := Tryd.prog) (off := 0) (Ga := (fun n => (Lit.int .i64 n).wf = true)) (Gb := (fun n => (Lit.int .i64 n).wf = true)) rfl opens_t3 (opensF_one (P := Tryd.prog) (off := 1) rfl opens_t3))
set_option maxRecDepth 100000 in
theorem opens_t25 : Opens Tryd.prog 25 (Kd.pair (Kd.pair (Kd.int .i64) (Kd.int .i64)) (Kd.pair (Kd.pair (Kd.int .i64) (Kd.int .i64)) (Kd.pair (Kd.pair (Kd.int .i64) (Kd.int .i64)) (Kd.pair (Kd.pair (Kd.int .i64) (Kd.int .i64)) (Kd.int .i64))))) (fun (x : ((Int × Int) × ((Int × Int) × ((Int × Int) × ((Int × Int) × Int))))) => (fun (x : (Int × Int)) => (fun n => (Lit.int .i64 n).wf = true) x.1 ∧ (fun n => (Lit.int .i64 n).wf = true) x.2) x.1 ∧ (fun (x : ((Int × Int) × ((Int × Int) × ((Int × Int) × Int)))) => (fun (x : (Int × Int)) => (fun n => (Lit.int .i64 n).wf = true) x.1 ∧ (fun n => (Lit.int .i64 n).wf = true) x.2) x.1 ∧ (fun (x : ((Int × Int) × ((Int × Int) × Int))) => (fun (x : (Int × Int)) => (fun n => (Lit.int .i64 n).wf = true) x.1 ∧ (fun n => (Lit.int .i64 n).wf = true) x.2) x.1 ∧ (fun (x : ((Int × Int) × Int)) => (fun (x : (Int × Int)) => (fun n => (Lit.int .i64 n).wf = true) x.1 ∧ (fun n => (Lit.int .i64 n).wf = true) x.2) x.1 ∧ (fun n => (Lit.int .i64 n).wf = true) x.2) x.2) x.2) x.2) := opens_struct (d := (Kd.pair (Kd.pair (Kd.int .i64) (Kd.int .i64)) (Kd.pair (Kd.pair (Kd.int .i64) (Kd.int .i64)) (Kd.pair (Kd.pair (Kd.int .i64) (Kd.int .i64)) (Kd.pair (Kd.pair (Kd.int .i64) (Kd.int .i64)) (Kd.int .i64)))))) (G := (fun (x : ((Int × Int) × ((Int × Int) × ((Int × Int) × ((Int × Int) × Int))))) => (fun (x : (Int × Int)) => (fun n => (Lit.int .i64 n).wf = true) x.1 ∧ (fun n => (Lit.int .i64 n).wf = true) x.2) x.1 ∧ (fun (x : ((Int × Int) × ((Int × Int) × ((Int × Int) × Int)))) => (fun (x : (Int × Int)) => (fun n => (Lit.int .i64 n).wf = true) x.1 ∧ (fun n => (Lit.int .i64 n).wf = true) x.2) x.1 ∧ (fun (x : ((Int × Int) × ((Int × Int) × Int))) => (fun (x : (Int × Int)) => (fun n => (Lit.int .i64 n).wf = true) x.1 ∧ (fun n => (Lit.int .i64 n).wf = true) x.2) x.1 ∧ (fun (x : ((Int × Int) × Int)) => (fun (x : (Int × Int)) => (fun n => (Lit.int .i64 n).wf = true) x.1 ∧ (fun n => (Lit.int .i64 n).wf = true) x.2) x.1 ∧ (fun n => (Lit.int .i64 n).wf = true) x.2) x.2) x.2) x.2)) Tryd.underlying25 (by kernel_rfl) (opensF_cons (P := Tryd.prog) (off := 0) (Ga := (fun (x : (Int × Int)) => (fun n => (Lit.int .i64 n).wf = true) x.1 ∧ (fun n => (Lit.int .i64 n).wf = true) x.2)) (Gb := (fun (x : ((Int × Int) × ((Int × Int) × ((Int × Int) × Int)))) => (fun (x : (Int × Int)) => (fun n => (Lit.int .i64 n).wf = true) x.1 ∧ (fun n => (Lit.int .i64 n).wf = true) x.2) x.1 ∧ (fun (x : ((Int × Int) × ((Int × Int) × Int))) => (fun (x : (Int × Int)) => (fun n => (Lit.int .i64 n).wf = true) x.1 ∧ (fun n => (Lit.int .i64 n).wf = true) x.2) x.1 ∧ (fun (x : ((Int × Int) × Int)) => (fun (x : (Int × Int)) => (fun n => (Lit.int .i64 n).wf = true) x.1 ∧ (fun n => (Lit.int .i64 n).wf = true) x.2) x.1 ∧ (fun n => (Lit.int .i64 n).wf = true) x.2) x.2) x.2)) rfl opens_t23 (opensF_cons (P := Tryd.prog) (off := 2) (Ga := (fun (x : (Int × Int)) => (fun n => (Lit.int .i64 n).wf = true) x.1 ∧ (fun n => (Lit.int .i64 n).wf = true) x.2)) (Gb := (fun (x : ((Int × Int) × ((Int × Int) × Int))) => (fun (x : (Int × Int)) => (fun n => (Lit.int .i64 n).wf = true) x.1 ∧ (fun n => (Lit.int .i64 n).wf = true) x.2) x.1 ∧ (fun (x : ((Int × Int) × Int)) => (fun (x : (Int × Int)) => (fun n => (Lit.int .i64 n).wf = true) x.1 ∧ (fun n => (Lit.int .i64 n).wf = true) x.2) x.1 ∧ (fun n => (Lit.int .i64 n).wf = true) x.2) x.2)) rfl opens_t23 (opensF_cons (P := Tryd.prog) (off := 4) (Ga := (fun (x : (Int × Int)) => (fun n => (Lit.int .i64 n).wf = true) x.1 ∧ (fun n => (Lit.int .i64 n).wf = true) x.2)) (Gb := (fun (x : ((Int × Int) × Int)) => (fun (x : (Int × Int)) => (fun n => (Lit.int .i64 n).wf = true) x.1 ∧ (fun n => (Lit.int .i64 n).wf = true) x.2) x.1 ∧ (fun n => (Lit.int .i64 n).wf = true) x.2)) rfl opens_t23 (opensF_cons (P := Tryd.prog) (off := 6) (Ga := (fun (x : (Int × Int)) => (fun n => (Lit.int .i64 n).wf = true) x.1 ∧ (fun n => (Lit.int .i64 n).wf = true) x.2)) (Gb := (fun n => (Lit.int .i64 n).wf = true)) rfl opens_t23 (opensF_one (P := Tryd.prog) (off := 8) rfl opens_t3)))))
set_option maxRecDepth 100000 in
theorem opens_t26 : Opens Tryd.prog 26 (Kd.slice 3 (Kd.int .i64)) (fun (xs : List Int) => xs.length ≤ maxLen ∧ ∀ x ∈ xs, (fun n => (Lit.int .i64 n).wf = true) x) := opens_slice 3 Tryd.underlying26 (by kernel_rfl) opens_t3
set_option maxRecDepth 100000 in
theorem opens_t50 : Opens Tryd.prog 50 (Kd.int .u32) (fun n => (Lit.int .u32 n).wf = true) := opens_int Tryd.underlying50 (by kernel_rfl)
set_option maxRecDepth 100000 in
theorem opens_t27 : Opens Tryd.prog 27 (Kd.slice 50 (Kd.int .u32)) (fun (xs : List Int) => xs.length ≤ maxLen ∧ ∀ x ∈ xs, (fun n => (Lit.int .u32 n).wf = true) x) := opens_slice 50 Tryd.underlying27 (by kernel_rfl) opens_t50
set_option maxRecDepth 100000 in
set_option maxHeartbeats 1000000 in
theorem lifted (os : Os) (started : os.Started) (H : Type) (enc : TypeId × Value → H) :
    ReturnsInHanded {} Tryd.checked os 3 .any (fun w args => (Rows.burnWiderSpec.pre enc Tryd.prog Tryd.f3 [] false w args ∧ laidMetH Tryd.prog laidL w) ∧ sizedMet enc Tryd.prog Tryd.f3 (OpenSpec.ofChange Rows.burnWiderSpec) false w args) (Rows.burnWiderSpec.post enc Tryd.prog Tryd.f3 false true false false) := by
  refine returnsInHanded_of_change_and (C := Tryd.checked) (X := fun w _ => laidMetH Tryd.prog laidL w) (fun _ _ _ hh h => h.of_heap hh) own started (by kernel_rfl) Tryd.func3
    (ChangeSpec.witness_shaped (enc := enc) (C := Tryd.checked) (os := os) (X := fun w _ => laidMetH Tryd.prog laidL w) false (World.doorLaid Tryd.prog 400 os) #[.agg #[.int .i64 0, .int .i64 0, .int .i64 0, .int .i64 0, .int .i64 0, .int .i64 0, .int .i64 0, .int .i64 0, .int .i64 0], .slice none 0 0, .slice none 0 0, .int .u8 0, .int .i64 0] 8 rfl (World.shaped_of_RefB (by kernel_rfl) (by kernel_rfl)) (by kernel_rfl) (by kernel_rfl) (by kernel_rfl) (door_met os _)) ?_
  intro W base args ds gs before hval0 hW _ _ hL hsz0
  have hval : ∀ (j : Nat) t v, Tryd.f3.params[j]? = some t → args[j]? = some v → Value.okWide Tryd.prog W .any base t v := hval0
  have hW' := hW
  obtain ⟨p, q, hA0, hV, rfl, hfz, hnd⟩ := hW
  have hA : DataW.TrodAll enc Tryd.prog W 0 (fun _ => true) true Tryd.f3.params.toList args.toList ds p := hA0
  rw [Tryd.params3] at hA hval
  obtain ⟨v0, vs0, d0, ds0, p0, q0, hargs, rfl, rfl, h0, r0⟩ := trodAll_cons hA
  obtain ⟨v1, vs1, d1, ds1, p1, q1, rfl, rfl, rfl, h1, r1⟩ := trodAll_cons r0
  obtain ⟨v2, vs2, d2, ds2, p2, q2, rfl, rfl, rfl, h2, r2⟩ := trodAll_cons r1
  obtain ⟨v3, vs3, d3, ds3, p3, q3, rfl, rfl, rfl, h3, r3⟩ := trodAll_cons r2
  obtain ⟨v4, vs4, d4, ds4, p4, q4, rfl, rfl, rfl, h4, r4⟩ := trodAll_cons r3
  obtain ⟨rfl, rfl, rfl⟩ := trodAll_nil r4
  obtain rfl : args = #[v0, v1, v2, v3, v4] := by cases args; simp_all
  obtain ⟨rfl, rfl⟩ := trodVars_none hV
  have k0 := h0
  have lt0 : ∀ x ∈ p0, x.block < W.heap.size := by obtain ⟨m, hm⟩ := k0; exact DataW.trod_lt m _ _ _ hm
  obtain ⟨cs0, rfl, hz0⟩ := okWide_struct Tryd.underlying25 (hval 0 25 v0 rfl rfl)
  obtain ⟨fuel0, hf0⟩ := h0
  obtain ⟨x0, hK0, hG0⟩ := opens_t25.2 H enc W fuel0 _ _ _ hf0
  obtain ⟨_, _, e0, ⟨_, _, rfl, rfl, rfl⟩, ⟨_, _, rfl, ⟨_, _, rfl, rfl, rfl⟩, ⟨_, _, rfl, ⟨_, _, rfl, rfl, rfl⟩, ⟨_, _, rfl, ⟨_, _, rfl, rfl, rfl⟩, rfl⟩⟩⟩⟩ := hK0
  obtain rfl : cs0 = #[.int .i64 x0.1.1, .int .i64 x0.1.2, .int .i64 x0.2.1.1, .int .i64 x0.2.1.2, .int .i64 x0.2.2.1.1, .int .i64 x0.2.2.1.2, .int .i64 x0.2.2.2.1.1, .int .i64 x0.2.2.2.1.2, .int .i64 x0.2.2.2.2] := by cases cs0; simpa [Value.cells] using e0
  have k1 := h1
  have lt1 : ∀ x ∈ p1, x.block < W.heap.size := by obtain ⟨m, hm⟩ := k1; exact DataW.trod_lt m _ _ _ hm
  obtain ⟨A1, n1, c1, rfl⟩ := okWide_slice Tryd.underlying26 (hval 1 26 v1 rfl rfl)
  obtain ⟨fuel1, hf1⟩ := h1
  obtain ⟨l1, hK1, hm1, hG1⟩ := opens_t26.2 H enc W fuel1 _ _ _ hf1
  obtain ⟨A1', c1', e1, hc1, hr1⟩ := hK1
  simp only [Value.cells, List.cons.injEq, Value.slice.injEq, and_true] at e1
  obtain ⟨rfl, rfl, rfl⟩ := e1
  have k2 := h2
  have lt2 : ∀ x ∈ p2, x.block < W.heap.size := by obtain ⟨m, hm⟩ := k2; exact DataW.trod_lt m _ _ _ hm
  obtain ⟨A2, n2, c2, rfl⟩ := okWide_slice Tryd.underlying27 (hval 2 27 v2 rfl rfl)
  obtain ⟨fuel2, hf2⟩ := h2
  obtain ⟨l2, hK2, hm2, hG2⟩ := opens_t27.2 H enc W fuel2 _ _ _ hf2
  obtain ⟨A2', c2', e2, hc2, hr2⟩ := hK2
  simp only [Value.cells, List.cons.injEq, Value.slice.injEq, and_true] at e2
  obtain ⟨rfl, rfl, rfl⟩ := e2
  have k3 := h3
  have lt3 : ∀ x ∈ p3, x.block < W.heap.size := by obtain ⟨m, hm⟩ := k3; exact DataW.trod_lt m _ _ _ hm
  obtain ⟨a3, rfl, rfl, rfl, w3⟩ := open_int Tryd.underlying5 (hval 3 5 v3 rfl rfl) h3
  have k4 := h4
  have lt4 : ∀ x ∈ p4, x.block < W.heap.size := by obtain ⟨m, hm⟩ := k4; exact DataW.trod_lt m _ _ _ hm
  obtain ⟨a4, rfl, rfl, rfl, w4⟩ := open_int Tryd.underlying3 (hval 4 3 v4 rfl rfl) h4
  clear hA0 hval0 hsz0
  refine (burnWider_law x0.1.1 x0.1.2 x0.2.1.1 x0.2.1.2 x0.2.2.1.1 x0.2.2.1.2 x0.2.2.2.1.1 x0.2.2.2.1.2 x0.2.2.2.2 A1 A2 _ _ l1 l2 a3 a4 W hr1 hc1 hr2 hc2 ⟨hm2, fun x hx => Go.Proofs.YtaijhbliagjeaaaDoor.Pure.u32_ok (hG2 x hx)⟩ (Go.Proofs.YtaijhbliagjeaaaDoor.Pure.u8_ok w3) (glob_of_laid hL)).mono fun e W' ⟨he, bel0⟩ => ?_
  have bel : Below W.heap.size W W' := bel0
  subst he
  exact ⟨_, rfl, _, _, _, [], _, [], hW', trodAll_mk1 (shut_bool Tryd.underlying4 _), (trodAll_cons_mk (Below.trod laidOut (by kernel_rfl) (of_decide_eq_true (by kernel_rfl)) k0 bel lt0) (trodAll_cons_mk (Below.trod laidOut (by kernel_rfl) (of_decide_eq_true (by kernel_rfl)) k1 bel lt1) (trodAll_cons_mk (Below.trod laidOut (by kernel_rfl) (of_decide_eq_true (by kernel_rfl)) k2 bel lt2) (trodAll_cons_mk (Below.trod laidOut (by kernel_rfl) (of_decide_eq_true (by kernel_rfl)) k3 bel lt3) (trodAll_cons_mk (Below.trod laidOut (by kernel_rfl) (of_decide_eq_true (by kernel_rfl)) k4 bel lt4) trodAll_mk0))))), rfl, bel.frame _, fun h => by cases h⟩
theorem over : Rows.burnWiderRow.holds Tryd.pinned (OpenSpec.ofChange Rows.burnWiderSpec) :=
  OpenClaim.holds_of_wide 3 Tryd.f3 rfl rfl rfl rfl rfl rfl rfl ⟨rfl, rfl, rfl, rfl, rfl⟩ rfl rfl rfl rfl rfl (by kernel_rfl) Tryd.func3 (by kernel_rfl)
    (of_decide_eq_true (by kernel_rfl)) (by unfold Func.isWrapper; first | (rw [if_pos (by decide +kernel)]; kernel_rfl) | (rw [if_neg (by decide +kernel)]; exact ⟨rfl, rfl⟩))
    (fun os started H enc _ => lifted os started H enc)
theorem proved : Rows.BurnWiderSaid := over
theorem card : Rows.BurnWiderCardSaid :=
  Claim7.holds_tied_plain_at .later [] [.funcs] true (true, "5b3bc9877a03f6fb40c2432f7dba791a2daf7e625d091a94377e80f1bc3bfe69") false proved (fun _ h => by cases h) (by kernel_rfl) (fun _ h => by cases h) burnWider_row_tie rfl ⟨rfl, rfl⟩ (by kernel_rfl) rfl
    (fun f fn hf hfn => by
      obtain rfl : f = 3 := Option.some.inj ((show Tryd.prog.funcNamed "cottonpad/cottonpadlaw04.BurnWider" = some 3 by kernel_rfl).symm.trans hf) |>.symm
      obtain rfl : fn = Tryd.f3 := (Option.some.inj (Tryd.func3.symm.trans hfn)).symm
      exact ⟨by kernel_rfl, fun j t ht => by
        rw [Tryd.params3] at ht
        have hm : t ∈ [25, 26, 27, 5, 3] := by simpa using Array.mem_of_getElem? ht
        have hall : ([25, 26, 27, 5, 3].all fun u => !Tryd.prog.wantsStandIn u) = true := by kernel_rfl
        exact (show Tryd.prog.wantsStandIn t = false by simpa using List.all_eq_true.1 hall t hm)⟩)
    (by kernel_rfl)
#print axioms card
end Go.Proofs.YtaijhbliagjeaaaDoor.burnWider
namespace Go.Proofs.YtaijhbliagjeaaaDoor
/-- The card, under a short name, for the claim. -/
theorem burnWider_holds : Rows.BurnWiderCardSaid := burnWider.card
end Go.Proofs.YtaijhbliagjeaaaDoor
