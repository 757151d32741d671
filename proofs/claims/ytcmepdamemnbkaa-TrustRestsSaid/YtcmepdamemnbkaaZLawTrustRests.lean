/- TrustRests: the row: whatever comes in, the call returns true, and what came in reads as it did. Out of the plain law and the printed machine side. -/
import Derived.Test.YtcmepdamemnbkaaRows
import Derived.Test.YtcmepdamemnbkaaOpens
import Derived.Test.YtcmepdamemnbkaaPkLawTrustRests8
import Derived.WalkKit
import Derived.ProofKit
import Derived.OpenShut
import Derived.ShutString
import Derived.ChangeOld
import Derived.Below
import Derived.SizedLaws
namespace Go.Proofs.Ytcmepdamemnbkaa.trustRests
open Go.ChangeShapes Go.WideShapes Go.ChangeAt Go.RowKit Go.Proofs.Ytcmepdamemnbkaa Go.Proofs.YtcmepdamemnbkaaW.PrintWords
set_option linter.unusedVariables false
set_option linter.unusedSimpArgs false
theorem own : ownKnob Try.prog.godebug = none := by kernel_rfl
theorem laidOut : laidOutB Try.prog = true := by kernel_rfl
set_option maxRecDepth 100000 in
theorem opens_t3 : Opens Try.prog 3 (Kd.int .i64) (fun n => (Lit.int .i64 n).wf = true) := opens_int Try.underlying3 (by kernel_rfl)
set_option maxRecDepth 100000 in
theorem opens_t5 : Opens Try.prog 5 (Kd.int .u8) (fun n => (Lit.int .u8 n).wf = true) := opens_int Try.underlying5 (by kernel_rfl)
set_option maxRecDepth 100000 in
theorem opens_t26 : Opens Try.prog 26 (Kd.slice 3 (Kd.int .i64)) (fun (xs : List Int) => xs.length ≤ maxLen ∧ ∀ x ∈ xs, (fun n => (Lit.int .i64 n).wf = true) x) := opens_slice 3 Try.underlying26 (by kernel_rfl) opens_t3
set_option maxRecDepth 100000 in
theorem opens_t41 : Opens Try.prog 41 (Kd.slice 26 (Kd.slice 3 (Kd.int .i64))) (fun (xs : List (List Int)) => xs.length ≤ maxLen ∧ ∀ x ∈ xs, (fun (xs : List Int) => xs.length ≤ maxLen ∧ ∀ x ∈ xs, (fun n => (Lit.int .i64 n).wf = true) x) x) := opens_slice 26 Try.underlying41 (by kernel_rfl) opens_t26
set_option maxRecDepth 100000 in
theorem opens_t43 : Opens Try.prog 43 (Kd.pair (Kd.int .i64) (Kd.pair (Kd.int .u8) (Kd.slice 26 (Kd.slice 3 (Kd.int .i64))))) (fun (x : (Int × (Int × (List (List Int))))) => (fun n => (Lit.int .i64 n).wf = true) x.1 ∧ (fun (x : (Int × (List (List Int)))) => (fun n => (Lit.int .u8 n).wf = true) x.1 ∧ (fun (xs : List (List Int)) => xs.length ≤ maxLen ∧ ∀ x ∈ xs, (fun (xs : List Int) => xs.length ≤ maxLen ∧ ∀ x ∈ xs, (fun n => (Lit.int .i64 n).wf = true) x) x) x.2) x.2) := opens_struct (d := (Kd.pair (Kd.int .i64) (Kd.pair (Kd.int .u8) (Kd.slice 26 (Kd.slice 3 (Kd.int .i64)))))) (G := (fun (x : (Int × (Int × (List (List Int))))) => (fun n => (Lit.int .i64 n).wf = true) x.1 ∧ (fun (x : (Int × (List (List Int)))) => (fun n => (Lit.int .u8 n).wf = true) x.1 ∧ (fun (xs : List (List Int)) => xs.length ≤ maxLen ∧ ∀ x ∈ xs, (fun (xs : List Int) => xs.length ≤ maxLen ∧ ∀ x ∈ xs, (fun n => (Lit.int .i64 n).wf = true) x) x) x.2) x.2)) Try.underlying43 (by kernel_rfl) (opensF_cons (P := Try.prog) (off := 0) (Ga := (fun n => (Lit.int .i64 n).wf = true)) (Gb := (fun (x : (Int × (List (List Int)))) => (fun n => (Lit.int .u8 n).wf = true) x.1 ∧ (fun (xs : List (List Int)) => xs.length ≤ maxLen ∧ ∀ x ∈ xs, (fun (xs : List Int) => xs.length ≤ maxLen ∧ ∀ x ∈ xs, (fun n => (Lit.int .i64 n).wf = true) x) x) x.2)) rfl opens_t3 (opensF_cons (P := Try.prog) (off := 1) (Ga := (fun n => (Lit.int .u8 n).wf = true)) (Gb := (fun (xs : List (List Int)) => xs.length ≤ maxLen ∧ ∀ x ∈ xs, (fun (xs : List Int) => xs.length ≤ maxLen ∧ ∀ x ∈ xs, (fun n => (Lit.int .i64 n).wf = true) x) x)) rfl opens_t5 (opensF_one (P := Try.prog) (off := 2) rfl opens_t41)))
set_option maxRecDepth 100000 in
theorem opens_t22 : Opens Try.prog 22 (Kd.slice 43 k43) (fun (xs : List S43) => xs.length ≤ maxLen ∧ ∀ x ∈ xs, (fun y => (fun (x : (Int × (Int × (List (List Int))))) => (fun n => (Lit.int .i64 n).wf = true) x.1 ∧ (fun (x : (Int × (List (List Int)))) => (fun n => (Lit.int .u8 n).wf = true) x.1 ∧ (fun (xs : List (List Int)) => xs.length ≤ maxLen ∧ ∀ x ∈ xs, (fun (xs : List Int) => xs.length ≤ maxLen ∧ ∀ x ∈ xs, (fun n => (Lit.int .i64 n).wf = true) x) x) x.2) x.2) ((fun x : S43 => (x.f0, x.f1, x.f2)) y)) x) := opens_slice 43 Try.underlying22 (by kernel_rfl) (opens_iso opens_t43 (fun x : S43 => (x.f0, x.f1, x.f2)) (fun y => ⟨y.1, y.2.1, y.2.2⟩) (fun _ => rfl))
set_option maxRecDepth 100000 in
theorem opens_t65 : Opens Try.prog 65 (Kd.pair (Kd.int .i64) (Kd.pair (Kd.int .i64) (Kd.pair (Kd.int .i64) (Kd.int .u8)))) (fun (x : (Int × (Int × (Int × Int)))) => (fun n => (Lit.int .i64 n).wf = true) x.1 ∧ (fun (x : (Int × (Int × Int))) => (fun n => (Lit.int .i64 n).wf = true) x.1 ∧ (fun (x : (Int × Int)) => (fun n => (Lit.int .i64 n).wf = true) x.1 ∧ (fun n => (Lit.int .u8 n).wf = true) x.2) x.2) x.2) := opens_struct (d := (Kd.pair (Kd.int .i64) (Kd.pair (Kd.int .i64) (Kd.pair (Kd.int .i64) (Kd.int .u8))))) (G := (fun (x : (Int × (Int × (Int × Int)))) => (fun n => (Lit.int .i64 n).wf = true) x.1 ∧ (fun (x : (Int × (Int × Int))) => (fun n => (Lit.int .i64 n).wf = true) x.1 ∧ (fun (x : (Int × Int)) => (fun n => (Lit.int .i64 n).wf = true) x.1 ∧ (fun n => (Lit.int .u8 n).wf = true) x.2) x.2) x.2)) Try.underlying65 (by kernel_rfl) (opensF_cons (P := Try.prog) (off := 0) (Ga := (fun n => (Lit.int .i64 n).wf = true)) (Gb := (fun (x : (Int × (Int × Int))) => (fun n => (Lit.int .i64 n).wf = true) x.1 ∧ (fun (x : (Int × Int)) => (fun n => (Lit.int .i64 n).wf = true) x.1 ∧ (fun n => (Lit.int .u8 n).wf = true) x.2) x.2)) rfl opens_t3 (opensF_cons (P := Try.prog) (off := 1) (Ga := (fun n => (Lit.int .i64 n).wf = true)) (Gb := (fun (x : (Int × Int)) => (fun n => (Lit.int .i64 n).wf = true) x.1 ∧ (fun n => (Lit.int .u8 n).wf = true) x.2)) rfl opens_t3 (opensF_cons (P := Try.prog) (off := 2) (Ga := (fun n => (Lit.int .i64 n).wf = true)) (Gb := (fun n => (Lit.int .u8 n).wf = true)) rfl opens_t3 (opensF_one (P := Try.prog) (off := 3) rfl opens_t5))))
set_option maxRecDepth 100000 in
theorem opens_t23 : Opens Try.prog 23 (Kd.slice 65 k65) (fun (xs : List S65) => xs.length ≤ maxLen ∧ ∀ x ∈ xs, (fun y => (fun (x : (Int × (Int × (Int × Int)))) => (fun n => (Lit.int .i64 n).wf = true) x.1 ∧ (fun (x : (Int × (Int × Int))) => (fun n => (Lit.int .i64 n).wf = true) x.1 ∧ (fun (x : (Int × Int)) => (fun n => (Lit.int .i64 n).wf = true) x.1 ∧ (fun n => (Lit.int .u8 n).wf = true) x.2) x.2) x.2) ((fun x : S65 => (x.f0, x.f1, x.f2, x.f3)) y)) x) := opens_slice 65 Try.underlying23 (by kernel_rfl) (opens_iso opens_t65 (fun x : S65 => (x.f0, x.f1, x.f2, x.f3)) (fun y => ⟨y.1, y.2.1, y.2.2.1, y.2.2.2⟩) (fun _ => rfl))
set_option maxRecDepth 100000 in
set_option maxHeartbeats 1000000 in
theorem lifted (os : Os) (started : os.Started) (H : Type) (enc : TypeId × Value → H) :
    ReturnsInHanded {} Try.checked os 4 .any (Rows.trustRestsSpec.pre6 enc Try.prog Try.f4 Rows.trustRestsRow.domain false) (Rows.trustRestsSpec.post enc Try.prog Try.f4 false true false false) := by
  refine returnsInHanded_of_change_sized (C := Try.checked) own started (by kernel_rfl) Try.func4
    (ChangeSpec.witness6 (enc := enc) (C := Try.checked) false ⟨#[], #[.slice none 0 0, .slice none 0 0, .int .i64 0, .int .i64 0], []⟩ 8 (by kernel_rfl) (by kernel_rfl) (by kernel_rfl) (by kernel_rfl)) ?_
  intro W base args ds gs before hval0 hW hcnd hsz0 _
  have hval : ∀ (j : Nat) t v, Try.f4.params[j]? = some t → args[j]? = some v → Value.okWide Try.prog W .any base t v := hval0
  have hW' := hW
  obtain ⟨p, q, hA0, hV, rfl, hfz, hnd⟩ := hW
  have hA : DataW.TrodAll enc Try.prog W 0 (fun _ => true) true Try.f4.params.toList args.toList ds p := hA0
  rw [Try.params4] at hA hval
  obtain ⟨v0, vs0, d0, ds0, p0, q0, hargs, rfl, rfl, h0, r0⟩ := trodAll_cons hA
  obtain ⟨v1, vs1, d1, ds1, p1, q1, rfl, rfl, rfl, h1, r1⟩ := trodAll_cons r0
  obtain ⟨v2, vs2, d2, ds2, p2, q2, rfl, rfl, rfl, h2, r2⟩ := trodAll_cons r1
  obtain ⟨v3, vs3, d3, ds3, p3, q3, rfl, rfl, rfl, h3, r3⟩ := trodAll_cons r2
  obtain ⟨rfl, rfl, rfl⟩ := trodAll_nil r3
  obtain rfl : args = #[v0, v1, v2, v3] := by cases args; simp_all
  obtain ⟨rfl, rfl⟩ := trodVars_none hV
  have k0 := h0
  have lt0 : ∀ x ∈ p0, x.block < W.heap.size := by obtain ⟨m, hm⟩ := k0; exact DataW.trod_lt m _ _ _ hm
  obtain ⟨A0, n0, c0, rfl⟩ := okWide_slice Try.underlying22 (hval 0 22 v0 rfl rfl)
  obtain ⟨fuel0, hf0⟩ := h0
  obtain ⟨l0, hK0, hm0, hG0⟩ := opens_t22.2 H enc W fuel0 _ _ _ hf0
  obtain ⟨A0', c0', e0, hc0, hr0⟩ := hK0
  simp only [Value.cells, List.cons.injEq, Value.slice.injEq, and_true] at e0
  obtain ⟨rfl, rfl, rfl⟩ := e0
  have k1 := h1
  have lt1 : ∀ x ∈ p1, x.block < W.heap.size := by obtain ⟨m, hm⟩ := k1; exact DataW.trod_lt m _ _ _ hm
  obtain ⟨A1, n1, c1, rfl⟩ := okWide_slice Try.underlying23 (hval 1 23 v1 rfl rfl)
  obtain ⟨fuel1, hf1⟩ := h1
  obtain ⟨l1, hK1, hm1, hG1⟩ := opens_t23.2 H enc W fuel1 _ _ _ hf1
  obtain ⟨A1', c1', e1, hc1, hr1⟩ := hK1
  simp only [Value.cells, List.cons.injEq, Value.slice.injEq, and_true] at e1
  obtain ⟨rfl, rfl, rfl⟩ := e1
  have k2 := h2
  have lt2 : ∀ x ∈ p2, x.block < W.heap.size := by obtain ⟨m, hm⟩ := k2; exact DataW.trod_lt m _ _ _ hm
  obtain ⟨a2, rfl, rfl, rfl, w2⟩ := open_int Try.underlying3 (hval 2 3 v2 rfl rfl) h2
  have k3 := h3
  have lt3 : ∀ x ∈ p3, x.block < W.heap.size := by obtain ⟨m, hm⟩ := k3; exact DataW.trod_lt m _ _ _ hm
  obtain ⟨a3, rfl, rfl, rfl, w3⟩ := open_int Try.underlying3 (hval 3 3 v3 rfl rfl) h3
  clear hA0 hval0 hsz0
  refine (trustRests_law A0 A1 _ _ l0 l1 a2 a3 W hr0 hr1 (fun x hx => u8_of (hG0 x hx).2.1) (fun x hx => u8_of (hG1 x hx).2.2.2)).mono fun e W' ⟨he, bel0⟩ => ?_
  have bel : Below W.heap.size W W' := bel0
  subst he
  exact ⟨_, rfl, _, _, _, [], _, [], hW', trodAll_mk1 (shut_bool Try.underlying4 _), (trodAll_cons_mk (Below.trod laidOut (by kernel_rfl) (of_decide_eq_true (by kernel_rfl)) k0 bel lt0) (trodAll_cons_mk (Below.trod laidOut (by kernel_rfl) (of_decide_eq_true (by kernel_rfl)) k1 bel lt1) (trodAll_cons_mk (Below.trod laidOut (by kernel_rfl) (of_decide_eq_true (by kernel_rfl)) k2 bel lt2) (trodAll_cons_mk (Below.trod laidOut (by kernel_rfl) (of_decide_eq_true (by kernel_rfl)) k3 bel lt3) trodAll_mk0)))), rfl, bel.frame _, fun h => by cases h⟩
theorem over : Rows.trustRestsRow.holds Try.pinned (OpenSpec.ofChange Rows.trustRestsSpec) :=
  OpenClaim.holds_of_wide 4 Try.f4 rfl rfl rfl rfl rfl rfl rfl ⟨rfl, rfl, rfl, rfl, rfl⟩ rfl rfl rfl rfl rfl (by kernel_rfl) Try.func4 (by kernel_rfl)
    (of_decide_eq_true (by kernel_rfl)) (by unfold Func.isWrapper; first | (rw [if_pos (by decide +kernel)]; kernel_rfl) | (rw [if_neg (by decide +kernel)]; exact ⟨rfl, rfl⟩))
    (fun os started H enc _ => lifted os started H enc)
theorem proved : Rows.TrustRestsSaid := over
#print axioms proved
end Go.Proofs.Ytcmepdamemnbkaa.trustRests
namespace Go.Proofs.Ytcmepdamemnbkaa
/-- The row, under a short name, for the claim. -/
theorem trustRests_holds : Rows.TrustRestsSaid := trustRests.proved
end Go.Proofs.Ytcmepdamemnbkaa
