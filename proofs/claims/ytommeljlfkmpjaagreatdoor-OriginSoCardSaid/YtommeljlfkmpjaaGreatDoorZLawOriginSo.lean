/- OriginSo: the row: whatever comes in, the call returns true, and what came in reads as it did. Out of the plain law and the printed machine side. -/
import Derived.Test.YtommeljlfkmpjaaGreatDoorRows
import Derived.Test.YtommeljlfkmpjaaGreatDoorPkLawOriginSo1
import Derived.Test.YtommeljlfkmpjaaGreatDoorPkLawOriginSo11
import Derived.Test.YtommeljlfkmpjaaGreatDoorCards
import Derived.Test.YtommeljlfkmpjaaGreatDoorTie
import Derived.SevenTiedAt
import Derived.LaidLaws
import Derived.LaidHandle
import Derived.LaidMore
import Derived.JoinedOf
import Derived.ChangeVars
import Derived.Stop.Joined
import Derived.WalkKit
import Derived.ProofKit
import Derived.OpenShut
import Derived.ShutString
import Derived.ChangeOld
import Derived.Below
import Derived.SizedLaws
import Derived.OpenVars
namespace Go.Proofs.YtommeljlfkmpjaaGreatDoor.originSo
open Go.ChangeShapes Go.WideShapes Go.ChangeAt Go.RowKit Go.Proofs.YtommeljlfkmpjaaGreatDoor Go.Proofs.YtommeljlfkmpjaaGreatDoorW.PrintWords
set_option linter.unusedVariables false
set_option linter.unusedSimpArgs false
theorem own : ownKnob Tryz.prog.godebug = none := by kernel_rfl
theorem laidOut : laidOutB Tryz.prog = true := by kernel_rfl
set_option maxRecDepth 100000 in
theorem opens_t3 : Opens Tryz.prog 3 (Kd.int .i64) (fun n => (Lit.int .i64 n).wf = true) := opens_int Tryz.underlying3 (by kernel_rfl)
set_option maxRecDepth 100000 in
theorem opens_t45 : Opens Tryz.prog 45 (Kd.pair (Kd.int .i64) (Kd.int .i64)) (fun (x : (Int × Int)) => (fun n => (Lit.int .i64 n).wf = true) x.1 ∧ (fun n => (Lit.int .i64 n).wf = true) x.2) := opens_struct (d := (Kd.pair (Kd.int .i64) (Kd.int .i64))) (G := (fun (x : (Int × Int)) => (fun n => (Lit.int .i64 n).wf = true) x.1 ∧ (fun n => (Lit.int .i64 n).wf = true) x.2)) Tryz.underlying45 (by kernel_rfl) (opensF_cons (P := Tryz.prog) (off := 0) (Ga := (fun n => (Lit.int .i64 n).wf = true)) (Gb := (fun n => (Lit.int .i64 n).wf = true)) rfl opens_t3 (opensF_one (P := Tryz.prog) (off := 1) rfl opens_t3))
set_option maxRecDepth 100000 in
theorem opens_t52 : Opens Tryz.prog 52 (Kd.pair (Kd.int .i64) (Kd.pair (Kd.int .i64) (Kd.pair (Kd.int .i64) (Kd.int .i64)))) (fun (x : (Int × (Int × (Int × Int)))) => (fun n => (Lit.int .i64 n).wf = true) x.1 ∧ (fun (x : (Int × (Int × Int))) => (fun n => (Lit.int .i64 n).wf = true) x.1 ∧ (fun (x : (Int × Int)) => (fun n => (Lit.int .i64 n).wf = true) x.1 ∧ (fun n => (Lit.int .i64 n).wf = true) x.2) x.2) x.2) := opens_struct (d := (Kd.pair (Kd.int .i64) (Kd.pair (Kd.int .i64) (Kd.pair (Kd.int .i64) (Kd.int .i64))))) (G := (fun (x : (Int × (Int × (Int × Int)))) => (fun n => (Lit.int .i64 n).wf = true) x.1 ∧ (fun (x : (Int × (Int × Int))) => (fun n => (Lit.int .i64 n).wf = true) x.1 ∧ (fun (x : (Int × Int)) => (fun n => (Lit.int .i64 n).wf = true) x.1 ∧ (fun n => (Lit.int .i64 n).wf = true) x.2) x.2) x.2)) Tryz.underlying52 (by kernel_rfl) (opensF_cons (P := Tryz.prog) (off := 0) (Ga := (fun n => (Lit.int .i64 n).wf = true)) (Gb := (fun (x : (Int × (Int × Int))) => (fun n => (Lit.int .i64 n).wf = true) x.1 ∧ (fun (x : (Int × Int)) => (fun n => (Lit.int .i64 n).wf = true) x.1 ∧ (fun n => (Lit.int .i64 n).wf = true) x.2) x.2)) rfl opens_t3 (opensF_cons (P := Tryz.prog) (off := 1) (Ga := (fun n => (Lit.int .i64 n).wf = true)) (Gb := (fun (x : (Int × Int)) => (fun n => (Lit.int .i64 n).wf = true) x.1 ∧ (fun n => (Lit.int .i64 n).wf = true) x.2)) rfl opens_t3 (opensF_one (P := Tryz.prog) (off := 2) rfl opens_t45)))
set_option maxRecDepth 100000 in
theorem opens_t22 : Opens Tryz.prog 22 (Kd.slice 52 k52) (fun (xs : List S52) => xs.length ≤ maxLen ∧ ∀ x ∈ xs, (fun y => (fun (x : (Int × (Int × (Int × Int)))) => (fun n => (Lit.int .i64 n).wf = true) x.1 ∧ (fun (x : (Int × (Int × Int))) => (fun n => (Lit.int .i64 n).wf = true) x.1 ∧ (fun (x : (Int × Int)) => (fun n => (Lit.int .i64 n).wf = true) x.1 ∧ (fun n => (Lit.int .i64 n).wf = true) x.2) x.2) x.2) ((fun x : S52 => (x.f0, x.f1, (x.f2.f0, x.f2.f1))) y)) x) := opens_slice 52 Tryz.underlying22 (by kernel_rfl) (opens_iso opens_t52 (fun x : S52 => (x.f0, x.f1, (x.f2.f0, x.f2.f1))) (fun y => ⟨y.1, y.2.1, ⟨y.2.2.1, y.2.2.2⟩⟩) (fun _ => rfl))
set_option maxRecDepth 100000 in
theorem opens_t5 : Opens Tryz.prog 5 (Kd.int .u8) (fun n => (Lit.int .u8 n).wf = true) := opens_int Tryz.underlying5 (by kernel_rfl)
set_option maxRecDepth 100000 in
theorem opens_t56 : Opens Tryz.prog 56 (Kd.pair (Kd.int .i64) (Kd.pair (Kd.int .u8) (Kd.pair (Kd.int .i64) (Kd.pair (Kd.int .i64) (Kd.pair (Kd.pair (Kd.int .i64) (Kd.int .i64)) (Kd.int .i64)))))) (fun (x : (Int × (Int × (Int × (Int × ((Int × Int) × Int)))))) => (fun n => (Lit.int .i64 n).wf = true) x.1 ∧ (fun (x : (Int × (Int × (Int × ((Int × Int) × Int))))) => (fun n => (Lit.int .u8 n).wf = true) x.1 ∧ (fun (x : (Int × (Int × ((Int × Int) × Int)))) => (fun n => (Lit.int .i64 n).wf = true) x.1 ∧ (fun (x : (Int × ((Int × Int) × Int))) => (fun n => (Lit.int .i64 n).wf = true) x.1 ∧ (fun (x : ((Int × Int) × Int)) => (fun (x : (Int × Int)) => (fun n => (Lit.int .i64 n).wf = true) x.1 ∧ (fun n => (Lit.int .i64 n).wf = true) x.2) x.1 ∧ (fun n => (Lit.int .i64 n).wf = true) x.2) x.2) x.2) x.2) x.2) := opens_struct (d := (Kd.pair (Kd.int .i64) (Kd.pair (Kd.int .u8) (Kd.pair (Kd.int .i64) (Kd.pair (Kd.int .i64) (Kd.pair (Kd.pair (Kd.int .i64) (Kd.int .i64)) (Kd.int .i64))))))) (G := (fun (x : (Int × (Int × (Int × (Int × ((Int × Int) × Int)))))) => (fun n => (Lit.int .i64 n).wf = true) x.1 ∧ (fun (x : (Int × (Int × (Int × ((Int × Int) × Int))))) => (fun n => (Lit.int .u8 n).wf = true) x.1 ∧ (fun (x : (Int × (Int × ((Int × Int) × Int)))) => (fun n => (Lit.int .i64 n).wf = true) x.1 ∧ (fun (x : (Int × ((Int × Int) × Int))) => (fun n => (Lit.int .i64 n).wf = true) x.1 ∧ (fun (x : ((Int × Int) × Int)) => (fun (x : (Int × Int)) => (fun n => (Lit.int .i64 n).wf = true) x.1 ∧ (fun n => (Lit.int .i64 n).wf = true) x.2) x.1 ∧ (fun n => (Lit.int .i64 n).wf = true) x.2) x.2) x.2) x.2) x.2)) Tryz.underlying56 (by kernel_rfl) (opensF_cons (P := Tryz.prog) (off := 0) (Ga := (fun n => (Lit.int .i64 n).wf = true)) (Gb := (fun (x : (Int × (Int × (Int × ((Int × Int) × Int))))) => (fun n => (Lit.int .u8 n).wf = true) x.1 ∧ (fun (x : (Int × (Int × ((Int × Int) × Int)))) => (fun n => (Lit.int .i64 n).wf = true) x.1 ∧ (fun (x : (Int × ((Int × Int) × Int))) => (fun n => (Lit.int .i64 n).wf = true) x.1 ∧ (fun (x : ((Int × Int) × Int)) => (fun (x : (Int × Int)) => (fun n => (Lit.int .i64 n).wf = true) x.1 ∧ (fun n => (Lit.int .i64 n).wf = true) x.2) x.1 ∧ (fun n => (Lit.int .i64 n).wf = true) x.2) x.2) x.2) x.2)) rfl opens_t3 (opensF_cons (P := Tryz.prog) (off := 1) (Ga := (fun n => (Lit.int .u8 n).wf = true)) (Gb := (fun (x : (Int × (Int × ((Int × Int) × Int)))) => (fun n => (Lit.int .i64 n).wf = true) x.1 ∧ (fun (x : (Int × ((Int × Int) × Int))) => (fun n => (Lit.int .i64 n).wf = true) x.1 ∧ (fun (x : ((Int × Int) × Int)) => (fun (x : (Int × Int)) => (fun n => (Lit.int .i64 n).wf = true) x.1 ∧ (fun n => (Lit.int .i64 n).wf = true) x.2) x.1 ∧ (fun n => (Lit.int .i64 n).wf = true) x.2) x.2) x.2)) rfl opens_t5 (opensF_cons (P := Tryz.prog) (off := 2) (Ga := (fun n => (Lit.int .i64 n).wf = true)) (Gb := (fun (x : (Int × ((Int × Int) × Int))) => (fun n => (Lit.int .i64 n).wf = true) x.1 ∧ (fun (x : ((Int × Int) × Int)) => (fun (x : (Int × Int)) => (fun n => (Lit.int .i64 n).wf = true) x.1 ∧ (fun n => (Lit.int .i64 n).wf = true) x.2) x.1 ∧ (fun n => (Lit.int .i64 n).wf = true) x.2) x.2)) rfl opens_t3 (opensF_cons (P := Tryz.prog) (off := 3) (Ga := (fun n => (Lit.int .i64 n).wf = true)) (Gb := (fun (x : ((Int × Int) × Int)) => (fun (x : (Int × Int)) => (fun n => (Lit.int .i64 n).wf = true) x.1 ∧ (fun n => (Lit.int .i64 n).wf = true) x.2) x.1 ∧ (fun n => (Lit.int .i64 n).wf = true) x.2)) rfl opens_t3 (opensF_cons (P := Tryz.prog) (off := 4) (Ga := (fun (x : (Int × Int)) => (fun n => (Lit.int .i64 n).wf = true) x.1 ∧ (fun n => (Lit.int .i64 n).wf = true) x.2)) (Gb := (fun n => (Lit.int .i64 n).wf = true)) rfl opens_t45 (opensF_one (P := Tryz.prog) (off := 6) rfl opens_t3))))))
set_option maxRecDepth 100000 in
theorem opens_t23 : Opens Tryz.prog 23 (Kd.slice 56 k56) (fun (xs : List S56) => xs.length ≤ maxLen ∧ ∀ x ∈ xs, (fun y => (fun (x : (Int × (Int × (Int × (Int × ((Int × Int) × Int)))))) => (fun n => (Lit.int .i64 n).wf = true) x.1 ∧ (fun (x : (Int × (Int × (Int × ((Int × Int) × Int))))) => (fun n => (Lit.int .u8 n).wf = true) x.1 ∧ (fun (x : (Int × (Int × ((Int × Int) × Int)))) => (fun n => (Lit.int .i64 n).wf = true) x.1 ∧ (fun (x : (Int × ((Int × Int) × Int))) => (fun n => (Lit.int .i64 n).wf = true) x.1 ∧ (fun (x : ((Int × Int) × Int)) => (fun (x : (Int × Int)) => (fun n => (Lit.int .i64 n).wf = true) x.1 ∧ (fun n => (Lit.int .i64 n).wf = true) x.2) x.1 ∧ (fun n => (Lit.int .i64 n).wf = true) x.2) x.2) x.2) x.2) x.2) ((fun x : S56 => (x.f0, x.f1, x.f2, x.f3, (x.f4.f0, x.f4.f1), x.f5)) y)) x) := opens_slice 56 Tryz.underlying23 (by kernel_rfl) (opens_iso opens_t56 (fun x : S56 => (x.f0, x.f1, x.f2, x.f3, (x.f4.f0, x.f4.f1), x.f5)) (fun y => ⟨y.1, y.2.1, y.2.2.1, y.2.2.2.1, ⟨y.2.2.2.2.1.1, y.2.2.2.2.1.2⟩, y.2.2.2.2.2⟩) (fun _ => rfl))
set_option maxRecDepth 100000 in
theorem opens_t25 : Opens Tryz.prog 25 (Kd.pair (Kd.int .i64) (Kd.pair (Kd.slice 52 k52) (Kd.pair (Kd.int .i64) (Kd.slice 56 k56)))) (fun (x : (Int × ((List S52) × (Int × (List S56))))) => (fun n => (Lit.int .i64 n).wf = true) x.1 ∧ (fun (x : ((List S52) × (Int × (List S56)))) => (fun (xs : List S52) => xs.length ≤ maxLen ∧ ∀ x ∈ xs, (fun y => (fun (x : (Int × (Int × (Int × Int)))) => (fun n => (Lit.int .i64 n).wf = true) x.1 ∧ (fun (x : (Int × (Int × Int))) => (fun n => (Lit.int .i64 n).wf = true) x.1 ∧ (fun (x : (Int × Int)) => (fun n => (Lit.int .i64 n).wf = true) x.1 ∧ (fun n => (Lit.int .i64 n).wf = true) x.2) x.2) x.2) ((fun x : S52 => (x.f0, x.f1, (x.f2.f0, x.f2.f1))) y)) x) x.1 ∧ (fun (x : (Int × (List S56))) => (fun n => (Lit.int .i64 n).wf = true) x.1 ∧ (fun (xs : List S56) => xs.length ≤ maxLen ∧ ∀ x ∈ xs, (fun y => (fun (x : (Int × (Int × (Int × (Int × ((Int × Int) × Int)))))) => (fun n => (Lit.int .i64 n).wf = true) x.1 ∧ (fun (x : (Int × (Int × (Int × ((Int × Int) × Int))))) => (fun n => (Lit.int .u8 n).wf = true) x.1 ∧ (fun (x : (Int × (Int × ((Int × Int) × Int)))) => (fun n => (Lit.int .i64 n).wf = true) x.1 ∧ (fun (x : (Int × ((Int × Int) × Int))) => (fun n => (Lit.int .i64 n).wf = true) x.1 ∧ (fun (x : ((Int × Int) × Int)) => (fun (x : (Int × Int)) => (fun n => (Lit.int .i64 n).wf = true) x.1 ∧ (fun n => (Lit.int .i64 n).wf = true) x.2) x.1 ∧ (fun n => (Lit.int .i64 n).wf = true) x.2) x.2) x.2) x.2) x.2) ((fun x : S56 => (x.f0, x.f1, x.f2, x.f3, (x.f4.f0, x.f4.f1), x.f5)) y)) x) x.2) x.2) x.2) := opens_struct (d := (Kd.pair (Kd.int .i64) (Kd.pair (Kd.slice 52 k52) (Kd.pair (Kd.int .i64) (Kd.slice 56 k56))))) (G := (fun (x : (Int × ((List S52) × (Int × (List S56))))) => (fun n => (Lit.int .i64 n).wf = true) x.1 ∧ (fun (x : ((List S52) × (Int × (List S56)))) => (fun (xs : List S52) => xs.length ≤ maxLen ∧ ∀ x ∈ xs, (fun y => (fun (x : (Int × (Int × (Int × Int)))) => (fun n => (Lit.int .i64 n).wf = true) x.1 ∧ (fun (x : (Int × (Int × Int))) => (fun n => (Lit.int .i64 n).wf = true) x.1 ∧ (fun (x : (Int × Int)) => (fun n => (Lit.int .i64 n).wf = true) x.1 ∧ (fun n => (Lit.int .i64 n).wf = true) x.2) x.2) x.2) ((fun x : S52 => (x.f0, x.f1, (x.f2.f0, x.f2.f1))) y)) x) x.1 ∧ (fun (x : (Int × (List S56))) => (fun n => (Lit.int .i64 n).wf = true) x.1 ∧ (fun (xs : List S56) => xs.length ≤ maxLen ∧ ∀ x ∈ xs, (fun y => (fun (x : (Int × (Int × (Int × (Int × ((Int × Int) × Int)))))) => (fun n => (Lit.int .i64 n).wf = true) x.1 ∧ (fun (x : (Int × (Int × (Int × ((Int × Int) × Int))))) => (fun n => (Lit.int .u8 n).wf = true) x.1 ∧ (fun (x : (Int × (Int × ((Int × Int) × Int)))) => (fun n => (Lit.int .i64 n).wf = true) x.1 ∧ (fun (x : (Int × ((Int × Int) × Int))) => (fun n => (Lit.int .i64 n).wf = true) x.1 ∧ (fun (x : ((Int × Int) × Int)) => (fun (x : (Int × Int)) => (fun n => (Lit.int .i64 n).wf = true) x.1 ∧ (fun n => (Lit.int .i64 n).wf = true) x.2) x.1 ∧ (fun n => (Lit.int .i64 n).wf = true) x.2) x.2) x.2) x.2) x.2) ((fun x : S56 => (x.f0, x.f1, x.f2, x.f3, (x.f4.f0, x.f4.f1), x.f5)) y)) x) x.2) x.2) x.2)) Tryz.underlying25 (by kernel_rfl) (opensF_cons (P := Tryz.prog) (off := 0) (Ga := (fun n => (Lit.int .i64 n).wf = true)) (Gb := (fun (x : ((List S52) × (Int × (List S56)))) => (fun (xs : List S52) => xs.length ≤ maxLen ∧ ∀ x ∈ xs, (fun y => (fun (x : (Int × (Int × (Int × Int)))) => (fun n => (Lit.int .i64 n).wf = true) x.1 ∧ (fun (x : (Int × (Int × Int))) => (fun n => (Lit.int .i64 n).wf = true) x.1 ∧ (fun (x : (Int × Int)) => (fun n => (Lit.int .i64 n).wf = true) x.1 ∧ (fun n => (Lit.int .i64 n).wf = true) x.2) x.2) x.2) ((fun x : S52 => (x.f0, x.f1, (x.f2.f0, x.f2.f1))) y)) x) x.1 ∧ (fun (x : (Int × (List S56))) => (fun n => (Lit.int .i64 n).wf = true) x.1 ∧ (fun (xs : List S56) => xs.length ≤ maxLen ∧ ∀ x ∈ xs, (fun y => (fun (x : (Int × (Int × (Int × (Int × ((Int × Int) × Int)))))) => (fun n => (Lit.int .i64 n).wf = true) x.1 ∧ (fun (x : (Int × (Int × (Int × ((Int × Int) × Int))))) => (fun n => (Lit.int .u8 n).wf = true) x.1 ∧ (fun (x : (Int × (Int × ((Int × Int) × Int)))) => (fun n => (Lit.int .i64 n).wf = true) x.1 ∧ (fun (x : (Int × ((Int × Int) × Int))) => (fun n => (Lit.int .i64 n).wf = true) x.1 ∧ (fun (x : ((Int × Int) × Int)) => (fun (x : (Int × Int)) => (fun n => (Lit.int .i64 n).wf = true) x.1 ∧ (fun n => (Lit.int .i64 n).wf = true) x.2) x.1 ∧ (fun n => (Lit.int .i64 n).wf = true) x.2) x.2) x.2) x.2) x.2) ((fun x : S56 => (x.f0, x.f1, x.f2, x.f3, (x.f4.f0, x.f4.f1), x.f5)) y)) x) x.2) x.2)) rfl opens_t3 (opensF_cons (P := Tryz.prog) (off := 1) (Ga := (fun (xs : List S52) => xs.length ≤ maxLen ∧ ∀ x ∈ xs, (fun y => (fun (x : (Int × (Int × (Int × Int)))) => (fun n => (Lit.int .i64 n).wf = true) x.1 ∧ (fun (x : (Int × (Int × Int))) => (fun n => (Lit.int .i64 n).wf = true) x.1 ∧ (fun (x : (Int × Int)) => (fun n => (Lit.int .i64 n).wf = true) x.1 ∧ (fun n => (Lit.int .i64 n).wf = true) x.2) x.2) x.2) ((fun x : S52 => (x.f0, x.f1, (x.f2.f0, x.f2.f1))) y)) x)) (Gb := (fun (x : (Int × (List S56))) => (fun n => (Lit.int .i64 n).wf = true) x.1 ∧ (fun (xs : List S56) => xs.length ≤ maxLen ∧ ∀ x ∈ xs, (fun y => (fun (x : (Int × (Int × (Int × (Int × ((Int × Int) × Int)))))) => (fun n => (Lit.int .i64 n).wf = true) x.1 ∧ (fun (x : (Int × (Int × (Int × ((Int × Int) × Int))))) => (fun n => (Lit.int .u8 n).wf = true) x.1 ∧ (fun (x : (Int × (Int × ((Int × Int) × Int)))) => (fun n => (Lit.int .i64 n).wf = true) x.1 ∧ (fun (x : (Int × ((Int × Int) × Int))) => (fun n => (Lit.int .i64 n).wf = true) x.1 ∧ (fun (x : ((Int × Int) × Int)) => (fun (x : (Int × Int)) => (fun n => (Lit.int .i64 n).wf = true) x.1 ∧ (fun n => (Lit.int .i64 n).wf = true) x.2) x.1 ∧ (fun n => (Lit.int .i64 n).wf = true) x.2) x.2) x.2) x.2) x.2) ((fun x : S56 => (x.f0, x.f1, x.f2, x.f3, (x.f4.f0, x.f4.f1), x.f5)) y)) x) x.2)) rfl opens_t22 (opensF_cons (P := Tryz.prog) (off := 2) (Ga := (fun n => (Lit.int .i64 n).wf = true)) (Gb := (fun (xs : List S56) => xs.length ≤ maxLen ∧ ∀ x ∈ xs, (fun y => (fun (x : (Int × (Int × (Int × (Int × ((Int × Int) × Int)))))) => (fun n => (Lit.int .i64 n).wf = true) x.1 ∧ (fun (x : (Int × (Int × (Int × ((Int × Int) × Int))))) => (fun n => (Lit.int .u8 n).wf = true) x.1 ∧ (fun (x : (Int × (Int × ((Int × Int) × Int)))) => (fun n => (Lit.int .i64 n).wf = true) x.1 ∧ (fun (x : (Int × ((Int × Int) × Int))) => (fun n => (Lit.int .i64 n).wf = true) x.1 ∧ (fun (x : ((Int × Int) × Int)) => (fun (x : (Int × Int)) => (fun n => (Lit.int .i64 n).wf = true) x.1 ∧ (fun n => (Lit.int .i64 n).wf = true) x.2) x.1 ∧ (fun n => (Lit.int .i64 n).wf = true) x.2) x.2) x.2) x.2) x.2) ((fun x : S56 => (x.f0, x.f1, x.f2, x.f3, (x.f4.f0, x.f4.f1), x.f5)) y)) x)) rfl opens_t3 (opensF_one (P := Tryz.prog) (off := 3) rfl opens_t23))))
set_option maxRecDepth 100000 in
theorem opens_t102 : Opens Tryz.prog 102 (Kd.int .u32) (fun n => (Lit.int .u32 n).wf = true) := opens_int Tryz.underlying102 (by kernel_rfl)
set_option maxRecDepth 100000 in
theorem opens_t50 : Opens Tryz.prog 50 (Kd.slice 102 (Kd.int .u32)) (fun (xs : List Int) => xs.length ≤ maxLen ∧ ∀ x ∈ xs, (fun n => (Lit.int .u32 n).wf = true) x) := opens_slice 102 Tryz.underlying50 (by kernel_rfl) opens_t102
set_option maxRecDepth 100000 in
set_option maxHeartbeats 1000000 in
theorem lifted (os : Os) (started : os.Started) (H : Type) (enc : TypeId × Value → H) :
    ReturnsInHanded {} Tryz.checked os 5 .any (fun w args => (Rows.originSoSpec.pre enc Tryz.prog Tryz.f5 [] false w args ∧ laidMetH Tryz.prog laidL w) ∧ sizedMet enc Tryz.prog Tryz.f5 (OpenSpec.ofChange Rows.originSoSpec) false w args) (Rows.originSoSpec.post enc Tryz.prog Tryz.f5 false true false false) := by
  refine returnsInHanded_of_change_and (C := Tryz.checked) (X := fun w _ => laidMetH Tryz.prog laidL w) (fun _ _ _ hh h => h.of_heap hh) own started (by kernel_rfl) Tryz.func5
    (ChangeSpec.witness_shaped (enc := enc) (C := Tryz.checked) (os := os) (X := fun w _ => laidMetH Tryz.prog laidL w) false (World.doorLaid Tryz.prog 400 os) #[.agg #[.int .i64 0, .slice none 0 0, .int .i64 0, .slice none 0 0], .int .u8 0, .int .u16 0, .slice none 0 0] 8 rfl (World.shaped_of_RefB (by kernel_rfl) (by kernel_rfl)) (by kernel_rfl) (by kernel_rfl) (by kernel_rfl) (door_met os _)) ?_
  intro W base args ds gs before hval0 hW _ _ hL hsz0
  have hval : ∀ (j : Nat) t v, Tryz.f5.params[j]? = some t → args[j]? = some v → Value.okWide Tryz.prog W .any base t v := hval0
  have hW' := hW
  obtain ⟨p, q, hA0, hV, rfl, hfz, hnd⟩ := hW
  have hA : DataW.TrodAll enc Tryz.prog W 0 (fun _ => true) true Tryz.f5.params.toList args.toList ds p := hA0
  rw [Tryz.params5] at hA hval
  obtain ⟨v0, vs0, d0, ds0, p0, q0, hargs, rfl, rfl, h0, r0⟩ := trodAll_cons hA
  obtain ⟨v1, vs1, d1, ds1, p1, q1, rfl, rfl, rfl, h1, r1⟩ := trodAll_cons r0
  obtain ⟨v2, vs2, d2, ds2, p2, q2, rfl, rfl, rfl, h2, r2⟩ := trodAll_cons r1
  obtain ⟨v3, vs3, d3, ds3, p3, q3, rfl, rfl, rfl, h3, r3⟩ := trodAll_cons r2
  obtain ⟨rfl, rfl, rfl⟩ := trodAll_nil r3
  obtain rfl : args = #[v0, v1, v2, v3] := by cases args; simp_all
  obtain ⟨rfl, rfl⟩ := trodVars_none hV
  have k0 := h0
  have lt0 : ∀ x ∈ p0, x.block < W.heap.size := by obtain ⟨m, hm⟩ := k0; exact DataW.trod_lt m _ _ _ hm
  obtain ⟨cs0, rfl, hz0⟩ := okWide_struct Tryz.underlying25 (hval 0 25 v0 rfl rfl)
  obtain ⟨fuel0, hf0⟩ := h0
  obtain ⟨x0, hK0, hG0⟩ := opens_t25.2 H enc W fuel0 _ _ _ hf0
  obtain ⟨_, _, e0, rfl, ⟨_, _, rfl, ⟨B0_1, c0_1, rfl, hc0_1, hr0_1⟩, ⟨_, _, rfl, rfl, ⟨B0_2, c0_2, rfl, hc0_2, hr0_2⟩⟩⟩⟩ := hK0
  obtain rfl : cs0 = #[.int .i64 x0.1, .slice B0_1 x0.2.1.length c0_1, .int .i64 x0.2.2.1, .slice B0_2 x0.2.2.2.length c0_2] := by cases cs0; simpa [Value.cells] using e0
  have k1 := h1
  have lt1 : ∀ x ∈ p1, x.block < W.heap.size := by obtain ⟨m, hm⟩ := k1; exact DataW.trod_lt m _ _ _ hm
  obtain ⟨a1, rfl, rfl, rfl, w1⟩ := open_int Tryz.underlying5 (hval 1 5 v1 rfl rfl) h1
  have k2 := h2
  have lt2 : ∀ x ∈ p2, x.block < W.heap.size := by obtain ⟨m, hm⟩ := k2; exact DataW.trod_lt m _ _ _ hm
  obtain ⟨a2, rfl, rfl, rfl, w2⟩ := open_int Tryz.underlying49 (hval 2 49 v2 rfl rfl) h2
  have k3 := h3
  have lt3 : ∀ x ∈ p3, x.block < W.heap.size := by obtain ⟨m, hm⟩ := k3; exact DataW.trod_lt m _ _ _ hm
  obtain ⟨A3, n3, c3, rfl⟩ := okWide_slice Tryz.underlying50 (hval 3 50 v3 rfl rfl)
  obtain ⟨fuel3, hf3⟩ := h3
  obtain ⟨l3, hK3, hm3, hG3⟩ := opens_t50.2 H enc W fuel3 _ _ _ hf3
  obtain ⟨A3', c3', e3, hc3, hr3⟩ := hK3
  simp only [Value.cells, List.cons.injEq, Value.slice.injEq, and_true] at e3
  obtain ⟨rfl, rfl, rfl⟩ := e3
  clear hA0 hval0 hsz0
  refine (originSo_law x0.1 x0.2.2.1 B0_1 B0_2 A3 c0_1 c0_2 c3 x0.2.1 x0.2.2.2 l3 a1 a2 W hr0_1 hr0_2 (words_row hr3 rfl) (fun x hx => u8_of (hG0.2.2.2.2 x hx).2.1) (fun x hx => u32_so (hG3 x hx)) (Nat.le_trans hm3 (by decide)) (u8_of w1) (u16_so w2) (glob_of_laid hL)).mono fun e W' ⟨he, bel0⟩ => ?_
  have bel : Below W.heap.size W W' := bel0
  subst he
  exact ⟨_, rfl, _, _, _, [], _, [], hW', trodAll_mk1 (shut_bool Tryz.underlying4 _), (trodAll_cons_mk (Below.trod laidOut (by kernel_rfl) (of_decide_eq_true (by kernel_rfl)) k0 bel lt0) (trodAll_cons_mk (Below.trod laidOut (by kernel_rfl) (of_decide_eq_true (by kernel_rfl)) k1 bel lt1) (trodAll_cons_mk (Below.trod laidOut (by kernel_rfl) (of_decide_eq_true (by kernel_rfl)) k2 bel lt2) (trodAll_cons_mk (Below.trod laidOut (by kernel_rfl) (of_decide_eq_true (by kernel_rfl)) k3 bel lt3) trodAll_mk0)))), rfl, bel.frame _, fun h => by cases h⟩
theorem over : Rows.originSoRow.holds Tryz.pinned (OpenSpec.ofChange Rows.originSoSpec) :=
  OpenClaim.holds_of_wide 5 Tryz.f5 rfl rfl rfl rfl rfl rfl rfl ⟨rfl, rfl, rfl, rfl, rfl⟩ rfl rfl rfl rfl rfl (by kernel_rfl) Tryz.func5 (by kernel_rfl)
    (of_decide_eq_true (by kernel_rfl)) (by unfold Func.isWrapper; first | (rw [if_pos (by decide +kernel)]; kernel_rfl) | (rw [if_neg (by decide +kernel)]; exact ⟨rfl, rfl⟩))
    (fun os started H enc _ => lifted os started H enc)
theorem proved : Rows.OriginSoSaid := over
theorem card : Rows.OriginSoCardSaid :=
  Claim7.holds_tied_plain_at .later [] [.data] true (true, "bdb5cef8acf8586967acfc75fd599db84a25a63c08029a5899ad28e54eb580a6") false proved (fun _ h => by cases h) (by kernel_rfl) (fun _ h => by cases h) originSo_row_tie rfl ⟨rfl, rfl⟩ (by kernel_rfl) rfl
    (fun f fn hf hfn => by
      obtain rfl : f = 5 := Option.some.inj ((show Tryz.prog.funcNamed "cottonpad/cottonpadlaw09.OriginSo" = some 5 by kernel_rfl).symm.trans hf) |>.symm
      obtain rfl : fn = Tryz.f5 := (Option.some.inj (Tryz.func5.symm.trans hfn)).symm
      exact ⟨by kernel_rfl, fun j t ht => by
        rw [Tryz.params5] at ht
        have hm : t ∈ [25, 5, 49, 50] := by simpa using Array.mem_of_getElem? ht
        have hall : ([25, 5, 49, 50].all fun u => !Tryz.prog.wantsStandIn u) = true := by kernel_rfl
        exact (show Tryz.prog.wantsStandIn t = false by simpa using List.all_eq_true.1 hall t hm)⟩)
    (by kernel_rfl)
#print axioms card
end Go.Proofs.YtommeljlfkmpjaaGreatDoor.originSo
namespace Go.Proofs.YtommeljlfkmpjaaGreatDoor
/-- The card, under a short name, for the claim. -/
theorem originSo_holds : Rows.OriginSoCardSaid := originSo.card
end Go.Proofs.YtommeljlfkmpjaaGreatDoor
