/- The table burn.ends, as the rows' condition lays it, and the door's own heap, which meets that condition. -/
import Derived.Test.YtfgclmbndgakgaaDoorRows
import Derived.Test.YtfgclmbndgakgaaDoorHeat
import Derived.LaidLaws
import Derived.LaidHandle
import Derived.LaidMore
import Derived.ChangeVars
import Derived.ChangeShapes
namespace Go.Proofs.YtfgclmbndgakgaaDoor
open Go.ChangeShapes Go.WideShapes Go.RowKit
set_option linter.unusedVariables false
set_option linter.unusedSimpArgs false
def laidL : List (String × DataW Unit) := [("cottonpad/burn.ends", Rows.laid_cottonpad_burn_ends)]
theorem gEnds : Tryd.prog.globalNamed "cottonpad/burn.ends" = some 0 := by kernel_rfl
theorem tEnds : (Tryd.prog.globals[0]?).map (·.type) = some 97 := by kernel_rfl
theorem door_met (os : Os) (args : Array Value) : laidMetH Tryd.prog laidL ((World.doorLaid Tryd.prog 400 os).forCall (fun _ _ => 0) ⟨#[], args, []⟩).memory :=
  laidMetH_of_parts3 (fuel := 8) (laidMet_of_run' 8 (by kernel_rfl) (by kernel_rfl)) (by kernel_rfl) (by kernel_rfl)
theorem trod_pair {P : Program} {H : Type} {enc : TypeId × Value → H} {w : World} {fuel : Nat} {t ta tb : TypeId} {f g : Field} {a b : Value} {d : DataW H} {ps : List MemPlace}
    (ht : P.underlying t = some (.struct #[f, g])) (h1 : f.type = ta) (h2 : f.offset = 0) (h3 : g.type = tb) (h4 : g.offset = 1) (hA : P.cellsOf ta = 1) (hB : P.cellsOf tb = 1)
    (h : DataW.trod enc P w 0 (fun _ => true) true (fuel + 1) t [a, b] = some (d, ps)) :
    ∃ x y, DataW.trod enc P w 0 (fun _ => true) true fuel ta [a] = some x ∧ DataW.trod enc P w 0 (fun _ => true) true fuel tb [b] = some y ∧ d = .agg [x.1, y.1] := by
  unfold DataW.trod at h
  rw [ht] at h
  simp only [List.length_cons, List.length_nil] at h
  split at h
  · simp only [List.mapM_cons, List.mapM_nil, h1, h2, h3, h4, hA, hB, List.drop_zero, List.take_succ_cons, List.take_zero, List.drop_succ_cons, Option.map_eq_some_iff] at h
    obtain ⟨xs, h, e⟩ := h
    cases hx : DataW.trod enc P w 0 (fun _ => true) true fuel ta [a] with
    | none => simp [hx] at h
    | some x =>
      cases hy : DataW.trod enc P w 0 (fun _ => true) true fuel tb [b] with
      | none => simp [hx, hy] at h
      | some y =>
        simp [hx, hy] at h
        subst h
        simp at e
        exact ⟨x, y, rfl, rfl, e.1.symm⟩
  · simp at h
theorem trod_two {P : Program} {H : Type} {enc : TypeId × Value → H} {w : World} {fuel : Nat} {t te : TypeId} {a b c e : Value} {d : DataW H} {ps : List MemPlace}
    (ht : P.underlying t = some (.array 2 te)) (hE : P.cellsOf te = 2)
    (h : DataW.trod enc P w 0 (fun _ => true) true (fuel + 1) t [a, b, c, e] = some (d, ps)) :
    ∃ x y, DataW.trod enc P w 0 (fun _ => true) true fuel te [a, b] = some x ∧ DataW.trod enc P w 0 (fun _ => true) true fuel te [c, e] = some y ∧ d = .agg [x.1, y.1] := by
  unfold DataW.trod at h
  rw [ht] at h
  simp only [List.length_cons, List.length_nil] at h
  split at h
  · simp only [show List.range 2 = [0, 1] from rfl, List.mapM_cons, List.mapM_nil, hE, Nat.zero_mul, Nat.one_mul, List.drop_zero, List.take_succ_cons, List.take_zero, List.drop_succ_cons, Option.map_eq_some_iff] at h
    obtain ⟨xs, h, e'⟩ := h
    cases hx : DataW.trod enc P w 0 (fun _ => true) true fuel te [a, b] with
    | none => simp [hx] at h
    | some x =>
      cases hy : DataW.trod enc P w 0 (fun _ => true) true fuel te [c, e] with
      | none => simp [hx, hy] at h
      | some y =>
        simp [hx, hy] at h
        subst h
        simp at e'
        exact ⟨x, y, rfl, rfl, e'.1.symm⟩
  · simp at h
theorem trod_len {P : Program} {H : Type} {enc : TypeId × Value → H} {w : World} {fuel : Nat} {t te : TypeId} {n : Nat} {l : List Value} {x : DataW H × List MemPlace}
    (ht : P.underlying t = some (.array n te)) (h : DataW.trod enc P w 0 (fun _ => true) true fuel t l = some x) : l.length = P.cellsOf t := by
  cases fuel with
  | zero => simp [DataW.trod] at h
  | succ m =>
    by_cases hl : l.length = P.cellsOf t
    · exact hl
    · exfalso
      unfold DataW.trod at h
      rw [ht] at h
      simp [hl] at h
set_option maxRecDepth 100000 in
theorem glob_of_laid {W : World} (h : laidMetH Tryd.prog laidL W) : GlobOK W := by
  obtain ⟨g, t, cs, fuel, p, hg, ht, hv, hd⟩ := h.funcs (n := "cottonpad/burn.ends") (List.mem_cons_self ..)
  obtain rfl := Option.some.inj (gEnds.symm.trans hg)
  obtain rfl := Option.some.inj (tEnds.symm.trans ht)
  have hd' : DataW.trod (funcToken Tryd.prog) Tryd.prog W 0 (fun _ => true) true fuel 97 cs.toList = some (.agg [.agg [.held [99, 111, 116, 116, 111, 110, 112, 97, 100, 47, 98, 117, 114, 110, 46, 101, 110, 100, 115, 36, 49], .held [99, 111, 116, 116, 111, 110, 112, 97, 100, 47, 98, 117, 114, 110, 46, 101, 110, 100, 115, 36, 50]], .agg [.held [99, 111, 116, 116, 111, 110, 112, 97, 100, 47, 98, 117, 114, 110, 46, 101, 110, 100, 115, 36, 51], .held [99, 111, 116, 116, 111, 110, 112, 97, 100, 47, 98, 117, 114, 110, 46, 101, 110, 100, 115, 36, 52]]], p) := hd
  have hlen : cs.toList.length = 4 := (trod_len Tryd.underlying97 hd').trans (by kernel_rfl)
  obtain ⟨l⟩ := cs
  match l, hlen with
  | [a, b, c, e], _ =>
    cases fuel with
    | zero => simp [DataW.trod] at hd'
    | succ n =>
      obtain ⟨x, y, hx, hy, e1⟩ := trod_two (te := 96) Tryd.underlying97 (by kernel_rfl) hd'
      simp only [DataW.agg.injEq, List.cons.injEq, and_true] at e1
      cases n with
      | zero => simp [DataW.trod] at hx
      | succ n =>
        obtain ⟨x1, x2, hx1, hx2, e2⟩ := trod_pair (ta := 94) (tb := 86) Tryd.underlying96 rfl rfl rfl rfl (by kernel_rfl) (by kernel_rfl) (show _ = some (x.1, x.2) from hx)
        obtain ⟨y1, y2, hy1, hy2, e3⟩ := trod_pair (ta := 94) (tb := 86) Tryd.underlying96 rfl rfl rfl rfl (by kernel_rfl) (by kernel_rfl) (show _ = some (y.1, y.2) from hy)
        rw [← e1.1] at e2
        rw [← e1.2] at e3
        simp only [DataW.agg.injEq, List.cons.injEq, and_true] at e2 e3
        obtain ⟨x1d, x1p⟩ := x1
        obtain ⟨x2d, x2p⟩ := x2
        obtain ⟨y1d, y1p⟩ := y1
        obtain ⟨y2d, y2p⟩ := y2
        simp only at e2 e3
        obtain ⟨rfl, rfl⟩ := e2
        obtain ⟨rfl, rfl⟩ := e3
        obtain rfl := func_of_trod (f0 := 81) Tryd.underlying94 (by kernel_rfl) hx1
        obtain rfl := func_of_trod (f0 := 82) Tryd.underlying86 (by kernel_rfl) hx2
        obtain rfl := func_of_trod (f0 := 83) Tryd.underlying94 (by kernel_rfl) hy1
        obtain rfl := func_of_trod (f0 := 84) Tryd.underlying86 (by kernel_rfl) hy2
        unfold World.var? at hv
        rw [gEnds] at hv
        simp only [Option.bind_some] at hv
        unfold GlobOK tabC
        cases hh : W.heap[0]? with
        | none => simp [hh] at hv
        | some o =>
          cases o <;> simp [hh] at hv
          subst hv
          exact ⟨_, _, rfl⟩
end Go.Proofs.YtfgclmbndgakgaaDoor
