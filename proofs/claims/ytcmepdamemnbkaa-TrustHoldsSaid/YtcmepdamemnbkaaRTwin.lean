/- ref08.Twin: a copy of records, ways and all. -/
import Derived.Test.YtcmepdamemnbkaaRTakes
import Derived.Test.YtcmepdamemnbkaaSH
namespace Go.Proofs.Ytcmepdamemnbkaa
open Go.RowKit Go.Proofs.YtcmepdamemnbkaaW.PrintWords
set_option linter.unusedVariables false
set_option linter.unusedSimpArgs false
theorem ad3 (b i j : Nat) : (Addr.add (Addr.add ⟨b, 0, none⟩ ((i : Int).toNat * szN 3)) j) = ⟨b, i * 3 + j, none⟩ := by
  rw [Addr.add_lit, Addr.add_lit, show szN 3 = 3 from rfl]
  simp
theorem ad1 (b j : Nat) : Addr.add ⟨b, 0, none⟩ ((j : Int).toNat * szN 0) = ⟨b, j, none⟩ := by
  rw [Addr.add_lit]
  simp [szN]
theorem flat_ones (vs : List Value) : (vs.map fun v => [v]).flatten = vs := by
  induction vs with
  | nil => rfl
  | cons v vs ih => rw [List.map_cons, List.flatten_cons, ih]; rfl
def intRow (F : Hp) (v : Value) (xs : List Int) : Prop := ∃ b cap, v = .slice (some ⟨b, 0, none⟩) xs.length cap ∧ (b, true, orow 3 1 xs.length cap (xs.map (.int .i64))) ∈ F
def wayRow (F : Hp) (v : Value) (ways : List (List Int)) : Prop := ∃ b cap vs, v = .slice (some ⟨b, 0, none⟩) ways.length cap ∧ (b, true, orow 26 1 ways.length cap vs) ∈ F ∧ vs.length = ways.length ∧ ∀ k u, k < ways.length → vs[k]? = some u → intRow F u (ways.getD k [])
theorem intRow.mono {F G : Hp} {v : Value} {xs : List Int} (h : intRow F v xs) (hs : ∀ e ∈ F, e ∈ G) : intRow G v xs := by
  obtain ⟨b, cap, h1, h2⟩ := h
  exact ⟨b, cap, h1, hs _ h2⟩
theorem wayRow.mono {F G : Hp} {v : Value} {ways : List (List Int)} (h : wayRow F v ways) (hs : ∀ e ∈ F, e ∈ G) : wayRow G v ways := by
  obtain ⟨b, cap, vs, h1, h2, h3, h4⟩ := h
  exact ⟨b, cap, vs, h1, hs _ h2, h3, fun k u hk hu => (h4 k u hk hu).mono hs⟩
theorem intRow.C {F : Hp} {w0 w : World} {X : Nat → Prop} (hw : WOK w0 X F w) {v : Value} {xs : List Int} (h : intRow F v xs) (hm : xs.length ≤ 9223372036854775807) : ∃ A c, v = .slice A xs.length c ∧ xs.length ≤ c ∧ Kd.C (Kd.int .i64) w A xs.length xs := by
  obtain ⟨b, cap, h1, h2⟩ := h
  obtain ⟨o, h3, h4⟩ := hw.bl _ h2
  have h5 : xs.length ≤ cap := by obtain ⟨_, _, h5, _⟩ := h4; exact h5
  exact ⟨_, cap, h1, h5, C_orow h3 h4 rfl hm⟩
theorem wayRow.C {F : Hp} {w0 w : World} {X : Nat → Prop} (hw : WOK w0 X F w) {v : Value} {ways : List (List Int)} (h : wayRow F v ways) (hm : ways.length ≤ 9223372036854775807) (hm2 : ∀ k, k < ways.length → (ways.getD k []).length ≤ 9223372036854775807) : ∃ A c, v = .slice A ways.length c ∧ ways.length ≤ c ∧ Kd.C waysK w A ways.length ways := by
  obtain ⟨b, cap, vs, h1, h2, h3, h4⟩ := h
  obtain ⟨o, h5, h6⟩ := hw.bl _ h2
  have h7 : ways.length ≤ cap := by obtain ⟨_, _, h7, _⟩ := h6; exact h7
  refine ⟨_, cap, h1, h7, C_row (d := waysK) (cells := vs.map fun v => [v]) h5 (e := 26) (cap := cap) ?_ (by simp [h3]) (by intro c hc; obtain ⟨v, _, rfl⟩ := List.mem_map.1 hc; rfl) ?_ hm⟩
  · rw [flat_ones, List.length_map, h3]
    exact h6
  · intro j x c hx hc
    have hj : j < ways.length := (List.getElem?_eq_some_iff.1 hx).1
    have hxd : ways.getD j [] = x := by simp [List.getD_eq_getElem?_getD, hx]
    rw [List.getElem?_map] at hc
    obtain ⟨u, hu, rfl⟩ := Option.map_eq_some_iff.1 hc
    have hlx := hm2 j hj
    obtain ⟨A, c, h8, h9, h10⟩ := (h4 j u hj hu).C hw hlx
    rw [hxd] at h8 h9 h10
    subst h8
    exact ⟨A, c, rfl, h9, h10⟩
/-- a copy of a row, in four steps: nothing yet, the literal, the copy, stored -/
inductive Stg where
  | s0
  | s1 (b : Nat)
  | s2 (b b' cap : Nat)
  | s3 (b b' cap : Nat)
def Stg.x : Stg → Nat
  | .s0 => 0
  | .s1 b => b
  | .s2 b _ _ => b
  | .s3 b _ _ => b
def Stg.y : Stg → Nat
  | .s2 _ b _ => b
  | .s3 _ b _ => b
  | _ => 0
def Stg.z : Stg → Nat
  | .s2 _ _ c => c
  | .s3 _ _ c => c
  | _ => 0
def okG : List Nat → Stg → Prop
  | L, .s0 => 6 ∉ L ∧ 15 ∉ L ∧ 17 ∉ L
  | L, .s1 _ => 6 ∈ L ∧ 15 ∉ L ∧ 17 ∉ L
  | L, .s2 _ _ _ => 6 ∈ L ∧ 15 ∈ L ∧ 17 ∉ L
  | L, .s3 _ _ _ => ∀ j, j < 18 → j ∈ L
def vsG (a0 a1 a2 a3 a4 a5 a7 a8 a9 a10 a11 a12 a13 a14 a16 : Value) (m : Nat) (g : Stg) : List Value :=
  [a0, a1, a2, a3, a4, a5, .slice (some ⟨g.x, 0, none⟩) 0 0, a7, a8, a9, a10, a11, a12, a13, a14, .slice (some ⟨g.y, 0, none⟩) m g.z, a16, undef]
theorem vsG_same {a0 a1 a2 a3 a4 a5 a7 a8 a9 a10 a11 a12 a13 a14 a16 : Value} {m : Nat} {g g' : Stg} {j : Nat} (h6 : j = 6 → g.x = g'.x) (h15 : j = 15 → g.y = g'.y ∧ g.z = g'.z) :
    nth j (vsG a0 a1 a2 a3 a4 a5 a7 a8 a9 a10 a11 a12 a13 a14 a16 m g) = nth j (vsG a0 a1 a2 a3 a4 a5 a7 a8 a9 a10 a11 a12 a13 a14 a16 m g') := by
  by_cases e6 : j = 6
  · subst e6; simp [vsG, nth, h6 rfl]
  by_cases e15 : j = 15
  · subst e15; simp [vsG, nth, h15 rfl]
  rcases j with _ | _ | _ | _ | _ | _ | _ | _ | _ | _ | _ | _ | _ | _ | _ | _ | _ | _ | j
  all_goals first | rfl | exact absurd rfl e6 | exact absurd rfl e15
def hG (m : Nat) (ints : List Value) (base : Hp) (base' : Nat → Nat → Hp) : Stg → Hp
  | .s0 => base
  | .s1 b => (b, true, orow 3 1 0 0 []) :: base
  | .s2 _ b' cap => (b', true, orow 3 1 m cap ints) :: base
  | .s3 _ b' cap => (b', true, orow 3 1 m cap ints) :: base' b' cap
theorem ints_flat {w : World} {xs : List Int} {cells : List (List Value)} (hl : cells.length = xs.length) (h : ∀ (j : Nat) (x : Int) (c : List Value), xs[j]? = some x → cells[j]? = some c → (Kd.int .i64).K w x c) : cells.flatten = xs.map (.int .i64) := by
  have : cells = (xs.map (Value.int .i64)).map fun v => [v] := by
    refine List.ext_getElem (by simp [hl]) fun j h1 h2 => ?_
    have h3 : cells[j] = _ := h j _ _ (List.getElem?_eq_getElem (by omega)) (List.getElem?_eq_getElem h1)
    rw [h3]
    simp
  rw [this, flat_ones]
end Go.Proofs.Ytcmepdamemnbkaa
