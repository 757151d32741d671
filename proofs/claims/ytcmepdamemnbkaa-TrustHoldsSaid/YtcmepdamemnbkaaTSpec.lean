/- trust: what its functions answer, in plain Lean. -/
import Derived.Test.YtcmepdamemnbkaaKds
import Derived.Test.YtcmepdamemnbkaaTIn
namespace Go.Proofs.Ytcmepdamemnbkaa
open Go.RowKit Go.Proofs.YtcmepdamemnbkaaW.PrintWords
set_option linter.unusedVariables false
set_option linter.unusedSimpArgs false
abbrev RecT := S43
abbrev LetT := S65
abbrev recK : Kd RecT := k43
abbrev letK : Kd LetT := k65
abbrev waysK : Kd (List Int) := Kd.slice 3 (Kd.int .i64)
abbrev zRec : RecT := z43
abbrev zLet : LetT := z65
def recV (x : RecT) (A : Option Addr) (c : Nat) : List Value := [.int .i64 x.f0, .int .u8 x.f1, .slice A x.f2.length c]
def letV (x : LetT) : List Value := [.int .i64 x.f0, .int .i64 x.f1, .int .i64 x.f2, .int .u8 x.f3]
def Bytes (r : List RecT) : Prop := ∀ x ∈ r, 0 ≤ x.f1 ∧ x.f1 ≤ 255
def BytesL (l : List LetT) : Prop := ∀ x ∈ l, 0 ≤ x.f3 ∧ x.f3 ≤ 255

theorem ro_of {w : World} {p : Addr} {cs : List Value} (h : ∀ j v, cs[j]? = some v → w.cell? (p.add j) = some v) : RO w XNone p cs := fun j v hj => ⟨h j v hj, fun x => x⟩
theorem add_add (a : Addr) (m n : Nat) : (a.add m).add n = a.add (m + n) := by
  unfold Addr.add
  by_cases h1 : m = 0 <;> by_cases h2 : n = 0 <;> simp [h1, h2]
  omega
theorem at_of {α : Type} {d : Kd α} {w : World} {A : Option Addr} {n : Nat} {xs : List α} (h : Kd.C d w A n xs) (z : α) (k : Nat) (hk : k < n) :
    ∃ ad cs, A = some ad ∧ xs[k]? = some (xs.getD k z) ∧ d.K w (xs.getD k z) cs ∧ RO w XNone (ad.add (k * d.sz)) cs := by
  obtain ⟨ad, e, hc⟩ := h.2.2 (by omega)
  have hl : k < xs.length := by have := h.1; omega
  have hg : xs.getD k z = xs[k] := by simp [List.getD_eq_getElem?_getD, List.getElem?_eq_getElem hl]
  obtain ⟨cs, h1, h2, h3⟩ := hc k _ (List.getElem?_eq_getElem hl)
  rw [hg]
  exact ⟨ad, cs, e, List.getElem?_eq_getElem hl, h2, ro_of fun j v hj => by rw [add_add]; exact h3 j v hj⟩
theorem rec_at {w : World} {A : Option Addr} {n : Nat} {r : List RecT} (h : Kd.C recK w A n r) (k : Nat) (hk : k < n) :
    ∃ ad A2 c2, A = some ad ∧ RO w XNone (ad.add ((k : Int).toNat * szN 3)) (recV (r.getD k zRec) A2 c2) ∧ (r.getD k zRec).f2.length ≤ c2 ∧ Kd.C waysK w A2 (r.getD k zRec).f2.length (r.getD k zRec).f2 := by
  obtain ⟨ad, cs, e, _, hK, hR⟩ := at_of h zRec k hk
  obtain ⟨A2, c2, rfl, h1, h2⟩ := k43_open hK
  exact ⟨ad, A2, c2, e, hR, h1, h2⟩
theorem let_at {w : World} {A : Option Addr} {n : Nat} {r : List LetT} (h : Kd.C letK w A n r) (k : Nat) (hk : k < n) :
    ∃ ad, A = some ad ∧ RO w XNone (ad.add ((k : Int).toNat * szN 4)) (letV (r.getD k zLet)) := by
  obtain ⟨ad, cs, e, _, hK, hR⟩ := at_of h zLet k hk
  obtain rfl := k65_open hK
  exact ⟨ad, e, hR⟩
theorem way_at {w : World} {A : Option Addr} {n : Nat} {r : List (List Int)} (h : Kd.C waysK w A n r) (k : Nat) (hk : k < n) :
    ∃ ad A2 c2, A = some ad ∧ RO w XNone (ad.add ((k : Int).toNat * szN 0)) [.slice A2 (r.getD k []).length c2] ∧ (r.getD k []).length ≤ c2 ∧ Kd.C (Kd.int .i64) w A2 (r.getD k []).length (r.getD k []) := by
  obtain ⟨ad, cs, e, _, hK, hR⟩ := at_of h [] k hk
  obtain ⟨A2, c2, rfl, h1, h2⟩ := hK
  exact ⟨ad, A2, c2, e, hR, h1, h2⟩
theorem drop_at {α : Type} (xs : List α) (z : α) (k : Nat) (hk : k < xs.length) : xs.drop k = xs.getD k z :: xs.drop (k + 1) := by
  rw [List.drop_eq_getElem_cons hk]
  simp [List.getD_eq_getElem?_getD, List.getElem?_eq_getElem hk]
theorem getD_mem {α : Type} (xs : List α) (z : α) (k : Nat) (hk : k < xs.length) : xs.getD k z ∈ xs := by
  simp [List.getD_eq_getElem?_getD, List.getElem?_eq_getElem hk]
/-- a row of whole numbers of the call's own, as it is read -/
theorem C_cel {w0 : World} {X : Nat → Prop} {η : Hp} {w : World} (hw : WOK w0 X η w) {b : Nat} {wr : Bool} {xs : List Int} {t : TypeId} (hm : (b, wr, cel (xs.map (.int .i64)) t) ∈ η) (hl : xs.length ≤ 9223372036854775807) : Kd.C (Kd.int .i64) w (some ⟨b, 0, none⟩) xs.length xs := by
  refine ⟨rfl, hl, fun _ => ⟨_, rfl, fun j p hj => ⟨[.int .i64 p], rfl, rfl, fun i u hu => ?_⟩⟩⟩
  have hi : i = 0 := by
    have := (List.getElem?_eq_some_iff.1 hu).1
    simpa using this
  subst hi
  simp at hu
  subst hu
  rw [Addr.add_lit]
  refine hw.cell hm _ ?_
  simp [Kd.int, Kd.scalar, hj]

/-! ### answers -/
def inF (lo hi x : Int) : Bool := decide (lo ≤ x) && decide (x ≤ hi)
def knownF (r : List RecT) (id : Int) : Bool := r.any fun x => decide (x.f0 = id)
def wayF (bs : List Int) : Int → List Int → Bool
  | _, [] => true
  | past, n :: w => !(decide (n ≤ past) || !decide (n ∈ bs)) && wayF bs n w
def waysF (bs : List Int) (l : List (List Int)) : Bool := l.all fun w => wayF bs (-1) w && inF 1 4 w.length
def mostF (k : Int) : Int := if 3 ≤ k then 3 else 0
def recF : List Int → Int → List RecT → Bool
  | _, _, [] => true
  | bs, last, x :: r => (inF (last + 1) 9999 x.f0 && inF 1 4 x.f1 && inF (if 3 ≤ x.f1 then 1 else 0) (mostF x.f1) x.f2.length) && (waysF bs x.f2 && recF (insN x.f0 bs) x.f0 r)
def recordedF (r : List RecT) : Bool := recF [] (-1) r && decide (r.length ≤ 12)
theorem in_one (a0 a1 x : Int) : (!([x].any fun x => decide (x < a0) || decide (a1 < x))) = inF a0 a1 x := by
  unfold inF
  rw [Bool.eq_iff_iff]
  simp
/-- is one number in a span? -/
theorem in_calls {w0 : World} {X : Nat → Prop} {η : Hp} {w : World} (hw : WOK w0 X η w) (lo hi x : Int) {b : Nat} {wr : Bool} {t : TypeId} (hm : (b, wr, cel [.int .i64 x] t) ∈ η) :
    Calls Try.prog 32 #[.int .i64 lo, .int .i64 hi, .slice (some ⟨b, 0, none⟩) 1 1] w fun e w' => e = .returned (.bool (inF lo hi x)) ∧ Below w.heap.size w w' := by
  rw [← in_one]
  exact trust_in.calls lo hi (some ⟨b, 0, none⟩) 1 [x] _ w (C_cel hw (xs := [x]) hm (by simp)) (by simp) rfl
theorem in_enters : ∀ args w, (callFunc 32 args).run Try.prog w = .ok (.enter 32 args) w := enters_of Try.func32 (by kernel_rfl) rfl
end Go.Proofs.Ytcmepdamemnbkaa
