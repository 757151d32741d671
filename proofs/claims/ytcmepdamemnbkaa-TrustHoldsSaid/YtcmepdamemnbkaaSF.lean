/- SX: append of a whole row. No program in sight. -/
import Derived.Test.YtcmepdamemnbkaaSE
import Derived.Deep.Upon
namespace Go.Proofs.Ytcmepdamemnbkaa
open Go.RowKit
set_option linter.unusedVariables false
set_option linter.unusedSimpArgs false
section
variable {P : Program} {ro : Option Nat} {n N : Nat} {ds : List Deferred} {w0 : World} {X : Nat → Prop} {Q : Exit → Act → World → Prop} {σ : Slots} {η : Hp} {ops rest : List Oper} {d : Option Tmp} {ty : TypeId} {pos : String} {aft : Array Edge} {g : Option (Nat × Bool)}
/-- a row literal without elements -/
theorem xo_bs0 (T : Tys P) (sz : Nat) {t e : TypeId} {k0 : Nat} (hg : gS ops σ g = some true) (ht : look t T.el = some e) (hk : look e T.tk = some k0) (hN : dstOK N d = true)
    (h : ∀ b, XO P ro n N ds w0 X Q ops (putS d (.slice (some ⟨b, 0, none⟩) 0 0) σ) ((b, true, orow e sz 0 0 []) :: η) rest) : XO P ro n N ds w0 X Q ops σ η (⟨d, .buildSlice t 0 #[], ty, pos, aft, g⟩ :: rest) :=
  xo_base rfl hg fun a w ha hw => by
    have h1 := T.hel _ (look_mem ht)
    obtain ⟨h2, h3⟩ := T.htk _ (look_mem hk)
    simp only at h1 h3
    refine ⟨_, w.alloc (.cells #[] e), .slice (some ⟨w.heap.size, 0, none⟩) 0 0, ?_, .inl rfl, h _ _ _ (ha.put hN _) (hw.alloc _ _ ⟨#[], rfl, Nat.le_refl _, by simp [maxLen], by simp, by simp⟩)⟩
    simp [execOp, Instr.buildSlice, run_underlying h1, h3 w, Instr.fill, newRow, Array.range_zero']
theorem xo_appN (T : TysR P) {t e : TypeId} {s x : Operand} {z : Value} {sz by_ m k c : Nat} {A : Option Addr} {r : RowR} {xs news : List Value} {η0 : Hp} (hg : gS ops σ g = some true) (ht : look t T.el = some e) (hi : look e T.inf = some (z, sz, by_)) (hzs : z.cells.toList.length = sz) (hsz : Nat.blt 0 sz = true)
    (hs : ev σ s = some (valR r m)) (hx : ev σ x = some (.slice A k c)) (hη : η = hpR e sz r m xs ++ η0) (hl : xs.length = m * sz) (hn : news.length = k * sz) (hA : A = none → k = 0) (hnews : ∀ p, A = some p → ∀ w, WOK w0 X η w → ∀ j u, news[j]? = some u → w.cell? (p.add j) = some u) (h1 : ∀ u ∈ news, u.oneCell' = true) (h0 : r = none → m = 0)
    (hb : (m + k) * by_ ≤ 140737488355328) (hb0 : Nat.blt 0 by_ = true) (hN : dstOK N d = true)
    (h : ∀ r' : RowR, (r' = none → r = none ∧ k = 0) → XO P ro n N ds w0 X Q ops (putS d (valR r' (m + k)) σ) (hpR e sz r' (m + k) (xs ++ news) ++ η0) rest) :
    XO P ro n N ds w0 X Q ops σ η (⟨d, .call { callee := .builtin .append, args := #[s, x], argTypes := #[t, t] }, ty, pos, aft, g⟩ :: rest) := by
  subst hη
  refine xo_base rfl hg fun a w ha hw => ?_
  have hT := T.hel _ (look_mem ht)
  obtain ⟨i, hi1, hi2⟩ := Option.map_eq_some_iff.1 (T.hinf _ (look_mem hi))
  simp only [Prod.mk.injEq] at hi2
  obtain ⟨iz, isz, iby⟩ := hi2
  have hb1 : 0 < by_ := by simpa [Nat.blt_eq] using hb0
  have hlen : m + k ≤ 140737488355328 := Nat.le_trans (Nat.le_mul_of_pos_right _ hb1) hb
  cases A with
  | none =>
    have hk0 := hA rfl
    subst hk0
    have hnn : news = [] := List.eq_nil_of_length_eq_zero (by simpa using hn)
    subst hnn
    have hr : ∃ base cap, valR r m = .slice base m cap ∧ m ≤ cap := by
      cases r with
      | none => exact ⟨none, 0, by rw [h0 rfl]; rfl, by rw [h0 rfl]; exact Nat.le_refl _⟩
      | some p =>
        obtain ⟨o, h2, cur, rfl, h3, _⟩ := hw.bl (p.1, true, orow e sz m p.2 xs) (List.mem_append_left _ (List.mem_cons_self ..))
        exact ⟨_, _, rfl, h3⟩
    obtain ⟨base, cap, hv, hle⟩ := hr
    have hsrc : Src P i.size t (.slice none 0 c) 0 [] w := ⟨.inl ⟨e, hT⟩, fun w' => by simp [Builtin.lenOf], by simp [Builtin.firstCells], by simp [Builtin.firstCells], by simp, by simp⟩
    have hrun := run_append_nothing (P := P) w t t ty e i hT hi1 base m cap hle _ hsrc
    refine ⟨.value (valR r m), w, _, ?_, .inl rfl, h r (fun q => ⟨q, rfl⟩) _ _ (ha.put hN _) (by rw [List.append_nil]; exact hw)⟩
    simp only [execOp, resolve, invoke, builtin, Sem.run_bind, Sem.run_pure, Result.andThen_ok, List.map_toArray, List.map_cons, List.map_nil, ha.ev hs, ha.ev hx, hv, hrun]
  | some p =>
    have hown := hw.owns hl h0
    obtain ⟨v', w', hr, own', hgr, hnil, hat⟩ := run_append_own_at (P := P) w 0 t ty e i z sz by_ hT hi1 iz isz iby (by simpa using hzs) (by simpa [Nat.blt_eq] using hsz) (valR r m) m xs hown p k c news hn
      (fun j u hj => hnews p rfl w hw j u hj) h1 (by simp only [maxLen]; omega) hb (Nat.zero_le _)
    have hη0 := hw.sub (List.sublist_append_right (hpR e sz r m xs) η0)
    have hold : ∀ k, k < w.heap.size → (∀ p, r = some p → k ≠ p.1) → w'.heap[k]? = w.heap[k]? := fun k hk hne => hgr.block k hk (fun e' => by
      cases r with
      | none => simp [valR, Value.ownBlock] at e'
      | some p => simp [valR, Value.ownBlock] at e'; exact hne p rfl e')
    have hne0 : ∀ e' ∈ η0, ∀ p, r = some p → e'.1 ≠ p.1 := fun e' he p hp q => by
      subst hp
      have hnd := hw.nd
      simp only [hpR, List.cons_append, List.nil_append, List.map_cons, List.nodup_cons] at hnd
      exact hnd.1 (List.mem_map.2 ⟨e', he, q⟩)
    have hrow : ∀ p, r = some p → w0.heap.size ≤ p.1 ∨ X p.1 := fun p hp => by
      subst hp
      exact hw.ow (p.1, true, orow e sz m p.2 xs) (List.mem_append_left _ (List.mem_cons_self ..)) rfl
    have hk0 : Kx X w0 w' := ⟨hgr.os.trans hη0.kx.os, hgr.tape.trans hη0.kx.tape, hgr.output.trans hη0.kx.output, Nat.le_trans hη0.kx.size hgr.size, fun k hk hx => by
      refine (hold k (Nat.lt_of_lt_of_le hk hη0.kx.size) (fun p hp q => ?_)).trans (hη0.kx.block k hk hx)
      subst q
      rcases hrow p hp with h9 | h9
      · exact absurd hk (Nat.not_lt.2 h9)
      · exact hx h9⟩
    have hw0' : WOK w0 X η0 w' := ⟨hk0, fun e' he => by
      obtain ⟨o, h9, h10⟩ := hη0.bl e' he
      exact ⟨o, (hold _ (hη0.lt he) (hne0 e' he)).trans h9, h10⟩, hη0.nd, hη0.ow⟩
    obtain ⟨h2, h3⟩ := own'
    have run : ∀ v'', v' = v'' → (execOp a.eval ⟨d, .call { callee := .builtin .append, args := #[s, x], argTypes := #[t, t] }, ty, pos, aft, g⟩).run P w = .ok (.value v'') w' := fun v'' e' => by
      subst e'
      simp only [execOp, resolve, invoke, builtin, Sem.run_bind, Sem.run_pure, Result.andThen_ok, List.map_toArray, List.map_cons, List.map_nil, ha.ev hs, ha.ev hx, hr]
    rcases h3 with ⟨hv0, h3⟩ | ⟨g', cap', cur, hv0, _, h4, h5, h6, h7, h8⟩
    · have hm0 : m = 0 ∧ k = 0 := by omega
      obtain ⟨hr0, _⟩ := hnil.1 hv0
      have hrn : r = none := by
        cases r with
        | none => rfl
        | some p => simp [valR] at hr0
      refine ⟨.value (valR none (m + k)), w', _, run _ hv0, .inl rfl, h none (fun _ => ⟨hrn, hm0.2⟩) _ _ (ha.put hN _) hw0'⟩
    · refine ⟨.value (.slice (some ⟨g', 0, none⟩) (m + k) cap'), w', _, run _ hv0, .inl rfl, h (some (g', cap')) (by simp) _ _ (ha.put hN _) ?_⟩
      subst hv0
      have hg' : (∃ p, r = some p ∧ g' = p.1) ∨ g' = w.heap.size := by
        rcases hat with hat | hat
        · left
          cases r with
          | none => simp [valR, Value.ownBlock] at hat
          | some p => simp [valR, Value.ownBlock] at hat; exact ⟨p, rfl, hat⟩
        · right
          simpa [Value.ownBlock] using hat
      refine ⟨hk0, ?_, ?_, ?_⟩
      · intro e' he
        rcases List.mem_append.1 he with he | he
        · simp only [hpR, List.mem_singleton] at he
          subst he
          exact ⟨_, h4, cur, rfl, h5, h6, h7, h8⟩
        · exact hw0'.bl e' he
      · simp only [hpR, List.cons_append, List.nil_append, List.map_cons, List.nodup_cons]
        refine ⟨fun hm => ?_, hη0.nd⟩
        obtain ⟨e', he, q⟩ := List.mem_map.1 hm
        rcases hg' with ⟨p, hp, hg'⟩ | hg'
        · exact hne0 e' he p hp (q.trans hg')
        · have := hη0.lt he
          omega
      · intro e' he hwr
        rcases List.mem_append.1 he with he | he
        · simp only [hpR, List.mem_singleton] at he
          subst he
          rcases hg' with ⟨p, hp, hg'⟩ | hg'
          · rw [show g' = p.1 from hg']; exact hrow p hp
          · exact .inl (by rw [show g' = _ from hg']; exact hη0.kx.size)
        · exact hη0.ow e' he hwr
end
end Go.Proofs.Ytcmepdamemnbkaa
