/- origin: the spans of minutes that rise. Plain. / origin: without marks, and a clock. Plain. / origin: a mark more; marks in another order, under other Ids. Plain. / a chain of makers beside a cell: where they stand. / law09: a row without one. / law09.OriginFree: the walk. / law09.OriginMore: marks turned in place. / law09.OriginMore: the walk. / The variable origin.nowhere, as the rows' condition lays it, and the door's own heap, which meets that condition. -/
import Derived.Test.YtommeljlfkmpjaaGreatDoorPkLawOriginMore10
import Derived.Test.YtommeljlfkmpjaaGreatDoorPkLawOriginMore3
import Derived.Test.YtommeljlfkmpjaaGreatDoorRows
import Derived.Test.YtommeljlfkmpjaaGreatDoorPkLawOriginMore4
import Derived.LaidLaws
import Derived.LaidHandle
import Derived.LaidMore
import Derived.ChangeVars
import Derived.ChangeShapes
namespace Go.Proofs.YtommeljlfkmpjaaGreatDoor
open Go.RowKit Go.Proofs.YtommeljlfkmpjaaGreatDoorW.PrintWords
set_option linter.unusedVariables false
set_option linter.unusedSimpArgs false
structure SpOK (acc : List SpaT) (P : List Int) : Prop where
 sound : ∀ s ∈ acc, s.f0 ≤ s.f1 ∧ ∀ m, s.f0 ≤ m → m ≤ s.f1 → m ∈ P
 cover : ∀ m ∈ P, ∃ s ∈ acc, s.f0 ≤ m ∧ m ≤ s.f1
 apart : acc.Pairwise fun x y => x.f1 + 1 < y.f0
theorem grpS_snoc (l : List SpaT) (s : SpaT) (m : Int) : grpS (l ++ [s]) m = if s.f1 = m - 1 then l ++ [⟨s.f0, m⟩] else l ++ [s] ++ [⟨m, m⟩] := by
 have h1 : (l ++ [s]).length - 1 = l.length := by simp
 have h2 : (l ++ [s]).getD l.length zSpa = s := by simp [List.getD_eq_getElem?_getD]
 unfold grpS
 rw [h1, h2]
 by_cases h : s.f1 = m - 1
 · rw [if_pos h, if_pos ⟨by simp, h⟩]
   simp
 · rw [if_neg h, if_neg (fun q => h q.2)]
theorem SpOK.step {acc : List SpaT} {P : List Int} {m : Int} (h : SpOK acc P) (hm : ∀ p ∈ P, p < m) : SpOK (grpS acc m) (P ++ [m]) := by
 rcases List.eq_nil_or_concat acc with rfl | ⟨l, s, rfl⟩
 · have hP : P = [] := by
     cases P with
     | nil => rfl
     | cons p P => obtain ⟨s, hs, _⟩ := h.cover p List.mem_cons_self; cases hs
   subst hP
   have : grpS [] m = [⟨m, m⟩] := by simp [grpS]
   rw [this]
   refine ⟨fun s hs => ?_, fun p hp => ?_, List.pairwise_singleton _ _⟩
   · rw [List.mem_singleton.1 hs]
     exact ⟨Int.le_refl _, fun p h1 h2 => by simp only at h1 h2; simp; omega⟩
   · have : p = m := by simpa using hp
     exact ⟨_, List.mem_cons_self, by simp only; omega, by simp only; omega⟩
 · rw [List.concat_eq_append] at h ⊢
   have hs := h.sound s (List.mem_append_right _ List.mem_cons_self)
   have hsm := hm _ (hs.2 s.f1 hs.1 (Int.le_refl _))
   have hap := List.pairwise_append.1 h.apart
   have hls : ∀ x ∈ l, x.f1 + 1 < s.f0 := fun x hx => hap.2.2 x hx s List.mem_cons_self
   rw [grpS_snoc]
   split
   · rename_i he
     refine ⟨fun x hx => ?_, fun p hp => ?_, ?_⟩
     · rcases List.mem_append.1 hx with hx | hx
       · have := h.sound x (List.mem_append_left _ hx)
         exact ⟨this.1, fun p h1 h2 => List.mem_append_left _ (this.2 p h1 h2)⟩
       · rw [List.mem_singleton.1 hx]
         refine ⟨by simp only; omega, fun p h1 h2 => ?_⟩
         simp only at h1 h2
         by_cases hpm : p = m
         · rw [hpm]; exact List.mem_append_right _ List.mem_cons_self
         · exact List.mem_append_left _ (hs.2 p h1 (by omega))
     · rcases List.mem_append.1 hp with hp | hp
       · obtain ⟨x, hx, h1, h2⟩ := h.cover p hp
         rcases List.mem_append.1 hx with hx | hx
         · exact ⟨x, List.mem_append_left _ hx, h1, h2⟩
         · rw [List.mem_singleton.1 hx] at h1 h2
           exact ⟨_, List.mem_append_right _ List.mem_cons_self, h1, by simp only; omega⟩
       · have : p = m := by simpa using hp
         exact ⟨_, List.mem_append_right _ List.mem_cons_self, by simp only; omega, by simp only; omega⟩
     · refine List.pairwise_append.2 ⟨hap.1, List.pairwise_singleton _ _, fun x hx y hy => ?_⟩
       rw [List.mem_singleton.1 hy]
       exact hls x hx
   · rename_i he
     refine ⟨fun x hx => ?_, fun p hp => ?_, ?_⟩
     · rcases List.mem_append.1 hx with hx | hx
       · have := h.sound x hx
         exact ⟨this.1, fun p h1 h2 => List.mem_append_left _ (this.2 p h1 h2)⟩
       · rw [List.mem_singleton.1 hx]
         exact ⟨Int.le_refl _, fun p h1 h2 => by simp only at h1 h2; simp; right; omega⟩
     · rcases List.mem_append.1 hp with hp | hp
       · obtain ⟨x, hx, h1, h2⟩ := h.cover p hp
         exact ⟨x, List.mem_append_left _ hx, h1, h2⟩
       · have : p = m := by simpa using hp
         exact ⟨_, List.mem_append_right _ List.mem_cons_self, by simp only; omega, by simp only; omega⟩
     · refine List.pairwise_append.2 ⟨h.apart, List.pairwise_singleton _ _, fun x hx y hy => ?_⟩
       rw [List.mem_singleton.1 hy]
       simp only
       rcases List.mem_append.1 hx with hx | hx
       · have := hls x hx; omega
       · rw [List.mem_singleton.1 hx]; omega
theorem spans_ok {L : List Int} (hL : L.Pairwise (· < ·)) : SpOK (spansOf L) L := by
 have key : ∀ (L P : List Int) (acc : List SpaT), SpOK acc P → (P ++ L).Pairwise (· < ·) → SpOK (L.foldl grpS acc) (P ++ L) := by
   intro L
   induction L with
   | nil => intro P acc h _; rw [List.append_nil]; exact h
   | cons m L ih =>
     intro P acc h hp
     have h1 := List.pairwise_append.1 hp
     have := ih (P ++ [m]) (grpS acc m) (h.step fun p hp => h1.2.2 p hp m List.mem_cons_self) (by rw [List.append_assoc]; exact hp)
     rw [List.append_assoc] at this
     exact this
 exact key L [] [] ⟨fun s h => (by cases h), fun m h => (by cases h), List.Pairwise.nil⟩ hL
/-- a run of minutes lies in one of the spans -/
theorem SpOK.run {acc : List SpaT} {P : List Int} (h : SpOK acc P) {a b : Int} (hab : a ≤ b) (hall : ∀ m, a ≤ m → m ≤ b → m ∈ P) : ∃ s ∈ acc, s.f0 ≤ a ∧ b ≤ s.f1 := by
 obtain ⟨s, hs, h1, h2⟩ := h.cover a (hall a (Int.le_refl _) hab)
 refine ⟨s, hs, h1, ?_⟩
 by_cases hb : b ≤ s.f1
 · exact hb
 exfalso
 obtain ⟨t, ht, h3, h4⟩ := h.cover (s.f1 + 1) (hall _ (by omega) (by omega))
 have hs' := (h.sound s hs).1
 obtain ⟨i, hi, rfl⟩ := List.getElem_of_mem hs
 obtain ⟨j, hj, rfl⟩ := List.getElem_of_mem ht
 have hp := List.pairwise_iff_getElem.1 h.apart
 rcases Nat.lt_trichotomy i j with hij | rfl | hij
 · have := hp i j hi hj hij; omega
 · omega
 · have := hp j i hj hi hij; omega
theorem told_ints {E : Int} {xs : List (Nat × SpaT)} : (intsN (toldL E xs)).Pairwise (· < ·) := by
 unfold intsN
 exact List.pairwise_map.2 ((toldL_rising E xs).imp fun h => by omega)
theorem told_mem {E m : Int} {xs : List (Nat × SpaT)} : m ∈ intsN (toldL E xs) ↔ 0 ≤ m ∧ m ≤ E ∧ toldF xs m = true := by
 unfold intsN toldL
 rw [List.mem_map]
 constructor
 · rintro ⟨n, hn, rfl⟩
   obtain ⟨h1, h2⟩ := List.mem_filter.1 hn
   have := List.mem_range.1 h1
   exact ⟨by omega, by omega, h2⟩
 · rintro ⟨h1, h2, h3⟩
   exact ⟨m.toNat, List.mem_filter.2 ⟨List.mem_range.2 (by omega), by rw [Int.toNat_of_nonneg h1]; exact h3⟩, Int.toNat_of_nonneg h1⟩
/-! ### a clock -/
theorem far_self {R : Nat} {gs : List GatT} {l : List Int} (hG : GatesR R gs) (hl : okD gs l) (a : Nat) : farM R gs l a a = 0 := by
 have := (gates_sound hG hl).fw R R
 exact this.zero a
theorem winF_snoc (E : Int) (r : Nat → Int) (ms : List MarT) (m : MarT) : winF E r (ms ++ [m]) = comF (winF E r ms) (saysF E r m) := by
 unfold winF
 rw [List.foldl_append]
 rfl
/-! ### windows: in any order -/
theorem comF_comm (s a b : SpaT) : comF (comF s a) b = comF (comF s b) a := by
 unfold comF
 congr 1
 · simp only
   repeat' split
   all_goals omega
 · simp only
   repeat' split
   all_goals omega
theorem winF_map (E : Int) (r : Nat → Int) (ms : List MarT) : winF E r ms = (ms.map (saysF E r)).foldl comF ⟨0, E⟩ := by
 unfold winF
 rw [List.foldl_map]
theorem winF_says {E : Int} {r : Nat → Int} {ms ms' : List MarT} (h : (ms'.map (saysF E r)).Perm (ms.map (saysF E r))) : winF E r ms' = winF E r ms := by
 rw [winF_map, winF_map]
 exact h.foldl_eq' (fun x _ y _ z => comF_comm z x y) _
theorem began_says {E : Int} {R : Nat} {gs : List GatT} {room : Nat} {ms ms' : List MarT} (h : ∀ l, winF E (farM R gs l room) ms' = winF E (farM R gs l room) ms) : beganL E R gs room ms' = beganL E R gs room ms := by
 have key : ∀ (ds : List (List Int)) (k : Nat), beganFrom E R gs room ms' k ds = beganFrom E R gs room ms k ds := by
   intro ds
   induction ds with
   | nil => intro k; rfl
   | cons d ds ih => intro k; simp only [beganFrom, h, ih]
 exact key _ _
/-- only what they say counts -/
theorem same_says {R E : Int} {gs : List GatT} {ms ms' : List MarT} (hsc : sceneF R E gs ms = true) (hsc' : sceneF R E gs ms' = true) (h : ∀ r, (ms'.map (saysF E r)).Perm (ms.map (saysF E r))) :
   (∀ room, minutesL R E gs ms' room = minutesL R E gs ms room ∧ minutesC R E gs ms' room = minutesC R E gs ms room) ∧ namedV R E gs ms' = namedV R E gs ms ∧ namedC R E gs ms' = namedC R E gs ms := by
 have hb : ∀ room, beganL E R.toNat gs room ms' = beganL E R.toNat gs room ms := fun room => began_says fun l => winF_says (h _)
 have hC : ∀ room, minutesC R E gs ms' room = minutesC R E gs ms room := fun room => by simp [minutesC, hsc, hsc']
 have hR : roomsR R E gs ms' = roomsR R E gs ms := by
   rw [roomsR, roomsR, if_pos hsc, if_pos hsc']
   unfold roomsN canF
   simp only [hb]
 have hN : namedC R E gs ms' = namedC R E gs ms := by simp [namedC, hsc, hsc', hR]
 exact ⟨fun room => ⟨by rw [minutesL, minutesL, hC, hb], hC room⟩, by rw [namedV, namedV, hN, hR], hN⟩
/-! ### a mark more -/
theorem win_less {E : Int} {r : Nat → Int} {ms : List MarT} {m : MarT} : (winF E r ms).f0 ≤ (winF E r (ms ++ [m])).f0 ∧ (winF E r (ms ++ [m])).f1 ≤ (winF E r ms).f1 := by
 rw [winF_snoc]
 exact comF_in _ _
theorem told_less {E : Int} {R : Nat} {gs : List GatT} {room : Nat} {ms : List MarT} {m : MarT} {x : Int} (h : toldF (beganL E R gs room (ms ++ [m])) x = true) : toldF (beganL E R gs room ms) x = true := by
 obtain ⟨y, hy, h1, h2⟩ := toldF_iff.1 h
 obtain ⟨h3, h4, h5⟩ := beganL_mem.1 hy
 have hl := win_less (E := E) (r := farM R gs ((allD gs).getD y.1 []) room) (ms := ms) (m := m)
 rw [← h4] at hl
 exact toldF_iff.2 ⟨(y.1, winF E (farM R gs ((allD gs).getD y.1 []) room) ms), beganL_mem.2 ⟨h3, rfl, by simp only; omega⟩, by simp only; omega, by simp only; omega⟩
theorem more_minutes {R E : Int} {gs : List GatT} {ms : List MarT} {m : MarT} {room : Int} (hsc : sceneF R E gs ms = true) (hr : roomOK R room = true) : ∀ x ∈ minutesL R E gs (ms ++ [m]) room, ∃ y ∈ minutesL R E gs ms room, y.f0 ≤ x.f0 ∧ x.f1 ≤ y.f1 := by
 intro x hx
 have hC : minutesC R E gs ms room = 0 := by simp [minutesC, hsc, hr]
 rw [minutesL] at hx
 split at hx
 · rw [minutesL, if_pos hC]
   have h1 := (spans_ok told_ints).sound x hx
   refine (spans_ok told_ints).run h1.1 fun p hp1 hp2 => ?_
   obtain ⟨a, b, c⟩ := told_mem.1 (h1.2 p hp1 hp2)
   exact told_mem.2 ⟨a, b, told_less c⟩
 · cases hx
/-- it burns where it began, by the end -/
theorem burns_says {E : Int} {r : Nat → Int} {room id : Int} (h : r room.toNat = 0) : saysF E r ⟨id, 3, room, 0, ⟨E, E⟩, 0⟩ = ⟨-1073741824, E⟩ := by
 simp only [saysF, h, untilF]
 rw [if_neg (by decide), if_neg (by decide), if_pos (by decide), if_neg (by decide)]
 congr 1
 omega
theorem sure_minutes {R E : Int} {gs : List GatT} {ms : List MarT} {room id : Int} (hsc : sceneF R E gs ms = true) (hsc' : sceneF R E gs (ms ++ [⟨id, 3, room, 0, ⟨E, E⟩, 0⟩]) = true) (hr : roomOK R room = true) :
   minutesL R E gs (ms ++ [⟨id, 3, room, 0, ⟨E, E⟩, 0⟩]) room = minutesL R E gs ms room ∧ minutesC R E gs (ms ++ [⟨id, 3, room, 0, ⟨E, E⟩, 0⟩]) room = 0 := by
 obtain ⟨hR6, hE6, hG, _, _⟩ := sceneF_ok hsc
 have hC : minutesC R E gs ms room = 0 := by simp [minutesC, hsc, hr]
 have hC' : minutesC R E gs (ms ++ [⟨id, 3, room, 0, ⟨E, E⟩, 0⟩]) room = 0 := by simp [minutesC, hsc', hr]
 have hG' : GatesR ((R.toNat : Nat) : Int) gs := by rw [Int.toNat_of_nonneg (by omega)]; exact hG
 refine ⟨?_, hC'⟩
 rw [minutesL, minutesL, if_pos hC, if_pos hC']
 congr 3
 have key : ∀ (ds : List (List Int)), (∀ d ∈ ds, okD gs d) → ∀ k, beganFrom E R.toNat gs room.toNat (ms ++ [⟨id, 3, room, 0, ⟨E, E⟩, 0⟩]) k ds = beganFrom E R.toNat gs room.toNat ms k ds := by
   intro ds
   induction ds with
   | nil => intro _ k; rfl
   | cons d ds ih =>
     intro hd k
     have hw : winF E (farM R.toNat gs d room.toNat) (ms ++ [⟨id, 3, room, 0, ⟨E, E⟩, 0⟩]) = winF E (farM R.toNat gs d room.toNat) ms := by
       rw [winF_snoc, burns_says (far_self hG' (hd d List.mem_cons_self) _)]
       have := winF_in E (farM R.toNat gs d room.toNat) ms
       generalize winF E (farM R.toNat gs d room.toNat) ms = s at this ⊢
       obtain ⟨a, b⟩ := s
       simp only at this
       simp only [comF]
       rw [if_neg (by omega)]
       split
       · congr 1; omega
       · rfl
     simp only [beganFrom, hw, ih (fun d hd' => hd d (List.mem_cons_of_mem _ hd'))]
 exact key _ (fun d hd => allD_ok d hd) 0
/-! ### a row without one, and what is asked of it, in whatever order they are made -/
inductive CH where
 | c0
 | c1 (b1 : Nat)
 | c2 (b1 b5 k5 : Nat)
 | c3 (b1 b5 k5 b10 k10 : Nat)
 | c4 (b1 b5 k5 b10 k10 : Nat) (r : RowR)
inductive AL where
 | a0
 | a1 (b : Nat)
 | a2 (b : Nat) (r : RowR)
def CH.b1 : CH → Nat
 | .c0 => 0
 | .c1 b => b
 | .c2 b _ _ => b
 | .c3 b _ _ _ _ => b
 | .c4 b _ _ _ _ _ => b
def CH.b5 : CH → Nat
 | .c2 _ b _ => b
 | .c3 _ b _ _ _ => b
 | .c4 _ b _ _ _ _ => b
 | _ => 0
def CH.k5 : CH → Nat
 | .c2 _ _ b => b
 | .c3 _ _ b _ _ => b
 | .c4 _ _ b _ _ _ => b
 | _ => 0
def CH.b10 : CH → Nat
 | .c3 _ _ _ b _ => b
 | .c4 _ _ _ b _ _ => b
 | _ => 0
def CH.k10 : CH → Nat
 | .c3 _ _ _ _ b => b
 | .c4 _ _ _ _ b _ => b
 | _ => 0
def CH.r : CH → RowR
 | .c4 _ _ _ _ _ r => r
 | _ => none
def AL.b : AL → Nat
 | .a0 => 0
 | .a1 b => b
 | .a2 b _ => b
end Go.Proofs.YtommeljlfkmpjaaGreatDoor
namespace Go.Proofs.YtommeljlfkmpjaaGreatDoor
open Go.RowKit Go.Proofs.YtommeljlfkmpjaaGreatDoorW.PrintWords
set_option linter.unusedVariables false
set_option linter.unusedSimpArgs false
section
variable {P : Program} {ro : Option Nat} {n N : Nat} {ds : List Deferred} {w0 : World} {X : Nat → Prop} {Q : Exit → Act → World → Prop} {σ : Slots} {η η' : Hp} {ops rest : List Oper} {d : Option Tmp} {ty : TypeId} {pos : String} {aft : Array Edge} {g : Option (Nat × Bool)}
theorem WOK.fewer {b : Nat} {wr : Bool} {t : TypeId} {sz m k cap : Nat} {xs : List Value} {η0 : Hp} {w : World} (hm : m ≤ k) (h : WOK w0 X ((b, wr, orow t sz k cap xs) :: η0) w) : WOK w0 X ((b, wr, orow t sz m cap (xs.take (m * sz))) :: η0) w := by
 refine ⟨h.kx, fun e he => ?_, h.nd, fun e he hw => ?_⟩
 · rcases List.mem_cons.1 he with rfl | he
   · obtain ⟨o, h1, cur, h2, h3, h4, h5, h6⟩ := h.bl _ List.mem_cons_self
     refine ⟨o, h1, cur, h2, by omega, h4, h5, ?_⟩
     rw [← h6, List.take_take, Nat.min_eq_left (Nat.mul_le_mul_right _ hm)]
   · exact h.bl _ (List.mem_cons_of_mem _ he)
 · rcases List.mem_cons.1 he with rfl | he
   · exact h.ow (b, wr, orow t sz k cap xs) List.mem_cons_self hw
   · exact h.ow _ (List.mem_cons_of_mem _ he) hw
end
theorem f0_in {R last : Int} : ∀ {ms : List MarT}, marksF R last ms = true → ∀ m ∈ ms, last < m.f0 ∧ m.f0 ≤ 9999 := by
 intro ms
 induction ms generalizing last with
 | nil => intro _ m h; cases h
 | cons x ms ih =>
   intro h m hm
   rw [marksF, Bool.and_eq_true] at h
   have h1 := h.1
   simp only [Bool.and_eq_true] at h1
   have hi := inF_iff.1 h1.1.1.1
   rcases List.mem_cons.1 hm with rfl | hm
   · omega
   · have := ih h.2 m hm; omega
theorem setSeg_take : ∀ (i : Nat) (vs cs : List Value) (n : Nat) (cs' : List Value), setSeg i vs cs = some cs' → i + vs.length ≤ n → setSeg i vs (cs.take n) = some (cs'.take n) := by
 intro i
 induction i with
 | zero =>
   intro vs
   induction vs with
   | nil => intro cs n cs' h _; simp only [setSeg, Option.some.injEq] at h ⊢; rw [h]
   | cons v vs ih =>
     intro cs n cs' h hn
     cases cs with
     | nil => simp [setSeg] at h
     | cons x cs =>
       cases n with
       | zero => simp at hn
       | succ n =>
         rw [setSeg] at h
         cases hq : setSeg 0 vs cs with
         | none => rw [hq] at h; cases h
         | some r =>
           rw [hq] at h
           obtain rfl := Option.some.inj h
           have := ih cs n r hq (by simp at hn ⊢; omega)
           rw [List.take_succ_cons, setSeg, this]
           rfl
 | succ i ih =>
   intro vs cs n cs' h hn
   cases cs with
   | nil => simp [setSeg] at h
   | cons x cs =>
     cases n with
     | zero => omega
     | succ n =>
       rw [setSeg] at h
       cases hq : setSeg i vs cs with
       | none => rw [hq] at h; cases h
       | some r =>
         rw [hq] at h
         obtain rfl := Option.some.inj h
         have := ih vs cs n r hq (by omega)
         rw [List.take_succ_cons, setSeg, this]
         rfl
theorem setSeg_app : ∀ (a vs b cs : List Value), vs.length = b.length → setSeg a.length vs (a ++ (b ++ cs)) = some (a ++ (vs ++ cs))
 | [], [], [], cs, _ => by simp [setSeg]
 | [], v :: vs, x :: b, cs, h => by
   have := setSeg_app [] vs b cs (by simpa using h)
   simp only [List.length_nil, List.nil_append] at this ⊢
   rw [List.cons_append, setSeg, this]
   rfl
 | [], [], _ :: _, _, h => by simp at h
 | [], _ :: _, [], _, h => by simp at h
 | x :: a, vs, b, cs, h => by
   have := setSeg_app a vs b cs h
   rw [List.length_cons, List.cons_append, setSeg, this]
   rfl
theorem marL_split (ls : List MarT) {k : Nat} (hk : k < ls.length) : marL ls = marL (ls.take k) ++ (marV (ls.getD k zMar) ++ marL (ls.drop (k + 1))) := by
 have h := drop_at ls zMar k hk
 have h2 : marL ls = marL (ls.take k) ++ marL (ls.drop k) := by
   unfold marL
   rw [← List.flatten_append, ← List.map_append, List.take_append_drop]
 rw [h2, h]
 rfl
theorem marL_set (ls : List MarT) (m : MarT) {k : Nat} (hk : k < ls.length) : setSeg (k * 7) (marV m) (marL ls) = some (marL (ls.set k m)) := by
 have h1 : (marL (ls.take k)).length = k * 7 := by rw [marL_len, List.length_take, Nat.min_eq_left (by omega)]
 have h2 : marL (ls.set k m) = marL (ls.take k) ++ (marV m ++ marL (ls.drop (k + 1))) := by
   rw [marL_split (ls.set k m) (k := k) (by simpa using hk)]
   congr 1
   · rw [List.take_set_of_le (Nat.le_refl _)]
   · congr 1
     · rw [show (ls.set k m).getD k zMar = m by simp [List.getD_eq_getElem?_getD, hk]]
     · rw [List.drop_set_of_lt (by omega)]
 rw [h2, marL_split ls hk, ← h1]
 exact setSeg_app _ _ _ _ rfl
section
variable {P : Program} {ro : Option Nat} {n N : Nat} {ds : List Deferred} {w0 : World} {X : Nat → Prop} {Q : Exit → Act → World → Prop} {σ : Slots} {η : Hp} {ops rest : List Oper} {d : Option Tmp} {ty : TypeId} {pos : String} {aft : Array Edge} {g : Option (Nat × Bool)}
/-- a struct is laid over an element of a row -/
theorem xo_storeZN (T : Tys P) {t : TypeId} {p x : Operand} {pa : Addr} {b k m cap sz k0 : Nat} {xs ys vs : List Value} {te : TypeId} {v : Value} {η' : Hp} (hg : gS ops σ g = some true) (ht : look t T.tk = some k0) (hp : ev σ p = some (.pointer (some pa))) (hpa : pa = ⟨b, k, none⟩) (hx : ev σ x = some v)
   (hm : (b, true, orow te sz m cap xs) ∈ η) (hvs : v.cells.toList = vs) (hl : Nat.beq vs.length (szN k0) = true) (h1 : vs.all (·.oneCell') = true) (hlt : k + vs.length ≤ m * sz) (hs : setSeg k vs xs = some ys) (hU : Upd b (orow te sz m cap ys) η η') (hN : dstOK N d = true)
   (h : XO P ro n N ds w0 X Q ops (putS d undef σ) η' rest) : XO P ro n N ds w0 X Q ops σ η (⟨d, .store t p x, ty, pos, aft, g⟩ :: rest) :=
 xo_base rfl hg fun a w ha hw => by
   have h2 := (T.htk _ (look_mem ht)).2 w
   obtain ⟨o, h4, cur, rfl, h5, h6, h7, h8⟩ := hw.bl _ hm
   have hsz : m * sz ≤ cur.toList.length := by rw [Array.length_toList, h7]; exact Nat.mul_le_mul_right _ h5
   obtain ⟨cs', hc1, hc2, _⟩ := setSeg_ok k vs cur.toList (by omega)
   have hys : cs'.take (m * sz) = ys := by
     have := setSeg_take k vs cur.toList (m * sz) cs' hc1 hlt
     rw [h8, hs] at this
     exact (Option.some.inj this).symm
   obtain ⟨w', hr, ho, hb⟩ := run_storeCells (P := P) b te vs cur.toList k 0 cs' w (by simpa using h1) hc1 (by simpa using h4)
   have h3 := ha.ev hp
   rw [hpa] at h3
   refine ⟨_, w', undef, ?_, .inr ⟨rfl, rfl⟩, h _ _ (ha.put hN _) (hw.upd hU ho hb ⟨_, rfl, h5, h6, by rw [List.size_toArray, hc2, Array.length_toList, h7], by simpa using hys⟩)⟩
   have hlen : v.cells.size = szN k0 := by have := Nat.eq_of_beq_eq_true hl; rw [← this, ← hvs]; simp
   unfold szN at hlen
   simp only [execOp, h3, ha.ev hx, Instr.storeAt, Instr.sureAddr, storeVar, Sem.run_bind, Sem.run_pure, Result.andThen_ok, h2, hlen, hvs, hr, ne_eq, not_true_eq_false, ↓reduceIte]
end
theorem marL_id (ls : List MarT) (x : Int) {k : Nat} (hk : k < ls.length) : (marL ls).set (k * 7) (.int .i64 x) = marL (ls.set k ⟨x, (ls.getD k zMar).f1, (ls.getD k zMar).f2, (ls.getD k zMar).f3, (ls.getD k zMar).f4, (ls.getD k zMar).f5⟩) := by
 have h1 : (marL (ls.take k)).length = k * 7 := by rw [marL_len, List.length_take, Nat.min_eq_left (by omega)]
 have hs := marL_set ls ⟨x, (ls.getD k zMar).f1, (ls.getD k zMar).f2, (ls.getD k zMar).f3, (ls.getD k zMar).f4, (ls.getD k zMar).f5⟩ hk
 rw [marL_split ls hk, ← h1] at hs ⊢
 rw [setSeg_app (marL (ls.take k)) (marV ⟨x, (ls.getD k zMar).f1, (ls.getD k zMar).f2, (ls.getD k zMar).f3, (ls.getD k zMar).f4, (ls.getD k zMar).f5⟩) (marV (ls.getD k zMar)) (marL (ls.drop (k + 1))) rfl] at hs
 rw [← Option.some.inj hs, List.set_append_right _ _ (Nat.le_refl _), Nat.sub_self]
 rfl
/-! ### the marks turned -/
def newM (ms : List MarT) (k : Nat) : MarT := ⟨3 * k + 1, (ms.getD (ms.length - 1 - k) zMar).f1, (ms.getD (ms.length - 1 - k) zMar).f2, (ms.getD (ms.length - 1 - k) zMar).f3, (ms.getD (ms.length - 1 - k) zMar).f4, (ms.getD (ms.length - 1 - k) zMar).f5⟩
def turnL (ms : List MarT) (k : Nat) : List MarT := (List.range k).map (newM ms) ++ ms.drop k
theorem turnL_len (ms : List MarT) {k : Nat} (hk : k ≤ ms.length) : (turnL ms k).length = ms.length := by
 rw [turnL, List.length_append, List.length_map, List.length_range, List.length_drop]; omega
theorem turnL_step (ms : List MarT) {k : Nat} (hk : k < ms.length) : turnL ms (k + 1) = (turnL ms k).set k (newM ms k) := by
 have hl : ((List.range k).map (newM ms)).length = k := by simp
 rw [turnL, turnL, List.set_append_right _ _ (by omega), hl, Nat.sub_self, drop_at ms zMar k hk, List.range_succ, List.map_append]
 simp
theorem turn_two (ms : List MarT) {k : Nat} (hk : k < ms.length) : ((turnL ms k).set k (ms.getD (ms.length - 1 - k) zMar)).set k ⟨3 * k + 1, (((turnL ms k).set k (ms.getD (ms.length - 1 - k) zMar)).getD k zMar).f1, (((turnL ms k).set k (ms.getD (ms.length - 1 - k) zMar)).getD k zMar).f2, (((turnL ms k).set k (ms.getD (ms.length - 1 - k) zMar)).getD k zMar).f3, (((turnL ms k).set k (ms.getD (ms.length - 1 - k) zMar)).getD k zMar).f4, (((turnL ms k).set k (ms.getD (ms.length - 1 - k) zMar)).getD k zMar).f5⟩ = turnL ms (k + 1) := by
 have hl := turnL_len ms (k := k) (by omega)
 have hg : ((turnL ms k).set k (ms.getD (ms.length - 1 - k) zMar)).getD k zMar = ms.getD (ms.length - 1 - k) zMar := by
   simp [List.getD_eq_getElem?_getD, hl, hk]
 rw [hg, List.set_set, turnL_step ms hk]
 rfl
theorem turnL_all (ms : List MarT) : turnL ms ms.length = (List.range ms.length).map (newM ms) := by rw [turnL, List.drop_length, List.append_nil]
theorem newM_says (ms : List MarT) (E : Int) (r : Nat → Int) (k : Nat) : saysF E r (newM ms k) = saysF E r (ms.getD (ms.length - 1 - k) zMar) := rfl
theorem turn_says (ms : List MarT) (E : Int) (r : Nat → Int) : (((List.range ms.length).map (newM ms)).map (saysF E r)).Perm (ms.map (saysF E r)) := by
 have h : ((List.range ms.length).map (newM ms)).map (saysF E r) = (ms.map (saysF E r)).reverse := by
   refine List.ext_getElem (by simp) fun i h1 h2 => ?_
   have hi : i < ms.length := by simpa using h1
   rw [List.getElem_map, List.getElem_map, List.getElem_range, newM_says, List.getElem_reverse, List.getElem_map]
   simp only [List.length_map]
   rw [show ms.getD (ms.length - 1 - i) zMar = ms[ms.length - 1 - i] by simp [List.getD_eq_getElem?_getD, List.getElem?_eq_getElem (show ms.length - 1 - i < ms.length by omega)]]
 rw [h]
 exact List.reverse_perm _
def goodM (R : Int) (m : MarT) : Bool := inF 0 (R - 1) m.f2 && inF 1 6 m.f1 && kindF R m
theorem marks_good {R : Int} : ∀ {last : Int} {ms : List MarT}, marksF R last ms = true → ∀ m ∈ ms, goodM R m = true
 | _, [], _, _, h => by cases h
 | last, x :: ms, h, m, hm => by
   rw [marksF, Bool.and_eq_true] at h
   rcases List.mem_cons.1 hm with rfl | hm
   · have h1 := h.1
     simp only [Bool.and_eq_true] at h1
     simp only [goodM, Bool.and_eq_true]
     exact ⟨⟨h1.1.1.2, h1.1.2⟩, h1.2⟩
   · exact marks_good h.2 m hm
theorem marks_of {R : Int} : ∀ {last : Int} {ms : List MarT}, ms.Pairwise (fun x y => x.f0 < y.f0) → (∀ m ∈ ms, last < m.f0 ∧ m.f0 ≤ 9999) → (∀ m ∈ ms, goodM R m = true) → marksF R last ms = true
 | _, [], _, _, _ => rfl
 | last, x :: ms, hp, hi, ho => by
   have h1 := hi x List.mem_cons_self
   have h2 := ho x List.mem_cons_self
   simp only [goodM, Bool.and_eq_true] at h2
   have hp := List.pairwise_cons.1 hp
   rw [marksF, Bool.and_eq_true]
   refine ⟨?_, marks_of hp.2 (fun m hm => ⟨hp.1 m hm, (hi m (List.mem_cons_of_mem _ hm)).2⟩) fun m hm => ho m (List.mem_cons_of_mem _ hm)⟩
   simp only [Bool.and_eq_true]
   exact ⟨⟨⟨inF_iff.2 ⟨by omega, h1.2⟩, h2.1.1⟩, h2.1.2⟩, h2.2⟩
theorem turn_scene {R E : Int} {gs : List GatT} {ms : List MarT} (h : sceneF R E gs ms = true) : sceneF R E gs ((List.range ms.length).map (newM ms)) = true := by
 obtain ⟨_, _, _, h8, hm⟩ := sceneF_ok h
 have hok := marks_good hm
 unfold sceneF at h ⊢
 simp only [Bool.and_eq_true, List.length_map, List.length_range] at h ⊢
 refine ⟨h.1, marks_of ?_ (fun m hm => ?_) fun m hm => ?_⟩
 · exact List.pairwise_map.2 (List.pairwise_lt_range.imp fun h => by simp only [newM]; omega)
 · obtain ⟨k, hk, rfl⟩ := List.mem_map.1 hm
   have := List.mem_range.1 hk
   simp only [newM]
   omega
 · obtain ⟨k, hk, rfl⟩ := List.mem_map.1 hm
   have := List.mem_range.1 hk
   have h9 := hok (ms.getD (ms.length - 1 - k) zMar) (getD_mem ms zMar (ms.length - 1 - k) (by omega))
   exact h9
def anyS (L : List SpaT) (x : SpaT) (j : Nat) : Bool := (L.take j).any fun y => decide (y.f0 ≤ x.f0) && decide (x.f1 ≤ y.f1)
theorem anyS_succ (L : List SpaT) (x : SpaT) {j : Nat} (h : j < L.length) : anyS L x (j + 1) = (anyS L x j || (decide ((L.getD j zSpa).f0 ≤ x.f0) && decide (x.f1 ≤ (L.getD j zSpa).f1))) := by
 unfold anyS
 rw [take_get zSpa h, List.any_append]
 simp
theorem anyS_all (L : List SpaT) (x : SpaT) (h : ∃ y ∈ L, y.f0 ≤ x.f0 ∧ x.f1 ≤ y.f1) : anyS L x L.length = true := by
 obtain ⟨y, hy, h1, h2⟩ := h
 rw [anyS, List.take_length]
 exact List.any_eq_true.2 ⟨y, hy, by simp [h1, h2]⟩
theorem sure_scene {R E : Int} {gs : List GatT} {ms : List MarT} {m : MarT} {room : Int} (hb : sceneF R E gs (ms ++ [m]) = true) (hr : roomOK R room = true) (hE : 0 ≤ E ∧ E ≤ 600) : sceneF R E gs (ms ++ [⟨m.f0, 3, room, 0, ⟨E, E⟩, 0⟩]) = true := by
 obtain ⟨_, _, _, h8, hm⟩ := sceneF_ok hb
 have hp := (marks_rise hm).1
 have hi := f0_in hm
 have hg := marks_good hm
 unfold sceneF at hb ⊢
 simp only [Bool.and_eq_true, List.length_append, List.length_cons, List.length_nil] at hb ⊢
 refine ⟨hb.1, marks_of ?_ (fun x hx => ?_) fun x hx => ?_⟩
 · rw [List.pairwise_append] at hp ⊢
   exact ⟨hp.1, List.pairwise_singleton _ _, fun x hx y hy => by rw [List.mem_singleton.1 hy]; exact hp.2.2 x hx m List.mem_cons_self⟩
 · rcases List.mem_append.1 hx with hx | hx
   · exact hi x (List.mem_append_left _ hx)
   · rw [List.mem_singleton.1 hx]
     exact hi m (List.mem_append_right _ List.mem_cons_self)
 · rcases List.mem_append.1 hx with hx | hx
   · exact hg x (List.mem_append_left _ hx)
   · rw [List.mem_singleton.1 hx]
     simp only [goodM, Bool.and_eq_true]
     exact ⟨⟨hr, by decide⟩, by simp [kindF, timedF, inF]; omega⟩
theorem spans_len (l : List Int) : (spansOf l).length ≤ l.length := by
 have key : ∀ (l : List Int) (acc : List SpaT), (l.foldl grpS acc).length ≤ acc.length + l.length := by
   intro l
   induction l with
   | nil => intro acc; simp
   | cons x l ih =>
     intro acc
     have h1 := ih (grpS acc x)
     have h2 : (grpS acc x).length ≤ acc.length + 1 := by
       unfold grpS
       split
       · rw [List.length_set]; omega
       · rw [List.length_append]; simp
     simp only [List.foldl_cons, List.length_cons]
     omega
 simpa [spansOf] using key l []
theorem minutes_len {R E : Int} {gs : List GatT} {ms : List MarT} {room : Int} (hE : 0 ≤ E ∧ E ≤ 600) : (minutesL R E gs ms room).length ≤ 601 := by
 rw [minutesL]
 split
 · have h1 := spans_len (intsN (toldL E (beganL E R.toNat gs room.toNat ms)))
   have h2 := toldL_len E (beganL E R.toNat gs room.toNat ms)
   have h3 : (intsN (toldL E (beganL E R.toNat gs room.toNat ms))).length = (toldL E (beganL E R.toNat gs room.toNat ms)).length := by simp [intsN]
   omega
 · simp
set_option maxHeartbeats 16000000 in
theorem originMore_law (R E : Int) (A B : Option Addr) (c c2 : Nat) (gs : List GatT) (ms : List MarT) (more : MarT) (which : Int) (w : World) (hA : Kd.C gatK w A gs.length gs) (hB : Kd.C marK w B ms.length ms) (hk : BytesK ms) (hkm : 0 ≤ more.f1 ∧ more.f1 ≤ 255) (hwh : 0 ≤ which ∧ which ≤ 255) (hglob : GlobO w) :
   Calls Tryz.prog 9 #[.agg (scnV R A gs.length c E B ms.length c2).toArray, .agg (marV more).toArray, .int .u8 which] w fun e w' => e = .returned (.bool true) ∧ Below w.heap.size w w' := by
 have hgr4 := gat_row hA
 have hmr7 := mar_row hB
 have hs : SceneAt w A B gs ms := ⟨hA, hB, hk, hglob⟩
 refine x_calls (X := XNone) Tryz.func9 rfl rfl rfl ?_
 with_reducible ((repeat refine xc_seq ?_); refine xcR ?_)
 refine xo_box rfl rfl rfl rfl (fun b3 => ?_)
 refine xo_box rfl rfl rfl rfl (fun b4 => ?_)
 refine xo_asg rfl rfl rfl ?_
 with_reducible (refine xo_nil ?_; (repeat (first | refine xqT ?_ | refine xqB ?_ | refine xqS ?_)); (repeat refine xc_seq ?_); refine xcR ?_)
 refine xo_callB (fs := []) (cs := []) rfl rfl rfl alive_enters rfl (fun w1 hw1 => alive_calls w1 (hglob.below hw1.kx.below)) ?_
 refine xo_asg rfl rfl rfl ?_
 with_reducible (refine xo_nil ?_; (repeat (first | refine xqT ?_ | refine xqB ?_ | refine xqS ?_)); (repeat refine xc_seq ?_); refine xcR ?_)
 refine xo_mv rfl rfl rfl ?_
 refine xo_notOp rfl rfl rfl ?_
 with_reducible (refine xo_nil ?_; (repeat (first | refine xqT ?_ | refine xqB ?_ | refine xqS ?_)); (repeat refine xc_seq ?_))
 refine xc_condF rfl ?_
 with_reducible (refine xc_skip ?_; (repeat (first | refine xqT ?_ | refine xqB ?_ | refine xqS ?_)))
 cases hsc : sceneF R E gs ms
 · with_reducible repeat refine xc_seq ?_
   with_reducible refine xcR ?_
   refine xo_loadN T_ rfl rfl rfl (by repeat first | exact memH | apply memT | apply memA) rfl rfl ?_
   refine xo_callB (fs := []) (cs := []) rfl rfl rfl ready_enters rfl (fun w1 hw1 => ready_calls R E A B c c2 gs ms w1 (hgr4.below hw1.kx.below) (hmr7.below hw1.kx.below)) ?_
   refine xo_as (i := 36) rfl (congrArg Value.bool hsc) ?_
   refine xo_notOp rfl rfl rfl ?_
   with_reducible (refine xo_nil ?_; (repeat (first | refine xqT ?_ | refine xqB ?_ | refine xqS ?_)); (repeat refine xc_seq ?_))
   refine xc_condT rfl ?_
   with_reducible ((repeat refine xc_seq ?_); refine xcR ?_)
   refine xo_mv rfl rfl rfl ?_
   refine xo_asg rfl rfl rfl ?_
   with_reducible (refine xo_nil ?_; (repeat (first | refine xqT ?_ | refine xqB ?_ | refine xqS ?_)); (repeat refine xc_seq ?_); refine xc_ret ?_; (repeat (first | refine xq_thenR ?_ | refine xq_blockR ?_ | refine xq_scopeR ?_)))
   exact xq_ret1 rfl rfl fun w' hw => ⟨rfl, hw.kx.below⟩
 obtain ⟨hR6, hE6, hG, hm8, hmk⟩ := sceneF_ok hsc
 have hg6 := hG.len
 with_reducible ((repeat refine xc_seq ?_); refine xcR ?_)
 refine xo_loadN T_ rfl rfl rfl (by repeat first | exact memH | apply memT | apply memA) rfl rfl ?_
 refine xo_callB (fs := []) (cs := []) rfl rfl rfl ready_enters rfl (fun w1 hw1 => ready_calls R E A B c c2 gs ms w1 (hgr4.below hw1.kx.below) (hmr7.below hw1.kx.below)) ?_
 refine xo_as (i := 36) rfl (congrArg Value.bool hsc) ?_
 refine xo_notOp rfl rfl rfl ?_
 with_reducible (refine xo_nil ?_; (repeat (first | refine xqT ?_ | refine xqB ?_ | refine xqS ?_)); (repeat refine xc_seq ?_))
 refine xc_condF rfl ?_
 with_reducible (refine xc_skip ?_; (repeat (first | refine xqT ?_ | refine xqB ?_ | refine xqS ?_)))
 have hrm : 0 ≤ which % R ∧ which % R < R := ⟨Int.emod_nonneg _ (by omega), Int.emod_lt_of_pos _ (by omega)⟩
 have hrOK : roomOK R (which % R) = true := inF_iff.2 ⟨hrm.1, by omega⟩
 with_reducible ((repeat refine xc_seq ?_); refine xcR ?_)
 refine xo_mv rfl rfl rfl ?_
 refine xo_conv T_ rfl rfl rfl rfl (IntWalk.i64_in _ ⟨by omega, by omega⟩) rfl ?_
 refine xo_fa T_ rfl rfl rfl rfl rfl ?_
 refine xo_load0 T_ rfl rfl rfl (by repeat first | exact memH | apply memT | apply memA) rfl rfl ?_
 refine xo_rem rfl rfl rfl (by omega) (by omega) rfl ?_
 refine xo_asg rfl rfl rfl ?_
 with_reducible (refine xo_nil ?_; (repeat (first | refine xqT ?_ | refine xqB ?_ | refine xqS ?_)))
 generalize which % R = room at hrm hrOK
 have hmc : minutesC R E gs ms room = 0 := by simp [minutesC, hsc, hrOK]
 with_reducible ((repeat refine xc_seq ?_); refine xcR ?_)
 refine xo_loadN T_ rfl rfl rfl (by repeat first | exact memH | apply memT | apply memA) rfl rfl ?_
 refine xo_mv rfl rfl rfl ?_
 refine xo_call (fs := []) (cs := []) rfl rfl rfl Minutes_enters rfl (fun w1 hw1 => (Minutes_calls R E A B c c2 gs ms room w1 (hs.below hw1.kx.below)).mono ?_)
 rw [hmc]
 rintro e w2 ⟨r9, rfl, hrw, hb⟩
 have hh9 := hrw.1
 refine ⟨_, _, rfl, hw1.rowZ hb hrw, ?_⟩
 clear hrw hb hw1
 refine xo_mv rfl rfl rfl ?_
 refine xo_ext rfl rfl rfl rfl ?_
 refine xo_ext rfl rfl rfl rfl ?_
 refine xo_asg rfl rfl rfl ?_
 refine xo_asg rfl rfl rfl ?_
 with_reducible (refine xo_nil ?_; (repeat (first | refine xqT ?_ | refine xqB ?_ | refine xqS ?_)); (repeat refine xc_seq ?_); refine xcR ?_)
 refine xo_loadN T_ rfl rfl rfl (by repeat first | exact memH | apply memT | apply memA) rfl rfl ?_
 refine xo_call (fs := []) (cs := []) rfl rfl rfl twin_enters rfl (fun w1 hw1 => (twin_calls R E A B c c2 gs ms w1 (hgr4.below hw1.kx.below) (hmr7.below hw1.kx.below) (C_none hA) (C_none hB) (by omega) (by omega)).mono ?_)
 rintro e w2 ⟨dg, lg, dm, lm, rfl, hz⟩
 refine ⟨_, _, rfl, hw1.join hz (fun e he => by simp only [List.mem_cons, List.not_mem_nil, or_false] at he; rcases he with rfl | rfl <;> rfl), ?_⟩
 clear hz hw1
 refine xo_alloc T_ rfl rfl rfl rfl (fun b11 => ?_)
 refine xo_store T_ rfl rfl rfl rfl (by repeat first | exact memH | apply memT | apply memA) rfl rfl rfl rfl (by repeat (first | exact Upd.head | apply Upd.tail | apply Upd.app)) rfl ?_
 with_reducible (refine xo_nil ?_; (repeat (first | refine xqT ?_ | refine xqB ?_ | refine xqS ?_)))
 refine xc_slots [(3, .pointer (some ⟨b3, 0, none⟩)), (4, .pointer (some ⟨b4, 0, none⟩)), (7, .bool true), (8, .int .i64 room), (9, .slice (valA r9) (minutesL R E gs ms room).length (valC r9)), (10, .int .i64 0), (11, .pointer (some ⟨b11, 0, none⟩))] ⟨rfl, rfl, rfl, rfl, congrArg some (valR_eq hh9), rfl, rfl, trivial⟩ ?_
 refine xc_sub (η' := (b11, true, cel (scnV R (some ⟨dg, 0, none⟩) gs.length lg E (some ⟨dm, 0, none⟩) ms.length lm) 25) :: (dm, true, orow 56 7 ms.length lm (marL ms)) :: (dg, true, orow 52 4 gs.length lg (gatL gs)) :: (hpR 45 2 r9 (minutesL R E gs ms room).length (spaL (minutesL R E gs ms room)) ++ [(b4, true, cel (marV more) 56), (b3, true, cel (scnV R A gs.length c E B ms.length c2) 25)])) (List.Sublist.refl _) ?_
 have ht0 : turnL ms 0 = ms := by simp [turnL]
 with_reducible ((repeat refine xc_seq ?_); refine xcR ?_)
 refine xo_fa T_ rfl rfl rfl rfl rfl ?_
 refine xo_load0 T_ rfl rfl rfl (by repeat first | exact memH | apply memT | apply memA) rfl rfl ?_
 refine xo_len T_ rfl rfl rfl rfl ?_
 refine xo_mv rfl rfl rfl ?_
 with_reducible (refine xo_nil ?_; (repeat (first | refine xqT ?_ | refine xqB ?_ | refine xqS ?_)); (repeat refine xc_seq ?_); refine xc_block ?_)
 · refine xc_loop (γ := Nat) (fun k => k ≤ ms.length) (fun k => [(3, .pointer (some ⟨b3, 0, none⟩)), (4, .pointer (some ⟨b4, 0, none⟩)), (7, .bool true), (8, .int .i64 room), (9, .slice (valA r9) (minutesL R E gs ms room).length (valC r9)), (10, .int .i64 0), (11, .pointer (some ⟨b11, 0, none⟩)), (54, .int .i64 (ms.length : Int)), (55, .int .i64 (k : Int))])
     (fun k => (b11, true, cel (scnV R (some ⟨dg, 0, none⟩) gs.length lg E (some ⟨dm, 0, none⟩) ms.length lm) 25) :: (dm, true, orow 56 7 ms.length lm (marL (turnL ms k))) :: (dg, true, orow 52 4 gs.length lg (gatL gs)) :: (hpR 45 2 r9 (minutesL R E gs ms room).length (spaL (minutesL R E gs ms room)) ++ [(b4, true, cel (marV more) 56), (b3, true, cel (scnV R A gs.length c E B ms.length c2) 25)])) (fun k => ms.length - k) 0 (Nat.zero_le _) ⟨rfl, rfl, rfl, rfl, rfl, rfl, rfl, rfl, rfl, trivial⟩ (by rw [ht0]; exact List.Sublist.refl _) ?_
   intro k hkl
   with_reducible ((repeat refine xc_seq ?_); refine xcR ?_)
   refine xo_lss rfl rfl rfl rfl ?_
   with_reducible (refine xo_nil ?_; (repeat (first | refine xqT ?_ | refine xqB ?_ | refine xqS ?_)); (repeat refine xc_seq ?_))
   refine xc_cond rfl (fun h => ?_) (fun h => ?_)
   · have hlt : k < ms.length := by have := of_decide_eq_true h; omega
     have htl := turnL_len ms (k := k) (by omega)
     obtain ⟨ad, rfl, hRm⟩ := hmr7 (ms.length - 1 - k) (by omega)
     rw [show (((ms.length - 1 - k : Nat) : Int)).toNat = ((ms.length : Int) - 1 - (k : Int)).toNat by omega] at hRm
     with_reducible (refine xc_skip ?_; (repeat (first | refine xqT ?_ | refine xqB ?_ | refine xqS ?_)); (repeat refine xc_seq ?_); refine xc_block ?_; (repeat refine xc_seq ?_); refine xcR ?_)
     refine xo_mv rfl rfl rfl ?_
     refine xo_asg rfl rfl rfl ?_
     with_reducible (refine xo_nil ?_; (repeat (first | refine xqT ?_ | refine xqB ?_ | refine xqS ?_)))
     refine xc_slots [(3, .pointer (some ⟨b3, 0, none⟩)), (4, .pointer (some ⟨b4, 0, none⟩)), (7, .bool true), (8, .int .i64 room), (9, .slice (valA r9) (minutesL R E gs ms room).length (valC r9)), (10, .int .i64 0), (11, .pointer (some ⟨b11, 0, none⟩)), (12, .int .i64 (k : Int)), (54, .int .i64 (ms.length : Int)), (55, .int .i64 (k : Int))] ⟨rfl, rfl, rfl, rfl, rfl, rfl, rfl, rfl, rfl, rfl, trivial⟩ ?_
     with_reducible (repeat refine xc_seq ?_)
     apply xc_drawE (fun g => []) (fun (η0 : Hp) g => match g with | [] => (η0) | a0 :: _ => ((b11, true, cel (scnV R (some ⟨dg, 0, none⟩) gs.length lg E (some ⟨dm, 0, none⟩) ms.length lm) 25) :: (dm, true, orow 56 7 ms.length lm (marL ((turnL ms k).set k (ms.getD (ms.length - 1 - k) zMar)))) :: (dg, true, orow 52 4 gs.length lg (gatL gs)) :: (hpR 45 2 r9 (minutesL R E gs ms room).length (spaL (minutesL R E gs ms room)) ++ [(b4, true, cel (marV more) 56), (b3, true, cel (scnV R A gs.length c E (some ad) ms.length c2) 25)]))) (fun _ => True) [0, 0, 0, 0, 0, 0, 0, 0, 0, 0, 0, 0, 0, 0, 1] [14] [[13, 12, 0, 1, 2, 3, 4, 5, 6, 7, 8, 9, 10, 11, 12]] (by trivial)
     apply SameLen.cons
     apply SameLen.cons
     apply SameLen.cons
     apply SameLen.cons
     apply SameLen.cons
     apply SameLen.cons
     apply SameLen.cons
     apply SameLen.cons
     apply SameLen.cons
     apply SameLen.cons
     apply SameLen.cons
     apply SameLen.cons
     apply SameLen.cons
     apply SameLen.cons
     apply SameLen.cons
     exact SameLen.nil
     rotate_left 15
     case hH0 => rfl
     case hmix => exact T_.mixed
     case hbind => rfl
     case hdeps => rfl
     case hdist => rfl
     case hfresh => rfl
     case hE => rfl
     case hEn => decide
     · refine DrawE.pure 0 0 rfl (.inr (by decide)) (fun L g hg hd => Nat.zero_le _) (fun g hlo hhi hF τ => ?_) ?_
       · rcases g with _ | ⟨a0, _ | ⟨a1, g⟩⟩ <;> first | (simp only [lenC, lenN] at hlo hhi; omega) | (refine ⟨_, rfl, ?_⟩; refine xo_fa T_ rfl rfl rfl rfl rfl ?_; exact xo_fin rfl)
       refine DrawE.pure 0 0 rfl (.inr (by decide)) (fun L g hg hd => Nat.zero_le _) (fun g hlo hhi hF τ => ?_) ?_
       · rcases g with _ | ⟨a0, _ | ⟨a1, g⟩⟩ <;> first | (simp only [lenC, lenN] at hlo hhi; omega) | (refine ⟨_, rfl, ?_⟩; refine xo_load0 T_ rfl rfl rfl (by repeat first | exact memH | apply memT | apply memA) rfl rfl ?_; exact xo_fin rfl)
       refine DrawE.pure 0 0 rfl (.inr (by decide)) (fun L g hg hd => Nat.zero_le _) (fun g hlo hhi hF τ => ?_) ?_
       · rcases g with _ | ⟨a0, _ | ⟨a1, g⟩⟩ <;> first | (simp only [lenC, lenN] at hlo hhi; omega) | (refine ⟨_, rfl, ?_⟩; refine xo_mv rfl rfl rfl ?_; exact xo_fin rfl)
       refine DrawE.pure 0 0 rfl (.inr (by decide)) (fun L g hg hd => Nat.zero_le _) (fun g hlo hhi hF τ => ?_) ?_
       · rcases g with _ | ⟨a0, _ | ⟨a1, g⟩⟩ <;> first | (simp only [lenC, lenN] at hlo hhi; omega) | (refine ⟨_, rfl, ?_⟩; refine xo_fa T_ rfl rfl rfl rfl rfl ?_; exact xo_fin rfl)
       refine DrawE.pure 0 0 rfl (.inr (by decide)) (fun L g hg hd => Nat.zero_le _) (fun g hlo hhi hF τ => ?_) ?_
       · rcases g with _ | ⟨a0, _ | ⟨a1, g⟩⟩ <;> first | (simp only [lenC, lenN] at hlo hhi; omega) | (refine ⟨_, rfl, ?_⟩; refine xo_load0 T_ rfl rfl rfl (by repeat first | exact memH | apply memT | apply memA) rfl rfl ?_; exact xo_fin rfl)
       refine DrawE.pure 0 0 rfl (.inr (by decide)) (fun L g hg hd => Nat.zero_le _) (fun g hlo hhi hF τ => ?_) ?_
       · rcases g with _ | ⟨a0, _ | ⟨a1, g⟩⟩ <;> first | (simp only [lenC, lenN] at hlo hhi; omega) | (refine ⟨_, rfl, ?_⟩; refine xo_fa T_ rfl rfl rfl rfl rfl ?_; exact xo_fin rfl)
       refine DrawE.pure 0 0 rfl (.inr (by decide)) (fun L g hg hd => Nat.zero_le _) (fun g hlo hhi hF τ => ?_) ?_
       · rcases g with _ | ⟨a0, _ | ⟨a1, g⟩⟩ <;> first | (simp only [lenC, lenN] at hlo hhi; omega) | (refine ⟨_, rfl, ?_⟩; refine xo_load0 T_ rfl rfl rfl (by repeat first | exact memH | apply memT | apply memA) rfl rfl ?_; exact xo_fin rfl)
       refine DrawE.pure 0 0 rfl (.inr (by decide)) (fun L g hg hd => Nat.zero_le _) (fun g hlo hhi hF τ => ?_) ?_
       · rcases g with _ | ⟨a0, _ | ⟨a1, g⟩⟩ <;> first | (simp only [lenC, lenN] at hlo hhi; omega) | (refine ⟨_, rfl, ?_⟩; refine xo_len T_ rfl rfl rfl rfl ?_; exact xo_fin rfl)
       refine DrawE.pure 0 0 rfl (.inr (by decide)) (fun L g hg hd => Nat.zero_le _) (fun g hlo hhi hF τ => ?_) ?_
       · rcases g with _ | ⟨a0, _ | ⟨a1, g⟩⟩ <;> first | (simp only [lenC, lenN] at hlo hhi; omega) | (refine ⟨_, rfl, ?_⟩; refine xo_sub rfl rfl rfl (by omega) rfl ?_; exact xo_fin rfl)
       refine DrawE.pure 0 0 rfl (.inr (by decide)) (fun L g hg hd => Nat.zero_le _) (fun g hlo hhi hF τ => ?_) ?_
       · rcases g with _ | ⟨a0, _ | ⟨a1, g⟩⟩ <;> first | (simp only [lenC, lenN] at hlo hhi; omega) | (refine ⟨_, rfl, ?_⟩; refine xo_mv rfl rfl rfl ?_; exact xo_fin rfl)
       refine DrawE.pure 0 0 rfl (.inr (by decide)) (fun L g hg hd => Nat.zero_le _) (fun g hlo hhi hF τ => ?_) ?_
       · rcases g with _ | ⟨a0, _ | ⟨a1, g⟩⟩ <;> first | (simp only [lenC, lenN] at hlo hhi; omega) | (refine ⟨_, rfl, ?_⟩; refine xo_sub rfl rfl rfl (by omega) rfl ?_; exact xo_fin rfl)
       refine DrawE.pure 0 0 rfl (.inr (by decide)) (fun L g hg hd => Nat.zero_le _) (fun g hlo hhi hF τ => ?_) ?_
       · rcases g with _ | ⟨a0, _ | ⟨a1, g⟩⟩ <;> first | (simp only [lenC, lenN] at hlo hhi; omega) | (refine ⟨_, rfl, ?_⟩; refine xo_ia T_ rfl rfl rfl rfl rfl ⟨by omega, by omega⟩ rfl ?_; exact xo_fin rfl)
       refine DrawE.pure 0 0 rfl (.inr (by decide)) (fun L g hg hd => Nat.zero_le _) (fun g hlo hhi hF τ => ?_) ?_
       · rcases g with _ | ⟨a0, _ | ⟨a1, g⟩⟩ <;> first | (simp only [lenC, lenN] at hlo hhi; omega) | (refine ⟨_, rfl, ?_⟩; refine xo_loadRN T_ rfl rfl rfl hRm rfl rfl ?_; exact xo_fin rfl)
       refine DrawE.pure 0 0 rfl (.inr (by decide)) (fun L g hg hd => Nat.zero_le _) (fun g hlo hhi hF τ => ?_) ?_
       · rcases g with _ | ⟨a0, _ | ⟨a1, g⟩⟩ <;> first | (simp only [lenC, lenN] at hlo hhi; omega) | (refine ⟨_, rfl, ?_⟩; refine xo_ia T_ rfl rfl rfl rfl rfl ⟨by omega, by omega⟩ rfl ?_; exact xo_fin rfl)
       refine DrawE.eff 0 rfl (by decide) rfl (fun j hj => hj) (fun j g a hj => ?_) (fun L g hg hd => Nat.zero_le _) (fun g hgl hF τ => ?_) ?_
       · rcases j with _ | _ | _ | _ | _ | _ | _ | _ | _ | _ | _ | _ | _ | _ | _ | j
         all_goals first | rfl | (rcases g with _ | ⟨a0, _ | ⟨a1, g⟩⟩ <;> first | rfl | exact absurd hj (by decide) | exact absurd hj (by simp [List.getD]))
       · obtain rfl : g = [] := by
           rcases g with _ | ⟨a0, g⟩ <;> first | rfl | (exfalso; simp only [List.length_cons, List.length_nil] at hgl; omega)
         refine xo_storeZN T_ (b := dm) (k := k * 7) (vs := marV (ms.getD (ms.length - 1 - k) zMar)) rfl rfl rfl ?_ rfl (by repeat first | exact memH | apply memT | apply memA) rfl rfl rfl (by have : (marV (ms.getD (ms.length - 1 - k) zMar)).length = 7 := rfl; rw [this]; omega) (marL_set _ _ (by omega)) (by repeat (first | exact Upd.head | apply Upd.tail | apply Upd.app)) rfl ?_
         · rw [Addr.add_lit]; congr 1; rw [show szN 7 = 7 from rfl]; omega
         exact xo_finE ⟨0, 0, none⟩ rfl trivial
       exact DrawE.nil
     intro g hgl hF
     obtain ⟨a0, rfl⟩ : ∃ a0, g = [a0] := by
       rcases g with _ | ⟨a0, _ | ⟨a1, g⟩⟩ <;> first | exact ⟨_, rfl⟩ | (exfalso; simp only [List.length_cons, List.length_nil] at hgl; omega)
     with_reducible (repeat (first | refine xqT ?_ | refine xqB ?_ | refine xqS ?_))
     refine xc_slots [(3, .pointer (some ⟨b3, 0, none⟩)), (4, .pointer (some ⟨b4, 0, none⟩)), (7, .bool true), (8, .int .i64 room), (9, .slice (valA r9) (minutesL R E gs ms room).length (valC r9)), (10, .int .i64 0), (11, .pointer (some ⟨b11, 0, none⟩)), (12, .int .i64 (k : Int)), (54, .int .i64 (ms.length : Int)), (55, .int .i64 (k : Int))] ⟨rfl, rfl, rfl, rfl, rfl, rfl, rfl, rfl, rfl, rfl, trivial⟩ ?_
     refine xc_sub (η' := (b11, true, cel (scnV R (some ⟨dg, 0, none⟩) gs.length lg E (some ⟨dm, 0, none⟩) ms.length lm) 25) :: (dm, true, orow 56 7 ms.length lm (marL ((turnL ms k).set k (ms.getD (ms.length - 1 - k) zMar)))) :: (dg, true, orow 52 4 gs.length lg (gatL gs)) :: (hpR 45 2 r9 (minutesL R E gs ms room).length (spaL (minutesL R E gs ms room)) ++ [(b4, true, cel (marV more) 56), (b3, true, cel (scnV R A gs.length c E (some ad) ms.length c2) 25)])) (List.Sublist.refl _) ?_
     with_reducible ((repeat refine xc_seq ?_); refine xcR ?_)
     refine xo_fa T_ rfl rfl rfl rfl rfl ?_
     refine xo_load0 T_ rfl rfl rfl (by repeat first | exact memH | apply memT | apply memA) rfl rfl ?_
     refine xo_mv rfl rfl rfl ?_
     refine xo_mv rfl rfl rfl ?_
     refine xo_mul rfl rfl rfl (by omega) rfl ?_
     refine xo_add rfl rfl rfl (by omega) rfl ?_
     refine xo_ia T_ rfl rfl rfl rfl rfl ⟨by omega, by omega⟩ rfl ?_
     refine xo_faR T_ rfl rfl rfl rfl rfl ?_
     refine xo_storeZ T_ (b := dm) (k := k * 7) rfl rfl rfl ?_ rfl (by repeat first | exact memH | apply memT | apply memA) rfl rfl (by omega) (by repeat (first | exact Upd.head | apply Upd.tail | apply Upd.app)) rfl ?_
     · rw [add_two, Addr.add_lit]; congr 1; rw [show szN 7 = 7 from rfl]; omega
     with_reducible (refine xo_nil ?_; (repeat (first | refine xqT ?_ | refine xqB ?_ | refine xqS ?_)); (repeat refine xc_seq ?_); refine xcR ?_)
     refine xo_add rfl rfl rfl (by omega) rfl ?_
     refine xo_mv rfl rfl rfl ?_
     with_reducible (refine xo_nil ?_; (repeat (first | refine xqT ?_ | refine xqB ?_ | refine xqS ?_)))
     exact xq_again _ _ _ _ _ (k + 1) hlt (by omega) ⟨rfl, rfl, rfl, rfl, rfl, rfl, rfl, rfl, rfl, trivial⟩ (by rw [← turn_two ms hlt, ← marL_id _ _ (by rw [List.length_set]; omega)]; exact List.Sublist.refl _)
   · have hge : k = ms.length := by have := of_decide_eq_false h; omega
     subst hge
     with_reducible (refine xc_exit ?_; (repeat (first | refine xq_blockX ?_ | refine xq_thenE ?_ | refine xq_blockE rfl ?_ | refine xq_scopeE ?_)); (repeat (first | refine xqT ?_ | refine xqB ?_ | refine xqS ?_)))
     rw [turnL_all]
     have hTl : ((List.range ms.length).map (newM ms)).length = ms.length := by simp
     have hTs := turn_scene hsc
     have hsame := same_says hsc hTs (fun r => turn_says ms E r)
     have hTk : BytesK ((List.range ms.length).map (newM ms)) := fun m hm => by
       obtain ⟨j, hj, rfl⟩ := List.mem_map.1 hm
       have := List.mem_range.1 hj
       exact hk (ms.getD (ms.length - 1 - j) zMar) (getD_mem ms zMar (ms.length - 1 - j) (by omega))
     generalize (List.range ms.length).map (newM ms) = T at hTl hTs hsame hTk ⊢
     have hown : ∀ {η : Hp} {w1 : World}, WOK w XNone η w1 → (dg, true, orow 52 4 gs.length lg (gatL gs)) ∈ η → (dm, true, orow 56 7 ms.length lm (marL T)) ∈ η → SceneAt w1 (some ⟨dg, 0, none⟩) (some ⟨dm, 0, none⟩) gs T := fun {η w1} hw1 m1 m2 => own_scene hw1 (by omega) (by omega) hTk (hglob.below hw1.kx.below) m1 (by rw [hTl]; exact m2)
     have hMinT : ∀ w1 : World, SceneAt w1 (some ⟨dg, 0, none⟩) (some ⟨dm, 0, none⟩) gs T → Calls Tryz.prog 22 #[.agg (scnV R (some ⟨dg, 0, none⟩) gs.length lg E (some ⟨dm, 0, none⟩) ms.length lm).toArray, .int .i64 room] w1 fun e w' => ∃ rr : RowR, e = .returned (.tuple #[valR rr (minutesL R E gs ms room).length, .int .i64 0]) ∧ RowZ 45 2 (minutesL R E gs ms room).length w1.heap.size w' rr (spaL (minutesL R E gs ms room)) ∧ Below w1.heap.size w1 w' := fun w1 h => by
       have q := Minutes_calls R E (some ⟨dg, 0, none⟩) (some ⟨dm, 0, none⟩) lg lm gs T room w1 h
       rw [hTl, (hsame.1 room).1, (hsame.1 room).2, hmc] at q
       exact q
     have hNamT : ∀ w1 : World, SceneAt w1 (some ⟨dg, 0, none⟩) (some ⟨dm, 0, none⟩) gs T → Calls Tryz.prog 30 #[.agg (scnV R (some ⟨dg, 0, none⟩) gs.length lg E (some ⟨dm, 0, none⟩) ms.length lm).toArray] w1 fun e w' => e = .returned (.tuple #[.int .i64 (namedV R E gs ms), .int .i64 (namedC R E gs ms)]) ∧ Below w1.heap.size w1 w' := fun w1 h => by
       have q := Named_calls R E (some ⟨dg, 0, none⟩) (some ⟨dm, 0, none⟩) lg lm gs T w1 h
       rw [hTl, hsame.2.1, hsame.2.2] at q
       exact q
     with_reducible ((repeat refine xc_seq ?_); refine xcR ?_)
     refine xo_loadN T_ rfl rfl rfl (by repeat first | exact memH | apply memT | apply memA) rfl rfl ?_
     refine xo_mv rfl rfl rfl ?_
     refine xo_call (fs := []) (cs := []) rfl rfl rfl Minutes_enters rfl (fun w1 hw1 => (hMinT w1 (hown hw1 (by repeat first | exact memH | apply memT | apply memA) (by repeat first | exact memH | apply memT | apply memA))).mono ?_)
     rintro e w2 ⟨r13, rfl, hrw, hb⟩
     have hh13 := hrw.1
     refine ⟨_, _, rfl, hw1.rowZ hb hrw, ?_⟩
     clear hrw hb hw1
     refine xo_mv rfl rfl rfl ?_
     refine xo_ext rfl rfl rfl rfl ?_
     refine xo_ext rfl rfl rfl rfl ?_
     refine xo_asg rfl rfl rfl ?_
     refine xo_asg rfl rfl rfl ?_
     with_reducible (refine xo_nil ?_; (repeat (first | refine xqT ?_ | refine xqB ?_ | refine xqS ?_)); (repeat refine xc_seq ?_); refine xcR ?_)
     refine xo_loadN T_ rfl rfl rfl (by repeat first | exact memH | apply memT | apply memA) rfl rfl ?_
     refine xo_callB (fs := []) (cs := []) rfl rfl rfl Named_enters rfl (fun w1 hw1 => Named_calls R E A B c c2 gs ms w1 (hs.below hw1.kx.below)) ?_
     refine xo_mv rfl rfl rfl ?_
     refine xo_ext rfl rfl rfl rfl ?_
     refine xo_ext rfl rfl rfl rfl ?_
     refine xo_asg rfl rfl rfl ?_
     refine xo_asg rfl rfl rfl ?_
     with_reducible (refine xo_nil ?_; (repeat (first | refine xqT ?_ | refine xqB ?_ | refine xqS ?_)); (repeat refine xc_seq ?_); refine xcR ?_)
     refine xo_loadN T_ rfl rfl rfl (by repeat first | exact memH | apply memT | apply memA) rfl rfl ?_
     refine xo_callB (fs := []) (cs := []) rfl rfl rfl Named_enters rfl (fun w1 hw1 => hNamT w1 (hown hw1 (by repeat first | exact memH | apply memT | apply memA) (by repeat first | exact memH | apply memT | apply memA))) ?_
     refine xo_mv rfl rfl rfl ?_
     refine xo_ext rfl rfl rfl rfl ?_
     refine xo_ext rfl rfl rfl rfl ?_
     refine xo_asg rfl rfl rfl ?_
     refine xo_asg rfl rfl rfl ?_
     with_reducible (refine xo_nil ?_; (repeat (first | refine xqT ?_ | refine xqB ?_ | refine xqS ?_)))
     have e106 : eqL (minutesL R E gs ms room) (minutesL R E gs ms room) = true := eqL_true rfl
     have e112 : (!decide (namedV R E gs ms = namedV R E gs ms)) = false := by simp
     have e117 : (!decide (namedC R E gs ms = namedC R E gs ms)) = false := by simp
     have hll : (minutesL R E gs ms room).length ≤ 1000000 := by have := minutes_len (R := R) (gs := gs) (ms := ms) (room := room) hE6; omega
     refine xc_slots [(3, .pointer (some ⟨b3, 0, none⟩)), (4, .pointer (some ⟨b4, 0, none⟩)), (7, .bool true), (8, .int .i64 room), (9, .slice (valA r9) (minutesL R E gs ms room).length (valC r9)), (10, .int .i64 0), (13, .slice (valA r13) (minutesL R E gs ms room).length (valC r13)), (14, .int .i64 0), (15, .int .i64 (namedV R E gs ms)), (16, .int .i64 (namedC R E gs ms)), (17, .int .i64 (namedV R E gs ms)), (18, .int .i64 (namedC R E gs ms))] ⟨rfl, rfl, rfl, rfl, rfl, rfl, congrArg some (valR_eq hh13), rfl, rfl, rfl, rfl, rfl, trivial⟩ ?_
     with_reducible ((repeat refine xc_seq ?_); refine xcR ?_)
     refine xo_mv rfl rfl rfl ?_
     refine xo_neq rfl rfl rfl rfl ?_
     refine xo_mv rfl rfl rfl ?_
     (first | refine xo_not rfl rfl ?_ | (refine xo_mv rfl rfl rfl ?_))
     (first | refine xo_not rfl rfl ?_ | (refine xo_neq rfl rfl rfl rfl ?_))
     first | refine xo_pickT rfl rfl rfl rfl ?_ | refine xo_pickF rfl rfl rfl rfl ?_
     refine xo_mv rfl rfl rfl ?_
     (first | refine xo_not rfl rfl ?_ | (refine xo_mv rfl rfl rfl ?_))
     (first | refine xo_not rfl rfl ?_ | (refine xo_mv rfl rfl rfl ?_))
     (first | refine xo_not rfl rfl ?_ | (refine xo_callB (fs := []) (cs := []) rfl rfl rfl sameSpans_enters rfl (fun w1 hw1 => sameSpans_calls (valA r9) (valA r13) (valC r9) (valC r13) (minutesL R E gs ms room) (minutesL R E gs ms room) w1 (spansAt_row (hw1.bl_of (fun e he => by repeat (first | exact he | exact List.mem_append_left _ he | apply List.mem_append_right | apply List.Mem.tail))) hh9) (spansAt_row (hw1.bl_of (fun e he => by repeat (first | exact he | exact List.mem_append_left _ he | apply List.mem_append_right | apply List.Mem.tail))) hh13) hll) ?_))
     refine xo_as (i := 106) rfl (congrArg Value.bool e106) ?_
     (first | refine xo_not rfl rfl ?_ | (refine xo_notOp rfl rfl rfl ?_))
     first | refine xo_pickT rfl rfl rfl rfl ?_ | refine xo_pickF rfl rfl rfl rfl ?_
     refine xo_mv rfl rfl rfl ?_
     (first | refine xo_not rfl rfl ?_ | (refine xo_mv rfl rfl rfl ?_))
     (first | refine xo_not rfl rfl ?_ | (refine xo_mv rfl rfl rfl ?_))
     (first | refine xo_not rfl rfl ?_ | (refine xo_neq rfl rfl rfl rfl ?_))
     refine xo_as (i := 112) rfl (congrArg Value.bool e112) ?_
     first | refine xo_pickT rfl rfl rfl rfl ?_ | refine xo_pickF rfl rfl rfl rfl ?_
     refine xo_mv rfl rfl rfl ?_
     (first | refine xo_not rfl rfl ?_ | (refine xo_mv rfl rfl rfl ?_))
     (first | refine xo_not rfl rfl ?_ | (refine xo_mv rfl rfl rfl ?_))
     (first | refine xo_not rfl rfl ?_ | (refine xo_neq rfl rfl rfl rfl ?_))
     refine xo_as (i := 117) rfl (congrArg Value.bool e117) ?_
     first | refine xo_pickT rfl rfl rfl rfl ?_ | refine xo_pickF rfl rfl rfl rfl ?_
     with_reducible (refine xo_nil ?_; (repeat (first | refine xqT ?_ | refine xqB ?_ | refine xqS ?_)); (repeat refine xc_seq ?_))
     refine xc_condF rfl ?_
     with_reducible (refine xc_skip ?_; (repeat (first | refine xqT ?_ | refine xqB ?_ | refine xqS ?_)))
     refine xc_slots [(3, .pointer (some ⟨b3, 0, none⟩)), (4, .pointer (some ⟨b4, 0, none⟩)), (7, .bool true), (8, .int .i64 room), (9, .slice (valA r9) (minutesL R E gs ms room).length (valC r9))] ⟨rfl, rfl, rfl, rfl, rfl, trivial⟩ ?_
     refine xc_sub (η' := hpR 45 2 r9 (minutesL R E gs ms room).length (spaL (minutesL R E gs ms room)) ++ [(b4, true, cel (marV more) 56), (b3, true, cel (scnV R A gs.length c E B ms.length c2) 25)]) (by repeat (first | exact List.Sublist.refl _ | refine List.Sublist.trans ?_ (List.sublist_append_right _ _) | refine List.Sublist.trans ?_ (List.sublist_cons_self _ _))) ?_
     clear hMinT hNamT hown
     with_reducible ((repeat refine xc_seq ?_); refine xcR ?_)
     refine xo_asg rfl rfl rfl ?_
     with_reducible (refine xo_nil ?_; (repeat (first | refine xqT ?_ | refine xqB ?_ | refine xqS ?_)); (repeat refine xc_seq ?_); refine xcR ?_)
     refine xo_fa T_ rfl rfl rfl rfl rfl ?_
     refine xo_load0 T_ rfl rfl rfl (by repeat first | exact memH | apply memT | apply memA) rfl rfl ?_
     refine xo_len T_ rfl rfl rfl rfl ?_
     refine xo_asg rfl rfl rfl ?_
     with_reducible (refine xo_nil ?_; (repeat (first | refine xqT ?_ | refine xqB ?_ | refine xqS ?_)); (repeat refine xc_seq ?_); refine xcR ?_)
     refine xo_mv rfl rfl rfl ?_
     refine xo_gtr rfl rfl rfl rfl ?_
     with_reducible (refine xo_nil ?_; (repeat (first | refine xqT ?_ | refine xqB ?_ | refine xqS ?_)); (repeat refine xc_seq ?_))
     refine xc_meet2 (γ := Int) (fun id => -1 ≤ id ∧ id ≤ 9999) (fun id => [(3, .pointer (some ⟨b3, 0, none⟩)), (4, .pointer (some ⟨b4, 0, none⟩)), (7, .bool true), (8, .int .i64 room), (9, .slice (valA r9) (minutesL R E gs ms room).length (valC r9)), (19, .int .i64 id)]) (fun _ => hpR 45 2 r9 (minutesL R E gs ms room).length (spaL (minutesL R E gs ms room)) ++ [(b4, true, cel (marV more) 56), (b3, true, cel (scnV R A gs.length c E B ms.length c2) 25)]) ?_ (fun last hlast => ?_)
     · with_reducible repeat refine xc_seq ?_
       refine xc_cond rfl (fun h => ?_) (fun h => ?_)
       · have h0 : 0 < ms.length := by have := of_decide_eq_true h; omega
         obtain ⟨ad, rfl, hRm⟩ := hmr7 (ms.length - 1) (by omega)
         rw [show (((ms.length - 1 : Nat) : Int)).toNat = ((ms.length : Int) - 1).toNat by omega] at hRm
         have hid := f0_in hmk _ (getD_mem ms zMar (ms.length - 1) (by omega))
         with_reducible ((repeat refine xc_seq ?_); refine xcR ?_)
         refine xo_fa T_ rfl rfl rfl rfl rfl ?_
         refine xo_load0 T_ rfl rfl rfl (by repeat first | exact memH | apply memT | apply memA) rfl rfl ?_
         refine xo_mv rfl rfl rfl ?_
         refine xo_sub rfl rfl rfl (by omega) rfl ?_
         refine xo_ia T_ rfl rfl rfl rfl rfl ⟨by omega, by omega⟩ rfl ?_
         refine xo_faR T_ rfl rfl rfl rfl rfl ?_
         refine xo_loadR0 T_ rfl rfl rfl (by first | assumption | exact RO.fld (by assumption) rfl) rfl ?_
         refine xo_asg rfl rfl rfl ?_
         with_reducible (refine xo_nil ?_; (repeat (first | refine xqT ?_ | refine xqB ?_ | refine xqS ?_)))
         exact xq_meet _ _ _ _ ⟨by omega, by omega⟩ ⟨rfl, rfl, rfl, rfl, rfl, rfl, trivial⟩ (List.Sublist.refl _)
       · with_reducible refine xc_skip ?_
         with_reducible (repeat (first | refine xqT ?_ | refine xqB ?_ | refine xqS ?_))
         exact xq_meet _ _ _ (-1) ⟨by omega, by omega⟩ ⟨rfl, rfl, rfl, rfl, rfl, rfl, trivial⟩ (List.Sublist.refl _)
     with_reducible ((repeat refine xc_seq ?_); refine xcR ?_)
     refine xo_loadN T_ rfl rfl rfl (by repeat first | exact memH | apply memT | apply memA) rfl rfl ?_
     refine xo_call (fs := []) (cs := []) rfl rfl rfl twin_enters rfl (fun w1 hw1 => (twin_calls R E A B c c2 gs ms w1 (hgr4.below hw1.kx.below) (hmr7.below hw1.kx.below) (C_none hA) (C_none hB) (by omega) (by omega)).mono ?_)
     rintro e w2 ⟨eg, leg, em, lem, rfl, hz⟩
     refine ⟨_, _, rfl, hw1.join hz (fun e he => by simp only [List.mem_cons, List.not_mem_nil, or_false] at he; rcases he with rfl | rfl <;> rfl), ?_⟩
     clear hz hw1
     refine xo_alloc T_ rfl rfl rfl rfl (fun b21 => ?_)
     refine xo_store T_ rfl rfl rfl rfl (by repeat first | exact memH | apply memT | apply memA) rfl rfl rfl rfl (by repeat (first | exact Upd.head | apply Upd.tail | apply Upd.app)) rfl ?_
     with_reducible (refine xo_nil ?_; (repeat (first | refine xqT ?_ | refine xqB ?_ | refine xqS ?_)); (repeat refine xc_seq ?_); refine xcR ?_)
     refine xo_mv rfl rfl rfl ?_
     refine xo_add rfl rfl rfl (by omega) rfl ?_
     refine xo_fa T_ rfl rfl rfl rfl rfl ?_
     refine xo_store T_ rfl rfl rfl rfl (by repeat first | exact memH | apply memT | apply memA) rfl rfl rfl rfl (by repeat (first | exact Upd.head | apply Upd.tail | apply Upd.app)) rfl ?_
     with_reducible (refine xo_nil ?_; (repeat (first | refine xqT ?_ | refine xqB ?_ | refine xqS ?_)); (repeat refine xc_seq ?_); refine xcR ?_)
     refine xo_fa T_ rfl rfl rfl rfl rfl ?_
     refine xo_load0 T_ rfl rfl rfl (by repeat first | exact memH | apply memT | apply memA) rfl rfl ?_
     refine xo_loadN T_ rfl rfl rfl (by repeat first | exact memH | apply memT | apply memA) rfl rfl ?_
     refine xo_bsG T_ 7 rfl rfl rfl rfl rfl rfl rfl rfl rfl rfl (fun b139 => ?_)
     refine xo_perm (List.Perm.cons _ (List.Perm.swap _ _ _)) ?_
     refine xo_app TR_ (r := some (em, lem)) (m := ms.length) (xs := marL ms) rfl rfl rfl rfl rfl rfl rfl rfl (marL_len ms) rfl rfl (fun h => by cases h) (by omega) rfl rfl (fun r99 hr99 => ?_)
     rcases r99 with _ | ⟨fb, fc⟩
     · exact absurd rfl hr99
     refine xo_fa T_ rfl rfl rfl rfl rfl ?_
     refine xo_store T_ rfl rfl rfl rfl (by repeat first | exact memH | apply memT | apply memA) rfl rfl rfl rfl (by repeat (first | exact Upd.head | apply Upd.tail | apply Upd.app)) rfl ?_
     with_reducible (refine xo_nil ?_; (repeat (first | refine xqT ?_ | refine xqB ?_ | refine xqS ?_)))
     refine xc_slots [(3, .pointer (some ⟨b3, 0, none⟩)), (4, .pointer (some ⟨b4, 0, none⟩)), (7, .bool true), (8, .int .i64 room), (9, .slice (valA r9) (minutesL R E gs ms room).length (valC r9)), (19, .int .i64 last), (21, .pointer (some ⟨b21, 0, none⟩))] ⟨rfl, rfl, rfl, rfl, rfl, rfl, rfl, trivial⟩ ?_
     have hl1 : ms.length + 1 = (ms ++ [(⟨last + 1, more.f1, more.f2, more.f3, more.f4, more.f5⟩ : MarT)]).length := by rw [List.length_append]; rfl
     refine xc_sub (η' := (fb, true, orow 56 7 (ms.length + 1) fc (marL ms ++ marV (⟨last + 1, more.f1, more.f2, more.f3, more.f4, more.f5⟩ : MarT))) :: (b21, true, cel [.int .i64 R, .slice (some ⟨eg, 0, none⟩) gs.length leg, .int .i64 E, .slice (some ⟨fb, 0, none⟩) (ms.length + 1) fc] 25) :: (eg, true, orow 52 4 gs.length leg (gatL gs)) :: (hpR 45 2 r9 (minutesL R E gs ms room).length (spaL (minutesL R E gs ms room)) ++ [(b4, true, cel (marV (⟨last + 1, more.f1, more.f2, more.f3, more.f4, more.f5⟩ : MarT)) 56), (b3, true, cel (scnV R A gs.length c E B ms.length c2) 25)])) (List.Sublist.refl _) ?_
     rw [← marL_app, hl1]
     have hbt : BytesK (ms ++ [(⟨last + 1, more.f1, more.f2, more.f3, more.f4, more.f5⟩ : MarT)]) := fun m hm => by
       rcases List.mem_append.1 hm with hm | hm
       · exact hk m hm
       · rw [List.mem_singleton.1 hm]; exact hkm
     have hlb : (ms ++ [(⟨last + 1, more.f1, more.f2, more.f3, more.f4, more.f5⟩ : MarT)]).length ≤ 1000000 := by rw [← hl1]; omega
     have hmm := more_minutes (m := (⟨last + 1, more.f1, more.f2, more.f3, more.f4, more.f5⟩ : MarT)) (room := room) hsc hrOK
     generalize hM : ms ++ [(⟨last + 1, more.f1, more.f2, more.f3, more.f4, more.f5⟩ : MarT)] = M at hbt hlb hmm ⊢
     have hown : ∀ {η : Hp} {w1 : World}, WOK w XNone η w1 → (eg, true, orow 52 4 gs.length leg (gatL gs)) ∈ η → (fb, true, orow 56 7 M.length fc (marL M)) ∈ η → SceneAt w1 (some ⟨eg, 0, none⟩) (some ⟨fb, 0, none⟩) gs M := fun {η w1} hw1 m1 m2 => own_scene hw1 (by omega) hlb hbt (hglob.below hw1.kx.below) m1 m2
     cases hrd : sceneF R E gs M
     · with_reducible repeat refine xc_seq ?_
       with_reducible refine xcR ?_
       refine xo_loadN T_ rfl rfl rfl (by repeat first | exact memH | apply memT | apply memA) rfl rfl ?_
       refine xo_callB (fs := []) (cs := []) rfl rfl rfl ready_enters rfl (fun w1 hw1 => ready_calls R E _ _ leg fc gs M w1 (gat_row (hown hw1 (by repeat first | exact memH | apply memT | apply memA) (by repeat first | exact memH | apply memT | apply memA)).gates) (mar_row (hown hw1 (by repeat first | exact memH | apply memT | apply memA) (by repeat first | exact memH | apply memT | apply memA)).marks)) ?_
       refine xo_as (i := 143) rfl (congrArg Value.bool hrd) ?_
       refine xo_notOp rfl rfl rfl ?_
       with_reducible (refine xo_nil ?_; (repeat (first | refine xqT ?_ | refine xqB ?_ | refine xqS ?_)); (repeat refine xc_seq ?_))
       refine xc_condT rfl ?_
       with_reducible ((repeat refine xc_seq ?_); refine xcR ?_)
       refine xo_mv rfl rfl rfl ?_
       refine xo_asg rfl rfl rfl ?_
       with_reducible (refine xo_nil ?_; (repeat (first | refine xqT ?_ | refine xqB ?_ | refine xqS ?_)); (repeat refine xc_seq ?_); refine xc_ret ?_; (repeat (first | refine xq_thenR ?_ | refine xq_blockR ?_ | refine xq_scopeR ?_)))
       exact xq_ret1 rfl rfl fun w' hw => ⟨rfl, hw.kx.below⟩
     with_reducible ((repeat refine xc_seq ?_); refine xcR ?_)
     refine xo_loadN T_ rfl rfl rfl (by repeat first | exact memH | apply memT | apply memA) rfl rfl ?_
     refine xo_callB (fs := []) (cs := []) rfl rfl rfl ready_enters rfl (fun w1 hw1 => ready_calls R E _ _ leg fc gs M w1 (gat_row (hown hw1 (by repeat first | exact memH | apply memT | apply memA) (by repeat first | exact memH | apply memT | apply memA)).gates) (mar_row (hown hw1 (by repeat first | exact memH | apply memT | apply memA) (by repeat first | exact memH | apply memT | apply memA)).marks)) ?_
     refine xo_as (i := 143) rfl (congrArg Value.bool hrd) ?_
     refine xo_notOp rfl rfl rfl ?_
     with_reducible (refine xo_nil ?_; (repeat (first | refine xqT ?_ | refine xqB ?_ | refine xqS ?_)); (repeat refine xc_seq ?_))
     refine xc_condF rfl ?_
     with_reducible (refine xc_skip ?_; (repeat (first | refine xqT ?_ | refine xqB ?_ | refine xqS ?_)))
     have hmcM : minutesC R E gs M room = 0 := by simp [minutesC, hrd, hrOK]
     with_reducible ((repeat refine xc_seq ?_); refine xcR ?_)
     refine xo_loadN T_ rfl rfl rfl (by repeat first | exact memH | apply memT | apply memA) rfl rfl ?_
     refine xo_mv rfl rfl rfl ?_
     refine xo_call (fs := []) (cs := []) rfl rfl rfl Minutes_enters rfl (fun w1 hw1 => (Minutes_calls R E _ _ leg fc gs M room w1 (hown hw1 (by repeat first | exact memH | apply memT | apply memA) (by repeat first | exact memH | apply memT | apply memA))).mono ?_)
     rw [hmcM]
     rintro e w2 ⟨r22, rfl, hrw, hb⟩
     have hh22 := hrw.1
     refine ⟨_, _, rfl, hw1.rowZ hb hrw, ?_⟩
     clear hrw hb hw1
     refine xo_mv rfl rfl rfl ?_
     refine xo_ext rfl rfl rfl rfl ?_
     refine xo_ext rfl rfl rfl rfl ?_
     refine xo_asg rfl rfl rfl ?_
     refine xo_asg rfl rfl rfl ?_
     with_reducible (refine xo_nil ?_; (repeat (first | refine xqT ?_ | refine xqB ?_ | refine xqS ?_)); (repeat refine xc_seq ?_); refine xcR ?_)
     refine xo_mv rfl rfl rfl ?_
     refine xo_neq rfl rfl rfl rfl ?_
     with_reducible (refine xo_nil ?_; (repeat (first | refine xqT ?_ | refine xqB ?_ | refine xqS ?_)); (repeat refine xc_seq ?_))
     refine xc_condF rfl ?_
     with_reducible (refine xc_skip ?_; (repeat (first | refine xqT ?_ | refine xqB ?_ | refine xqS ?_)))
     refine xc_slots [(3, .pointer (some ⟨b3, 0, none⟩)), (7, .bool true), (8, .int .i64 room), (9, .slice (valA r9) (minutesL R E gs ms room).length (valC r9)), (19, .int .i64 last), (22, .slice (valA r22) (minutesL R E gs M room).length (valC r22))] ⟨rfl, rfl, rfl, rfl, rfl, congrArg some (valR_eq hh22), trivial⟩ ?_
     refine xc_anew fun w3 hw3 => ?_
     have hs22 : SpansAt w3 (valA r22) (minutesL R E gs M room) := spansAt_row (hw3.bl_of (fun e he => by repeat (first | exact he | exact List.mem_append_left _ he | apply List.mem_append_right | apply List.Mem.tail))) hh22
     have hs9 : SpansAt w3 (valA r9) (minutesL R E gs ms room) := spansAt_row (hw3.bl_of (fun e he => by repeat (first | exact he | exact List.mem_append_left _ he | apply List.mem_append_right | apply List.Mem.tail))) hh9
     have h3 : RO w3 XNone ⟨b3, 0, none⟩ (scnV R A gs.length c E B ms.length c2) := hw3.ro (wr := true) (t := 25) (by repeat first | exact memH | apply memT | apply memA)
     have hw3 := hw3.kx.below
     have hlm : (minutesL R E gs M room).length ≤ 601 := minutes_len hE6
     have hlL : (minutesL R E gs ms room).length ≤ 601 := minutes_len hE6
     generalize valA r22 = A22 at hs22 ⊢
     generalize valC r22 = c22
     generalize valA r9 = A9 at hs9 ⊢
     generalize valC r9 = c9
     generalize hMM : minutesL R E gs M room = MM at hmm hs22 hlm ⊢
     generalize hLL : minutesL R E gs ms room = L at hmm hs9 hlL ⊢
     with_reducible ((repeat refine xc_seq ?_); refine xcR ?_)
     refine xo_mv rfl rfl rfl ?_
     refine xo_len T_ rfl rfl rfl rfl ?_
     refine xo_mv rfl rfl rfl ?_
     with_reducible (refine xo_nil ?_; (repeat (first | refine xqT ?_ | refine xqB ?_ | refine xqS ?_)); (repeat refine xc_seq ?_); refine xc_block ?_)
     · refine xc_loop (γ := Nat) (fun k => k ≤ MM.length) (fun k => [(3, .pointer (some ⟨b3, 0, none⟩)), (7, .bool true), (8, .int .i64 room), (9, .slice A9 L.length c9), (19, .int .i64 last), (154, .slice A22 MM.length c22), (155, .int .i64 (MM.length : Int)), (156, .int .i64 (k : Int))]) (fun _ => []) (fun k => MM.length - k) 0 (Nat.zero_le _) ⟨rfl, rfl, rfl, rfl, rfl, rfl, rfl, rfl, trivial⟩ (List.nil_sublist _) ?_
       intro k hk2
       with_reducible ((repeat refine xc_seq ?_); refine xcR ?_)
       refine xo_lss rfl rfl rfl rfl ?_
       with_reducible (refine xo_nil ?_; (repeat (first | refine xqT ?_ | refine xqB ?_ | refine xqS ?_)); (repeat refine xc_seq ?_))
       refine xc_cond rfl (fun h => ?_) (fun h => ?_)
       · have hlt : k < MM.length := by have := of_decide_eq_true h; omega
         obtain ⟨ad, rfl, hRO⟩ := hs22 k hlt
         have hin := hmm _ (getD_mem MM zSpa k hlt)
         generalize MM.getD k zSpa = x at hRO hin
         with_reducible (refine xc_skip ?_; (repeat (first | refine xqT ?_ | refine xqB ?_ | refine xqS ?_)); (repeat refine xc_seq ?_); refine xc_block ?_; (repeat refine xc_seq ?_); refine xcR ?_)
         refine xo_ia T_ rfl rfl rfl rfl rfl ⟨by omega, by omega⟩ rfl ?_
         refine xo_loadRN T_ rfl rfl rfl hRO rfl rfl ?_
         refine xo_alloc T_ rfl rfl rfl rfl (fun b25 => ?_)
         refine xo_store T_ rfl rfl rfl rfl (by repeat first | exact memH | apply memT | apply memA) rfl rfl rfl rfl (by repeat (first | exact Upd.head | apply Upd.tail | apply Upd.app)) rfl ?_
         with_reducible (refine xo_nil ?_; (repeat (first | refine xqT ?_ | refine xqB ?_ | refine xqS ?_)); (repeat refine xc_seq ?_); refine xcR ?_)
         refine xo_asg rfl rfl rfl ?_
         with_reducible (refine xo_nil ?_; (repeat (first | refine xqT ?_ | refine xqB ?_ | refine xqS ?_)); (repeat refine xc_seq ?_); refine xcR ?_)
         refine xo_mv rfl rfl rfl ?_
         refine xo_len T_ rfl rfl rfl rfl ?_
         refine xo_mv rfl rfl rfl ?_
         with_reducible (refine xo_nil ?_; (repeat (first | refine xqT ?_ | refine xqB ?_ | refine xqS ?_)); (repeat refine xc_seq ?_); refine xc_block ?_)
         · refine xc_loop (γ := Nat) (fun j => j ≤ L.length) (fun j => [(3, .pointer (some ⟨b3, 0, none⟩)), (7, .bool true), (8, .int .i64 room), (9, .slice A9 L.length c9), (19, .int .i64 last), (25, .pointer (some ⟨b25, 0, none⟩)), (26, .bool (anyS L x j)), (154, .slice (some ad) MM.length c22), (155, .int .i64 (MM.length : Int)), (156, .int .i64 (k : Int)), (160, .slice A9 L.length c9), (161, .int .i64 (L.length : Int)), (162, .int .i64 (j : Int))]) (fun _ => [(b25, true, cel (spaV x) 45)]) (fun j => L.length - j) 0 (Nat.zero_le _) ⟨rfl, rfl, rfl, rfl, rfl, rfl, rfl, rfl, rfl, rfl, rfl, rfl, rfl, trivial⟩ (by repeat (first | exact List.Sublist.refl _ | apply List.Sublist.cons_cons | apply List.Sublist.cons | exact List.nil_sublist _)) ?_
           intro j hj2
           with_reducible ((repeat refine xc_seq ?_); refine xcR ?_)
           refine xo_lss rfl rfl rfl rfl ?_
           with_reducible (refine xo_nil ?_; (repeat (first | refine xqT ?_ | refine xqB ?_ | refine xqS ?_)); (repeat refine xc_seq ?_))
           refine xc_cond rfl (fun h => ?_) (fun h => ?_)
           · have hltj : j < L.length := by have := of_decide_eq_true h; omega
             obtain ⟨ad9, rfl, hRO9⟩ := hs9 j hltj
             have hsu := anyS_succ L x hltj
             generalize L.getD j zSpa = y at hRO9 hsu
             with_reducible (refine xc_skip ?_; (repeat (first | refine xqT ?_ | refine xqB ?_ | refine xqS ?_)); (repeat refine xc_seq ?_); refine xc_block ?_; (repeat refine xc_seq ?_); refine xcR ?_)
             refine xo_ia T_ rfl rfl rfl rfl rfl ⟨by omega, by omega⟩ rfl ?_
             refine xo_loadRN T_ rfl rfl rfl hRO9 rfl rfl ?_
             refine xo_alloc T_ rfl rfl rfl rfl (fun b28 => ?_)
             refine xo_store T_ rfl rfl rfl rfl (by repeat first | exact memH | apply memT | apply memA) rfl rfl rfl rfl (by repeat (first | exact Upd.head | apply Upd.tail | apply Upd.app)) rfl ?_
             with_reducible (refine xo_nil ?_; (repeat (first | refine xqT ?_ | refine xqB ?_ | refine xqS ?_)))
             generalize hI : anyS L x j = bI at hsu ⊢
             generalize hq1 : decide (y.f0 ≤ x.f0) = q1 at hsu
             generalize hq2 : decide (x.f1 ≤ y.f1) = q2 at hsu
             cases bI
             · cases q1
               · with_reducible repeat refine xc_seq ?_
                 with_reducible refine xcR ?_
                 refine xo_mv rfl rfl rfl ?_
                 refine xo_mv rfl rfl rfl ?_
                 (first | refine xo_not rfl rfl ?_ | (refine xo_fa T_ rfl rfl rfl rfl rfl ?_))
                 (first | refine xo_not rfl rfl ?_ | (refine xo_load0 T_ rfl rfl rfl (by repeat first | exact memH | apply memT | apply memA) rfl rfl ?_))
                 (first | refine xo_not rfl rfl ?_ | (refine xo_fa T_ rfl rfl rfl rfl rfl ?_))
                 (first | refine xo_not rfl rfl ?_ | (refine xo_load0 T_ rfl rfl rfl (by repeat first | exact memH | apply memT | apply memA) rfl rfl ?_))
                 (first | refine xo_not rfl rfl ?_ | (refine xo_geq rfl rfl rfl rfl ?_))
                 refine xo_as (i := 172) rfl (congrArg Value.bool hq1) ?_
                 (first | refine xo_not rfl rfl ?_ | (refine xo_mv rfl rfl rfl ?_))
                 (first | refine xo_not rfl rfl ?_ | (refine xo_fa T_ rfl rfl rfl rfl rfl ?_))
                 (first | refine xo_not rfl rfl ?_ | (refine xo_load0 T_ rfl rfl rfl (by repeat first | exact memH | apply memT | apply memA) rfl rfl ?_))
                 (first | refine xo_not rfl rfl ?_ | (refine xo_fa T_ rfl rfl rfl rfl rfl ?_))
                 (first | refine xo_not rfl rfl ?_ | (refine xo_load0 T_ rfl rfl rfl (by repeat first | exact memH | apply memT | apply memA) rfl rfl ?_))
                 (first | refine xo_not rfl rfl ?_ | (refine xo_leq rfl rfl rfl rfl ?_))
                 (first | refine xo_not rfl rfl ?_ | (first | refine xo_pickT rfl rfl rfl rfl ?_ | refine xo_pickF rfl rfl rfl rfl ?_))
                 first | refine xo_pickT rfl rfl rfl rfl ?_ | refine xo_pickF rfl rfl rfl rfl ?_
                 refine xo_asg rfl rfl rfl ?_
                 with_reducible (refine xo_nil ?_; (repeat (first | refine xqT ?_ | refine xqB ?_ | refine xqS ?_)); (repeat refine xc_seq ?_); refine xcR ?_)
                 refine xo_add rfl rfl rfl (by omega) rfl ?_
                 refine xo_mv rfl rfl rfl ?_
                 with_reducible (refine xo_nil ?_; (repeat (first | refine xqT ?_ | refine xqB ?_ | refine xqS ?_)))
                 exact xq_again _ _ _ _ _ (j + 1) hltj (by omega) ⟨rfl, rfl, rfl, rfl, rfl, rfl, by rw [hsu]; rfl, rfl, rfl, rfl, rfl, rfl, rfl, trivial⟩ (by repeat (first | exact List.Sublist.refl _ | refine List.Sublist.trans ?_ (List.sublist_cons_self _ _)))
               · cases q2
                 · with_reducible repeat refine xc_seq ?_
                   with_reducible refine xcR ?_
                   refine xo_mv rfl rfl rfl ?_
                   refine xo_mv rfl rfl rfl ?_
                   (first | refine xo_not rfl rfl ?_ | (refine xo_fa T_ rfl rfl rfl rfl rfl ?_))
                   (first | refine xo_not rfl rfl ?_ | (refine xo_load0 T_ rfl rfl rfl (by repeat first | exact memH | apply memT | apply memA) rfl rfl ?_))
                   (first | refine xo_not rfl rfl ?_ | (refine xo_fa T_ rfl rfl rfl rfl rfl ?_))
                   (first | refine xo_not rfl rfl ?_ | (refine xo_load0 T_ rfl rfl rfl (by repeat first | exact memH | apply memT | apply memA) rfl rfl ?_))
                   (first | refine xo_not rfl rfl ?_ | (refine xo_geq rfl rfl rfl rfl ?_))
                   refine xo_as (i := 172) rfl (congrArg Value.bool hq1) ?_
                   (first | refine xo_not rfl rfl ?_ | (refine xo_mv rfl rfl rfl ?_))
                   (first | refine xo_not rfl rfl ?_ | (refine xo_fa T_ rfl rfl rfl rfl rfl ?_))
                   (first | refine xo_not rfl rfl ?_ | (refine xo_load0 T_ rfl rfl rfl (by repeat first | exact memH | apply memT | apply memA) rfl rfl ?_))
                   (first | refine xo_not rfl rfl ?_ | (refine xo_fa T_ rfl rfl rfl rfl rfl ?_))
                   (first | refine xo_not rfl rfl ?_ | (refine xo_load0 T_ rfl rfl rfl (by repeat first | exact memH | apply memT | apply memA) rfl rfl ?_))
                   (first | refine xo_not rfl rfl ?_ | (refine xo_leq rfl rfl rfl rfl ?_))
                   refine xo_as (i := 178) rfl (congrArg Value.bool hq2) ?_
                   (first | refine xo_not rfl rfl ?_ | (first | refine xo_pickT rfl rfl rfl rfl ?_ | refine xo_pickF rfl rfl rfl rfl ?_))
                   first | refine xo_pickT rfl rfl rfl rfl ?_ | refine xo_pickF rfl rfl rfl rfl ?_
                   refine xo_asg rfl rfl rfl ?_
                   with_reducible (refine xo_nil ?_; (repeat (first | refine xqT ?_ | refine xqB ?_ | refine xqS ?_)); (repeat refine xc_seq ?_); refine xcR ?_)
                   refine xo_add rfl rfl rfl (by omega) rfl ?_
                   refine xo_mv rfl rfl rfl ?_
                   with_reducible (refine xo_nil ?_; (repeat (first | refine xqT ?_ | refine xqB ?_ | refine xqS ?_)))
                   exact xq_again _ _ _ _ _ (j + 1) hltj (by omega) ⟨rfl, rfl, rfl, rfl, rfl, rfl, by rw [hsu]; rfl, rfl, rfl, rfl, rfl, rfl, rfl, trivial⟩ (by repeat (first | exact List.Sublist.refl _ | refine List.Sublist.trans ?_ (List.sublist_cons_self _ _)))
                 · with_reducible repeat refine xc_seq ?_
                   with_reducible refine xcR ?_
                   refine xo_mv rfl rfl rfl ?_
                   refine xo_mv rfl rfl rfl ?_
                   (first | refine xo_not rfl rfl ?_ | (refine xo_fa T_ rfl rfl rfl rfl rfl ?_))
                   (first | refine xo_not rfl rfl ?_ | (refine xo_load0 T_ rfl rfl rfl (by repeat first | exact memH | apply memT | apply memA) rfl rfl ?_))
                   (first | refine xo_not rfl rfl ?_ | (refine xo_fa T_ rfl rfl rfl rfl rfl ?_))
                   (first | refine xo_not rfl rfl ?_ | (refine xo_load0 T_ rfl rfl rfl (by repeat first | exact memH | apply memT | apply memA) rfl rfl ?_))
                   (first | refine xo_not rfl rfl ?_ | (refine xo_geq rfl rfl rfl rfl ?_))
                   refine xo_as (i := 172) rfl (congrArg Value.bool hq1) ?_
                   (first | refine xo_not rfl rfl ?_ | (refine xo_mv rfl rfl rfl ?_))
                   (first | refine xo_not rfl rfl ?_ | (refine xo_fa T_ rfl rfl rfl rfl rfl ?_))
                   (first | refine xo_not rfl rfl ?_ | (refine xo_load0 T_ rfl rfl rfl (by repeat first | exact memH | apply memT | apply memA) rfl rfl ?_))
                   (first | refine xo_not rfl rfl ?_ | (refine xo_fa T_ rfl rfl rfl rfl rfl ?_))
                   (first | refine xo_not rfl rfl ?_ | (refine xo_load0 T_ rfl rfl rfl (by repeat first | exact memH | apply memT | apply memA) rfl rfl ?_))
                   (first | refine xo_not rfl rfl ?_ | (refine xo_leq rfl rfl rfl rfl ?_))
                   refine xo_as (i := 178) rfl (congrArg Value.bool hq2) ?_
                   (first | refine xo_not rfl rfl ?_ | (first | refine xo_pickT rfl rfl rfl rfl ?_ | refine xo_pickF rfl rfl rfl rfl ?_))
                   first | refine xo_pickT rfl rfl rfl rfl ?_ | refine xo_pickF rfl rfl rfl rfl ?_
                   refine xo_asg rfl rfl rfl ?_
                   with_reducible (refine xo_nil ?_; (repeat (first | refine xqT ?_ | refine xqB ?_ | refine xqS ?_)); (repeat refine xc_seq ?_); refine xcR ?_)
                   refine xo_add rfl rfl rfl (by omega) rfl ?_
                   refine xo_mv rfl rfl rfl ?_
                   with_reducible (refine xo_nil ?_; (repeat (first | refine xqT ?_ | refine xqB ?_ | refine xqS ?_)))
                   exact xq_again _ _ _ _ _ (j + 1) hltj (by omega) ⟨rfl, rfl, rfl, rfl, rfl, rfl, by rw [hsu]; rfl, rfl, rfl, rfl, rfl, rfl, rfl, trivial⟩ (by repeat (first | exact List.Sublist.refl _ | refine List.Sublist.trans ?_ (List.sublist_cons_self _ _)))
             · with_reducible repeat refine xc_seq ?_
               with_reducible refine xcR ?_
               refine xo_mv rfl rfl rfl ?_
               refine xo_mv rfl rfl rfl ?_
               (first | refine xo_not rfl rfl ?_ | (refine xo_fa T_ rfl rfl rfl rfl rfl ?_))
               (first | refine xo_not rfl rfl ?_ | (refine xo_load0 T_ rfl rfl rfl (by repeat first | exact memH | apply memT | apply memA) rfl rfl ?_))
               (first | refine xo_not rfl rfl ?_ | (refine xo_fa T_ rfl rfl rfl rfl rfl ?_))
               (first | refine xo_not rfl rfl ?_ | (refine xo_load0 T_ rfl rfl rfl (by repeat first | exact memH | apply memT | apply memA) rfl rfl ?_))
               (first | refine xo_not rfl rfl ?_ | (refine xo_geq rfl rfl rfl rfl ?_))
               (first | refine xo_not rfl rfl ?_ | (refine xo_mv rfl rfl rfl ?_))
               (first | refine xo_not rfl rfl ?_ | (refine xo_fa T_ rfl rfl rfl rfl rfl ?_))
               (first | refine xo_not rfl rfl ?_ | (refine xo_load0 T_ rfl rfl rfl (by repeat first | exact memH | apply memT | apply memA) rfl rfl ?_))
               (first | refine xo_not rfl rfl ?_ | (refine xo_fa T_ rfl rfl rfl rfl rfl ?_))
               (first | refine xo_not rfl rfl ?_ | (refine xo_load0 T_ rfl rfl rfl (by repeat first | exact memH | apply memT | apply memA) rfl rfl ?_))
               (first | refine xo_not rfl rfl ?_ | (refine xo_leq rfl rfl rfl rfl ?_))
               (first | refine xo_not rfl rfl ?_ | (first | refine xo_pickT rfl rfl rfl rfl ?_ | refine xo_pickF rfl rfl rfl rfl ?_))
               first | refine xo_pickT rfl rfl rfl rfl ?_ | refine xo_pickF rfl rfl rfl rfl ?_
               refine xo_asg rfl rfl rfl ?_
               with_reducible (refine xo_nil ?_; (repeat (first | refine xqT ?_ | refine xqB ?_ | refine xqS ?_)); (repeat refine xc_seq ?_); refine xcR ?_)
               refine xo_add rfl rfl rfl (by omega) rfl ?_
               refine xo_mv rfl rfl rfl ?_
               with_reducible (refine xo_nil ?_; (repeat (first | refine xqT ?_ | refine xqB ?_ | refine xqS ?_)))
               exact xq_again _ _ _ _ _ (j + 1) hltj (by omega) ⟨rfl, rfl, rfl, rfl, rfl, rfl, by rw [hsu]; rfl, rfl, rfl, rfl, rfl, rfl, rfl, trivial⟩ (by repeat (first | exact List.Sublist.refl _ | refine List.Sublist.trans ?_ (List.sublist_cons_self _ _)))
           · have hge : j = L.length := by have := of_decide_eq_false h; omega
             subst hge
             with_reducible (refine xc_exit ?_; (repeat (first | refine xq_blockX ?_ | refine xq_thenE ?_ | refine xq_blockE rfl ?_ | refine xq_scopeE ?_)); (repeat (first | refine xqT ?_ | refine xqB ?_ | refine xqS ?_)))
             rw [anyS_all L x hin]
             with_reducible ((repeat refine xc_seq ?_); refine xcR ?_)
             refine xo_mv rfl rfl rfl ?_
             refine xo_notOp rfl rfl rfl ?_
             with_reducible (refine xo_nil ?_; (repeat (first | refine xqT ?_ | refine xqB ?_ | refine xqS ?_)); (repeat refine xc_seq ?_))
             refine xc_condF rfl ?_
             with_reducible (refine xc_skip ?_; (repeat (first | refine xqT ?_ | refine xqB ?_ | refine xqS ?_)); (repeat refine xc_seq ?_); refine xcR ?_)
             refine xo_add rfl rfl rfl (by omega) rfl ?_
             refine xo_mv rfl rfl rfl ?_
             with_reducible (refine xo_nil ?_; (repeat (first | refine xqT ?_ | refine xqB ?_ | refine xqS ?_)))
             exact xq_again _ _ _ _ _ (k + 1) hlt (by omega) ⟨rfl, rfl, rfl, rfl, rfl, rfl, rfl, rfl, trivial⟩ (List.nil_sublist _)
       · with_reducible refine xc_exit ?_
         with_reducible ((repeat (first | refine xq_blockX ?_ | refine xq_thenE ?_ | refine xq_blockE rfl ?_ | refine xq_scopeE ?_)); (repeat (first | refine xqT ?_ | refine xqB ?_ | refine xqS ?_)))
         have hss := sure_scene (room := room) (by rw [hM]; exact hrd) hrOK hE6
         have hsm := sure_minutes hsc hss hrOK
         have hl2 : ms.length + 1 = (ms ++ [(⟨last + 1, 3, room, 0, ⟨E, E⟩, 0⟩ : MarT)]).length := by rw [List.length_append]; rfl
         with_reducible ((repeat refine xc_seq ?_); refine xcR ?_)
         refine xo_loadRN T_ rfl rfl rfl h3 rfl rfl ?_
         refine xo_call (fs := []) (cs := []) rfl rfl rfl twin_enters rfl (fun w1 hw1 => (twin_calls R E A B c c2 gs ms w1 (hgr4.below (below_step hw3 hw1.kx.below)) (hmr7.below (below_step hw3 hw1.kx.below)) (C_none hA) (C_none hB) (by omega) (by omega)).mono ?_)
         rintro e w2 ⟨fg, lfg, fm, lfm, rfl, hz⟩
         refine ⟨_, _, rfl, hw1.join hz (fun e he => by simp only [List.mem_cons, List.not_mem_nil, or_false] at he; rcases he with rfl | rfl <;> rfl), ?_⟩
         clear hz hw1
         refine xo_alloc T_ rfl rfl rfl rfl (fun b29 => ?_)
         refine xo_store T_ rfl rfl rfl rfl (by repeat first | exact memH | apply memT | apply memA) rfl rfl rfl rfl (by repeat (first | exact Upd.head | apply Upd.tail | apply Upd.app)) rfl ?_
         with_reducible (refine xo_nil ?_; (repeat (first | refine xqT ?_ | refine xqB ?_ | refine xqS ?_)))
         refine xc_slots [(3, .pointer (some ⟨b3, 0, none⟩)), (7, .bool true), (8, .int .i64 room), (9, .slice A9 L.length c9), (19, .int .i64 last), (29, .pointer (some ⟨b29, 0, none⟩))] ⟨rfl, rfl, rfl, rfl, rfl, rfl, trivial⟩ ?_
         refine xc_sub (η' := [(b29, true, cel (scnV R (some ⟨fg, 0, none⟩) gs.length lfg E (some ⟨fm, 0, none⟩) ms.length lfm) 25), (fm, true, orow 56 7 ms.length lfm (marL ms)), (fg, true, orow 52 4 gs.length lfg (gatL gs))]) (List.Sublist.refl _) ?_
         refine xc_perm (η' := [(fm, true, orow 56 7 ms.length lfm (marL ms)), (b29, true, cel (scnV R (some ⟨fg, 0, none⟩) gs.length lfg E (some ⟨fm, 0, none⟩) ms.length lfm) 25), (fg, true, orow 52 4 gs.length lfg (gatL gs))]) (List.Perm.swap _ _ _) ?_
         with_reducible (repeat refine xc_seq ?_)
         apply xc_drawE (fun g => [(11, .slice (some ⟨(g.getD 0 gv0).b, 0, none⟩) 1 1), (12, .slice (some ⟨(g.getD 1 gv0).b, 0, none⟩) (ms.length + 1) (g.getD 1 gv0).c)]) (fun (η0 : Hp) g => match g with | [] => (η0) | a0 :: [] => ((a0.b, true, cel (marV (⟨last + 1, 3, room, 0, ⟨E, E⟩, 0⟩ : MarT)) 56) :: [(fm, true, orow 56 7 ms.length lfm (marL ms)), (b29, true, cel (scnV R (some ⟨fg, 0, none⟩) gs.length lfg E (some ⟨fm, 0, none⟩) ms.length lfm) 25), (fg, true, orow 52 4 gs.length lfg (gatL gs))]) | a0 :: a1 :: [] => ([(a1.b, true, orow 56 7 (ms.length + 1) a1.c (marL ms ++ marV (⟨last + 1, 3, room, 0, ⟨E, E⟩, 0⟩ : MarT))), (b29, true, cel (scnV R (some ⟨fg, 0, none⟩) gs.length lfg E (some ⟨fm, 0, none⟩) ms.length lfm) 25), (fg, true, orow 52 4 gs.length lfg (gatL gs))]) | a0 :: a1 :: a2 :: _ => ([(a1.b, true, orow 56 7 (ms.length + 1) a1.c (marL ms ++ marV (⟨last + 1, 3, room, 0, ⟨E, E⟩, 0⟩ : MarT))), (b29, true, cel [.int .i64 R, .slice (some ⟨fg, 0, none⟩) gs.length lfg, .int .i64 E, .slice (some ⟨a1.b, 0, none⟩) (ms.length + 1) a1.c] 25), (fg, true, orow 52 4 gs.length lfg (gatL gs))])) (fun _ => True) [0, 0, 0, 0, 0, 0, 0, 0, 0, 0, 0, 1, 2, 2, 3] [11, 12, 14] [[10], [1, 11, 9], [13, 12, 12, 0, 1, 2, 3, 4, 5, 6, 7, 8, 9, 10, 11, 12]] (by trivial)
         apply SameLen.cons
         apply SameLen.cons
         apply SameLen.cons
         apply SameLen.cons
         apply SameLen.cons
         apply SameLen.cons
         apply SameLen.cons
         apply SameLen.cons
         apply SameLen.cons
         apply SameLen.cons
         apply SameLen.cons
         apply SameLen.cons (c := undef)
         apply SameLen.cons (c := undef)
         apply SameLen.cons
         apply SameLen.cons
         exact SameLen.nil
         rotate_left 13
         case hH0 => rfl
         case hmix => exact T_.mixed
         case hbind => rfl
         case hdeps => rfl
         case hdist => rfl
         case hfresh => rfl
         case hE => rfl
         case hEn => decide
         · refine DrawE.pure 0 2 rfl (.inr (by decide)) (fun L g hg hd => Nat.zero_le _) (fun g hlo hhi hF τ => ?_) ?_
           · rcases g with _ | ⟨a0, _ | ⟨a1, _ | ⟨a2, _ | ⟨a3, g⟩⟩⟩⟩ <;> first | (simp only [lenC, lenN] at hlo hhi; omega) | (refine ⟨_, rfl, ?_⟩; refine xo_fa T_ rfl rfl rfl rfl rfl ?_; exact xo_fin rfl)
           refine DrawE.pure 0 1 rfl (.inr (by decide)) (fun L g hg hd => Nat.zero_le _) (fun g hlo hhi hF τ => ?_) ?_
           · rcases g with _ | ⟨a0, _ | ⟨a1, _ | ⟨a2, _ | ⟨a3, g⟩⟩⟩⟩ <;> first | (simp only [lenC, lenN] at hlo hhi; omega) | (refine ⟨_, rfl, ?_⟩; refine xo_load0 T_ rfl rfl rfl (by repeat first | exact memH | apply memT | apply memA) rfl rfl ?_; exact xo_fin rfl)
           refine DrawE.pure 0 2 rfl (.inr (by decide)) (fun L g hg hd => Nat.zero_le _) (fun g hlo hhi hF τ => ?_) ?_
           · rcases g with _ | ⟨a0, _ | ⟨a1, _ | ⟨a2, _ | ⟨a3, g⟩⟩⟩⟩ <;> first | (simp only [lenC, lenN] at hlo hhi; omega) | (refine ⟨_, rfl, ?_⟩; refine xo_mv rfl rfl rfl ?_; exact xo_fin rfl)
           refine DrawE.pure 0 2 rfl (.inr (by decide)) (fun L g hg hd => Nat.zero_le _) (fun g hlo hhi hF τ => ?_) ?_
           · rcases g with _ | ⟨a0, _ | ⟨a1, _ | ⟨a2, _ | ⟨a3, g⟩⟩⟩⟩ <;> first | (simp only [lenC, lenN] at hlo hhi; omega) | (refine ⟨_, rfl, ?_⟩; refine xo_add rfl rfl rfl (by omega) rfl ?_; exact xo_fin rfl)
           refine DrawE.pure 0 2 rfl (.inr (by decide)) (fun L g hg hd => Nat.zero_le _) (fun g hlo hhi hF τ => ?_) ?_
           · rcases g with _ | ⟨a0, _ | ⟨a1, _ | ⟨a2, _ | ⟨a3, g⟩⟩⟩⟩ <;> first | (simp only [lenC, lenN] at hlo hhi; omega) | (refine ⟨_, rfl, ?_⟩; refine xo_mv rfl rfl rfl ?_; exact xo_fin rfl)
           refine DrawE.pure 0 2 rfl (.inr (by decide)) (fun L g hg hd => Nat.zero_le _) (fun g hlo hhi hF τ => ?_) ?_
           · rcases g with _ | ⟨a0, _ | ⟨a1, _ | ⟨a2, _ | ⟨a3, g⟩⟩⟩⟩ <;> first | (simp only [lenC, lenN] at hlo hhi; omega) | (refine ⟨_, rfl, ?_⟩; refine xo_fa T_ rfl rfl rfl rfl rfl ?_; exact xo_fin rfl)
           refine DrawE.pure 0 2 rfl (.inr (by decide)) (fun L g hg hd => Nat.zero_le _) (fun g hlo hhi hF τ => ?_) ?_
           · rcases g with _ | ⟨a0, _ | ⟨a1, _ | ⟨a2, _ | ⟨a3, g⟩⟩⟩⟩ <;> first | (simp only [lenC, lenN] at hlo hhi; omega) | (refine ⟨_, rfl, ?_⟩; refine xo_loadR0 T_ rfl rfl rfl (h3.lit (j := 2) rfl) rfl ?_; exact xo_fin rfl)
           refine DrawE.pure 0 2 rfl (.inr (by decide)) (fun L g hg hd => Nat.zero_le _) (fun g hlo hhi hF τ => ?_) ?_
           · rcases g with _ | ⟨a0, _ | ⟨a1, _ | ⟨a2, _ | ⟨a3, g⟩⟩⟩⟩ <;> first | (simp only [lenC, lenN] at hlo hhi; omega) | (refine ⟨_, rfl, ?_⟩; refine xo_fa T_ rfl rfl rfl rfl rfl ?_; exact xo_fin rfl)
           refine DrawE.pure 0 2 rfl (.inr (by decide)) (fun L g hg hd => Nat.zero_le _) (fun g hlo hhi hF τ => ?_) ?_
           · rcases g with _ | ⟨a0, _ | ⟨a1, _ | ⟨a2, _ | ⟨a3, g⟩⟩⟩⟩ <;> first | (simp only [lenC, lenN] at hlo hhi; omega) | (refine ⟨_, rfl, ?_⟩; refine xo_loadR0 T_ rfl rfl rfl (h3.lit (j := 2) rfl) rfl ?_; exact xo_fin rfl)
           refine DrawE.pure 0 1 rfl (.inr (by decide)) (fun L g hg hd => Nat.zero_le _) (fun g hlo hhi hF τ => ?_) ?_
           · rcases g with _ | ⟨a0, _ | ⟨a1, _ | ⟨a2, _ | ⟨a3, g⟩⟩⟩⟩ <;> first | (simp only [lenC, lenN] at hlo hhi; omega) | (refine ⟨_, rfl, ?_⟩; refine xo_callB (fs := []) (cs := []) rfl rfl rfl span_enters rfl (fun w1 hw1 => span_calls E E w1) ?_; exact xo_fin rfl)
           refine DrawE.pure 0 0 rfl (.inr (by decide)) (fun L g hg hd => Nat.zero_le _) (fun g hlo hhi hF τ => ?_) ?_
           · rcases g with _ | ⟨a0, _ | ⟨a1, _ | ⟨a2, _ | ⟨a3, g⟩⟩⟩⟩ <;> first | (simp only [lenC, lenN] at hlo hhi; omega) | (refine ⟨_, rfl, ?_⟩; refine xo_build TB_ rfl rfl rfl rfl rfl ?_; exact xo_fin rfl)
           refine DrawE.eff 0 rfl (by decide) rfl (fun j hj => hj) (fun j g a hj => ?_) (fun L g hg hd => Nat.zero_le _) (fun g hgl hF τ => ?_) ?_
           · rcases j with _ | _ | _ | _ | _ | _ | _ | _ | _ | _ | _ | _ | _ | _ | _ | j
             all_goals first | rfl | (rcases g with _ | ⟨a0, _ | ⟨a1, _ | ⟨a2, _ | ⟨a3, g⟩⟩⟩⟩ <;> first | rfl | exact absurd hj (by decide) | exact absurd hj (by simp [List.getD]))
           · obtain rfl : g = [] := by
               rcases g with _ | ⟨a0, g⟩ <;> first | rfl | (exfalso; simp only [List.length_cons, List.length_nil] at hgl; omega)
             refine xo_bsG T_ 7 rfl rfl rfl rfl rfl rfl rfl rfl rfl rfl (fun b99 => ?_)
             exact xo_finE ⟨b99, 0, none⟩ rfl trivial
           refine DrawE.eff 1 rfl (by decide) rfl (fun j hj => hj) (fun j g a hj => ?_) (fun L g hg hd => hg.2.1 11 (hd 11 (by decide))) (fun g hgl hF τ => ?_) ?_
           · rcases j with _ | _ | _ | _ | _ | _ | _ | _ | _ | _ | _ | _ | _ | _ | _ | j
             all_goals first | rfl | (rcases g with _ | ⟨a0, _ | ⟨a1, _ | ⟨a2, _ | ⟨a3, g⟩⟩⟩⟩ <;> first | rfl | exact absurd hj (by decide) | exact absurd hj (by simp [List.getD]))
           · obtain ⟨a0, rfl⟩ : ∃ a0, g = [a0] := by
               rcases g with _ | ⟨a0, _ | ⟨a1, _ | ⟨a2, _ | ⟨a3, g⟩⟩⟩⟩ <;> first | exact ⟨_, rfl⟩ | rfl | (exfalso; simp only [List.length_cons, List.length_nil] at hgl; omega)
             refine xo_app TR_ (r := some (fm, lfm)) (m := ms.length) (xs := marL ms) (η0 := [(b29, true, cel (scnV R (some ⟨fg, 0, none⟩) gs.length lfg E (some ⟨fm, 0, none⟩) ms.length lfm) 25), (fg, true, orow 52 4 gs.length lfg (gatL gs))]) rfl rfl rfl rfl rfl rfl rfl rfl (marL_len ms) rfl rfl (fun h => by cases h) (by omega) rfl rfl (fun r99 hr99 => ?_)
             rcases r99 with _ | ⟨b99, k99⟩
             · exact absurd rfl hr99
             exact xo_finE ⟨b99, k99, none⟩ rfl trivial
           refine DrawE.pure 2 2 rfl (.inr (by decide)) (fun L g hg hd => hg.2.1 12 (hd 12 (by decide))) (fun g hlo hhi hF τ => ?_) ?_
           · rcases g with _ | ⟨a0, _ | ⟨a1, _ | ⟨a2, _ | ⟨a3, g⟩⟩⟩⟩ <;> first | (simp only [lenC, lenN] at hlo hhi; omega) | (refine ⟨_, rfl, ?_⟩; refine xo_fa T_ rfl rfl rfl rfl rfl ?_; exact xo_fin rfl)
           refine DrawE.eff 2 rfl (by decide) rfl (fun j hj => hj) (fun j g a hj => ?_) (fun L g hg hd => hg.2.1 13 (hd 13 (by decide))) (fun g hgl hF τ => ?_) ?_
           · rcases j with _ | _ | _ | _ | _ | _ | _ | _ | _ | _ | _ | _ | _ | _ | _ | j
             all_goals first | rfl | (rcases g with _ | ⟨a0, _ | ⟨a1, _ | ⟨a2, _ | ⟨a3, g⟩⟩⟩⟩ <;> first | rfl | exact absurd hj (by decide) | exact absurd hj (by simp [List.getD]))
           · obtain ⟨a0, a1, rfl⟩ : ∃ a0 a1, g = [a0, a1] := by
               rcases g with _ | ⟨a0, _ | ⟨a1, _ | ⟨a2, _ | ⟨a3, g⟩⟩⟩⟩ <;> first | exact ⟨_, _, rfl⟩ | rfl | (exfalso; simp only [List.length_cons, List.length_nil] at hgl; omega)
             refine xo_store T_ rfl rfl rfl rfl (by repeat first | exact memH | apply memT | apply memA) rfl rfl rfl rfl (by repeat (first | exact Upd.head | apply Upd.tail | apply Upd.app)) rfl ?_
             exact xo_finE ⟨0, 0, none⟩ rfl trivial
           exact DrawE.nil
         intro g hgl hF
         obtain ⟨a0, a1, a2, rfl⟩ : ∃ a0 a1 a2, g = [a0, a1, a2] := by
           rcases g with _ | ⟨a0, _ | ⟨a1, _ | ⟨a2, _ | ⟨a3, g⟩⟩⟩⟩ <;> first | exact ⟨_, _, _, rfl⟩ | (exfalso; simp only [List.length_cons, List.length_nil] at hgl; omega)
         with_reducible (repeat (first | refine xqT ?_ | refine xqB ?_ | refine xqS ?_))
         refine xc_slots [(3, .pointer (some ⟨b3, 0, none⟩)), (7, .bool true), (8, .int .i64 room), (9, .slice A9 L.length c9), (19, .int .i64 last), (29, .pointer (some ⟨b29, 0, none⟩))] ⟨rfl, rfl, rfl, rfl, rfl, rfl, trivial⟩ ?_
         refine xc_sub (η' := [(a1.b, true, orow 56 7 (ms.length + 1) a1.c (marL ms ++ marV (⟨last + 1, 3, room, 0, ⟨E, E⟩, 0⟩ : MarT))), (b29, true, cel [.int .i64 R, .slice (some ⟨fg, 0, none⟩) gs.length lfg, .int .i64 E, .slice (some ⟨a1.b, 0, none⟩) (ms.length + 1) a1.c] 25), (fg, true, orow 52 4 gs.length lfg (gatL gs))]) (List.Sublist.refl _) ?_
         rw [← marL_app, hl2]
         have hbS : BytesK (ms ++ [(⟨last + 1, 3, room, 0, ⟨E, E⟩, 0⟩ : MarT)]) := fun m hm => by
           rcases List.mem_append.1 hm with hm | hm
           · exact hk m hm
           · rw [List.mem_singleton.1 hm]; simp only; omega
         have hlS : (ms ++ [(⟨last + 1, 3, room, 0, ⟨E, E⟩, 0⟩ : MarT)]).length ≤ 1000000 := by rw [← hl2]; omega
         rw [hLL] at hsm
         generalize ms ++ [(⟨last + 1, 3, room, 0, ⟨E, E⟩, 0⟩ : MarT)] = Z at hbS hlS hsm ⊢
         with_reducible ((repeat refine xc_seq ?_); refine xcR ?_)
         refine xo_loadN T_ rfl rfl rfl (by repeat first | exact memH | apply memT | apply memA) rfl rfl ?_
         refine xo_mv rfl rfl rfl ?_
         refine xo_call (fs := []) (cs := []) rfl rfl rfl Minutes_enters rfl (fun w1 hw1 => (Minutes_calls R E _ _ lfg a1.c gs Z room w1 (own_scene hw1 (by omega) hlS hbS (hglob.below (below_step hw3 hw1.kx.below)) (by repeat first | exact memH | apply memT | apply memA) (by repeat first | exact memH | apply memT | apply memA))).mono ?_)
         rw [hsm.1, hsm.2]
         rintro e w2 ⟨r30, rfl, hrw, hb⟩
         have hh30 := hrw.1
         refine ⟨_, _, rfl, hw1.rowZ hb hrw, ?_⟩
         clear hrw hb hw1
         refine xo_mv rfl rfl rfl ?_
         refine xo_ext rfl rfl rfl rfl ?_
         refine xo_ext rfl rfl rfl rfl ?_
         refine xo_asg rfl rfl rfl ?_
         refine xo_asg rfl rfl rfl ?_
         with_reducible (refine xo_nil ?_; (repeat (first | refine xqT ?_ | refine xqB ?_ | refine xqS ?_)))
         have e215 : eqL L L = true := eqL_true rfl
         refine xc_slots [(7, .bool true), (9, .slice A9 L.length c9), (30, .slice (valA r30) L.length (valC r30)), (31, .int .i64 0)] ⟨rfl, rfl, congrArg some (valR_eq hh30), rfl, trivial⟩ ?_
         with_reducible ((repeat refine xc_seq ?_); refine xcR ?_)
         refine xo_mv rfl rfl rfl ?_
         refine xo_mv rfl rfl rfl ?_
         (first | refine xo_not rfl rfl ?_ | (refine xo_mv rfl rfl rfl ?_))
         (first | refine xo_not rfl rfl ?_ | (refine xo_eql rfl rfl rfl rfl ?_))
         first | refine xo_pickT rfl rfl rfl rfl ?_ | refine xo_pickF rfl rfl rfl rfl ?_
         refine xo_mv rfl rfl rfl ?_
         (first | refine xo_not rfl rfl ?_ | (refine xo_mv rfl rfl rfl ?_))
         (first | refine xo_not rfl rfl ?_ | (refine xo_mv rfl rfl rfl ?_))
         (first | refine xo_not rfl rfl ?_ | (refine xo_callB (fs := []) (cs := []) rfl rfl rfl sameSpans_enters rfl (fun w1 hw1 => sameSpans_calls (valA r30) A9 (valC r30) c9 L L w1 (spansAt_row (hw1.bl_of (fun e he => by repeat (first | exact he | exact List.mem_append_left _ he | apply List.mem_append_right | apply List.Mem.tail))) hh30) (hs9.below hw1.kx.below) (by omega)) ?_))
         refine xo_as (i := 215) rfl (congrArg Value.bool e215) ?_
         first | refine xo_pickT rfl rfl rfl rfl ?_ | refine xo_pickF rfl rfl rfl rfl ?_
         refine xo_asg rfl rfl rfl ?_
         with_reducible (refine xo_nil ?_; (repeat (first | refine xqT ?_ | refine xqB ?_ | refine xqS ?_)); (repeat refine xc_seq ?_); refine xc_ret ?_; (repeat (first | refine xq_thenR ?_ | refine xq_blockR ?_ | refine xq_scopeR ?_)))
         exact xq_ret1 rfl rfl fun w' hw => ⟨rfl, below_step hw3 hw.kx.below⟩
end Go.Proofs.YtommeljlfkmpjaaGreatDoor
namespace Go.Proofs.YtommeljlfkmpjaaGreatDoor
open Go.ChangeShapes Go.WideShapes Go.RowKit
set_option linter.unusedVariables false
set_option linter.unusedSimpArgs false
def laidL : List (String × DataW Unit) := [("cottonpad/origin.nowhere", Rows.laid_cottonpad_origin_nowhere)]
theorem gNow : Tryz.prog.globalNamed "cottonpad/origin.nowhere" = some 0 := by kernel_rfl
theorem tNow : (Tryz.prog.globals[0]?).map (·.type) = some 45 := by kernel_rfl
theorem door_met (os : Os) (args : Array Value) : laidMetH Tryz.prog laidL ((World.doorLaid Tryz.prog 400 os).forCall (fun _ _ => 0) ⟨#[], args, []⟩).memory :=
 laidMetH_of_parts3 (fuel := 8) (laidMet_of_run' 8 (by kernel_rfl) (by kernel_rfl)) (by kernel_rfl) (by kernel_rfl)
theorem trod_pair {P : Program} {H : Type} {enc : TypeId × Value → H} {w : World} {fuel : Nat} {bb : Bool} {t ta tb : TypeId} {f g : Field} {a b : Value} {d : DataW H} {ps : List MemPlace}
   (ht : P.underlying t = some (.struct #[f, g])) (h1 : f.type = ta) (h2 : f.offset = 0) (h3 : g.type = tb) (h4 : g.offset = 1) (hA : P.cellsOf ta = 1) (hB : P.cellsOf tb = 1)
   (h : DataW.trod enc P w 0 (fun _ => true) bb (fuel + 1) t [a, b] = some (d, ps)) :
   ∃ x y, DataW.trod enc P w 0 (fun _ => true) bb fuel ta [a] = some x ∧ DataW.trod enc P w 0 (fun _ => true) bb fuel tb [b] = some y ∧ d = .agg [x.1, y.1] := by
 unfold DataW.trod at h
 rw [ht] at h
 simp only [List.length_cons, List.length_nil] at h
 split at h
 · simp only [List.mapM_cons, List.mapM_nil, h1, h2, h3, h4, hA, hB, List.drop_zero, List.take_succ_cons, List.take_zero, List.drop_succ_cons, Option.map_eq_some_iff] at h
   obtain ⟨xs, h, e⟩ := h
   cases hx : DataW.trod enc P w 0 (fun _ => true) bb fuel ta [a] with
   | none => simp [hx] at h
   | some x =>
     cases hy : DataW.trod enc P w 0 (fun _ => true) bb fuel tb [b] with
     | none => simp [hx, hy] at h
     | some y =>
       simp [hx, hy] at h
       subst h
       simp at e
       exact ⟨x, y, rfl, rfl, e.1.symm⟩
 · simp at h
theorem trod_lenS {P : Program} {H : Type} {enc : TypeId × Value → H} {w : World} {fuel : Nat} {bb : Bool} {t : TypeId} {fs : Array Field} {l : List Value} {x : DataW H × List MemPlace}
   (ht : P.underlying t = some (.struct fs)) (h : DataW.trod enc P w 0 (fun _ => true) bb fuel t l = some x) : l.length = P.cellsOf t := by
 cases fuel with
 | zero => simp [DataW.trod] at h
 | succ m =>
   by_cases hl : l.length = P.cellsOf t
   · exact hl
   · exfalso
     unfold DataW.trod at h
     rw [ht] at h
     simp [hl] at h
theorem trod_int {P : Program} {H : Type} {enc : TypeId × Value → H} {w : World} {fuel : Nat} {bb : Bool} {t : TypeId} {k : IntKind} {a : Value} {n : Int} {ps : List MemPlace} (hu : P.underlying t = some (.int k))
   (h : DataW.trod enc P w 0 (fun _ => true) bb fuel t [a] = some (.lit (.int .i64 n), ps)) : a = .int .i64 n := by
 cases fuel with
 | zero => simp [DataW.trod] at h
 | succ fuel =>
   unfold DataW.trod at h
   rw [hu] at h
   split at h <;> simp_all
set_option maxRecDepth 100000 in
theorem glob_of_laid {W : World} (h : laidMetH Tryz.prog laidL W) : GlobO W := by
 have h' : laidMet Tryz.prog laidL W := h
 obtain ⟨ps, ⟨g, t, cs, fuel, p, q, hg, ht, hv, hd, _, _⟩, _, _⟩ := h'
 obtain rfl := Option.some.inj (gNow.symm.trans hg)
 obtain rfl := Option.some.inj (tNow.symm.trans ht)
 have hd' : DataW.trod (fun _ => ()) Tryz.prog W 0 (fun _ => true) false fuel 45 cs.toList = some (.agg [.lit (.int .i64 1073741824), .lit (.int .i64 (-1073741824))], p) := hd
 have hlen : cs.toList.length = 2 := (trod_lenS Tryz.underlying45 hd').trans (by kernel_rfl)
 obtain ⟨l⟩ := cs
 match l, hlen with
 | [a, b], _ =>
   cases fuel with
   | zero => simp [DataW.trod] at hd'
   | succ n =>
     obtain ⟨x, y, hx, hy, e⟩ := trod_pair (ta := 3) (tb := 3) Tryz.underlying45 rfl rfl rfl rfl (by kernel_rfl) (by kernel_rfl) hd'
     simp only [DataW.agg.injEq, List.cons.injEq, and_true] at e
     obtain ⟨x1, x2⟩ := x
     obtain ⟨y1, y2⟩ := y
     simp only at e
     obtain ⟨rfl, rfl⟩ := e
     obtain rfl := trod_int Tryz.underlying3 hx
     obtain rfl := trod_int Tryz.underlying3 hy
     unfold World.var? at hv
     rw [gNow] at hv
     simp only [Option.bind_some] at hv
     cases hh : W.heap[0]? with
     | none => simp [hh] at hv
     | some o =>
       cases o <;> simp [hh] at hv
       subst hv
       refine ro_of fun j v hj => ?_
       rw [Addr.add_lit, Nat.zero_add]
       unfold World.cell?
       rw [hh]
       have hj' : ([.int .i64 1073741824, .int .i64 (-1073741824)] : List Value)[j]? = some v := hj
       simpa using hj'
end Go.Proofs.YtommeljlfkmpjaaGreatDoor
