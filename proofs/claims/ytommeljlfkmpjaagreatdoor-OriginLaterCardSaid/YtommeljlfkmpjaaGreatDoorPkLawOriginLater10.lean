/- ref09: Scene, Check, Same, Twin, every. / ref09: Check, Same, Twin, members, shorter, leas -/
import Derived.Test.YtommeljlfkmpjaaGreatDoorPkLawOriginLater9
import Derived.Test.YtommeljlfkmpjaaGreatDoorPkLawOriginLater3
import Derived.Test.YtommeljlfkmpjaaGreatDoorPkLawOriginLater4
set_option linter.unusedVariables false
set_option linter.unusedSimpArgs false
namespace Go.Proofs.YtommeljlfkmpjaaGreatDoor
open Go.RowKit Go.Proofs.YtommeljlfkmpjaaGreatDoorW.PrintWords
def gateB (R : Int) (g : GatT) : Bool := inF 0 (R - 1) g.f0 && inF 0 (R - 1) g.f1 && !decide (g.f0 = g.f1) && inF 0 60 g.f2.f0 && inF g.f2.f0 (g.f2.f0 + 2) g.f2.f1 && !decide (60 < g.f2.f1)
def marksB (R : Int) : Int → List MarT → Bool
 | _, [] => true
 | last, m :: ms => (markB R m && decide (last < m.f0)) && marksB R m.f0 ms
def sceneB (R E : Int) (gs : List GatT) (ms : List MarT) : Bool := !(!inF 1 6 R || !inF 0 600 E || decide ((6 : Int) < gs.length) || decide ((8 : Int) < ms.length)) && gs.all (gateB R) && marksB R (-1) ms
theorem gate_same (R : Int) (g : GatT) : gateB R g = gateF R g := by
 rw [Bool.eq_iff_iff]
 simp only [gateB, gateF, inF, Bool.and_eq_true, Bool.not_eq_true', decide_eq_true_eq, decide_eq_false_iff_not]
 omega
theorem kind_same (R : Int) (m : MarT) (h : inF 1 6 m.f1 = true) : kindB R m = kindF R m := by
 have h1 := inF_iff.1 h
 unfold kindB kindF
 rw [Bool.eq_iff_iff]
 by_cases c1 : m.f1 ≤ 3
 ·rw [if_pos (show m.f1 = 1 ∨ m.f1 = 2 ∨ m.f1 = 3 by omega), if_pos c1]
  simp only [timedF, inF, Bool.and_eq_true, decide_eq_true_eq]
  omega
 ·rw [if_neg (show ¬ (m.f1 = 1 ∨ m.f1 = 2 ∨ m.f1 = 3) by omega), if_neg c1]
  by_cases c2 : m.f1 ≤ 5
  ·rw [if_pos (show m.f1 = 4 ∨ m.f1 = 5 by omega), if_pos c2]
   simp only [lastingF, noneF, noneB, inF, Bool.and_eq_true, decide_eq_true_eq]
   omega
  ·rw [if_neg (show ¬ (m.f1 = 4 ∨ m.f1 = 5) by omega), if_neg c2, if_pos (show m.f1 = 6 by omega)]
   simp only [beforeF, noneF, noneB, inF, Bool.and_eq_true, Bool.not_eq_true', decide_eq_true_eq, decide_eq_false_iff_not]
   omega
theorem kindB_in {R : Int} {m : MarT} (h : kindB R m = true) : inF 1 6 m.f1 = true := by
 unfold kindB at h
 refine inF_iff.2 ?_
 split at h
 ·omega
 ·split at h
  ·omega
  ·split at h
   ·omega
   ·cases h
theorem marks_same (R : Int) : ∀ (ms : List MarT) (last : Int), -1 ≤ last → marksB R last ms = marksF R last ms
 | [], _, _ => rfl
 | m :: ms, last, hl => by
  rw [marksB, marksF]
  cases h1 : (markB R m && decide (last < m.f0))
  ·cases h2 : (inF (last + 1) 9999 m.f0 && inF 0 (R - 1) m.f2 && inF 1 6 m.f1 && kindF R m)
   ·rfl
   ·exfalso
    simp only [Bool.and_eq_true] at h2
    have q := inF_iff.1 h2.1.1.1
    rw [← kind_same R m h2.1.2] at h2
    have : (markB R m && decide (last < m.f0)) = true := by
     simp only [markB, Bool.and_eq_true, decide_eq_true_eq]
     exact ⟨⟨⟨inF_iff.2 (by omega), h2.1.1.2⟩, h2.2⟩, by omega⟩
    rw [h1] at this
    cases this
  ·simp only [markB, Bool.and_eq_true, decide_eq_true_eq] at h1
   have q := inF_iff.1 h1.1.1.1
   have k := kindB_in h1.1.2
   have e : (inF (last + 1) 9999 m.f0 && inF 0 (R - 1) m.f2 && inF 1 6 m.f1 && kindF R m) = true := by
    rw [← kind_same R m k]
    simp only [Bool.and_eq_true]
    exact ⟨⟨⟨inF_iff.2 (by omega), h1.1.1.2⟩, k⟩, h1.1.2⟩
   rw [e, Bool.true_and, Bool.true_and]
   exact marks_same R ms m.f0 (by omega)
theorem scene_same (R E : Int) (gs : List GatT) (ms : List MarT) : sceneB R E gs ms = sceneF R E gs ms := by
 unfold sceneB sceneF
 rw [marks_same R ms (-1) (by omega), show gateB R = gateF R from funext fun g => gate_same R g]
 congr 2
 rw [Bool.eq_iff_iff]
 simp only [Bool.not_eq_true', Bool.or_eq_false_iff, Bool.not_eq_false', Bool.and_eq_true, decide_eq_true_eq, decide_eq_false_iff_not]
 constructor
 ·rintro ⟨⟨⟨h1, h2⟩, h3⟩, h4⟩
  exact ⟨⟨⟨h1, h2⟩, by omega⟩, by omega⟩
 ·rintro ⟨⟨⟨h1, h2⟩, h3⟩, h4⟩
  exact ⟨⟨⟨h1, h2⟩, by omega⟩, by omega⟩
theorem marksB_step (R : Int) {ms : List MarT} {k : Nat} (hk : k < ms.length) (last : Int) : marksB R last (ms.drop k) = ((markB R (ms.getD k zMar) && decide (last < (ms.getD k zMar).f0)) && marksB R (ms.getD k zMar).f0 (ms.drop (k + 1))) := by
 rw [drop_at ms zMar k hk, marksB]
def lastId (ms : List MarT) (k : Nat) : Int := if k = 0 then -1 else (ms.getD (k - 1) zMar).f0
set_option maxHeartbeats 8000000 in
theorem scene_calls (R E : Int) (A B : Option Addr) (c c2 : Nat) (gs : List GatT) (ms : List MarT) (w : World) (hA : RowOf gatV 4 zGat w A gs) (hM : RowOf marV 7 zMar w B ms) :
  Calls Tryz.prog 39 #[.agg (scnV R A gs.length c E B ms.length c2).toArray] w fun e w' => e = .returned (.bool (sceneF R E gs ms)) ∧ Below w.heap.size w w' := by
 rw [← scene_same]
 unfold sceneB
 refine x_calls (X := XNone) Tryz.func39 rfl rfl rfl ?_
 with_reducible ((repeat apply xc_seq); apply xcR)
 refine xo_box rfl rfl rfl rfl (fun b1 => ?_)
 refine xoA ?_
 with_reducible (apply xo_nil; (repeat first | apply xqT | apply xqB | apply xqS); (repeat apply xc_seq))
 refine xc_meet2 (γ := Unit) (fun _ => True) (fun _ => [(1, .pointer (some ⟨b1, 0, none⟩)), (27, .bool (!inF 1 6 R || !inF 0 600 E || decide ((6 : Int) < gs.length) || decide ((8 : Int) < ms.length)))]) (fun _ => [(b1, true, cel (scnV R A gs.length c E B ms.length c2) 25)]) ?_ (fun _ _ => ?_)
 ·with_reducible apply xcR
  refine xo_fa T_ rfl rfl rfl rfl rfl ?_
  refine xo_load0 T_ rfl rfl rfl (by repeat first | exact mH | apply mT | apply mA) rfl rfl ?_
  refine xo_callB (fs := []) (cs := []) rfl rfl rfl within_enters rfl (fun w1 hw1 => within_calls R 1 6 w1) ?_
  refine xo_notOp rfl rfl rfl ?_
  refine xoM ?_
  first
   | refine xo_lit (i := 10) (b := true) rfl ?_
   | refine xo_lit (i := 10) (b := false) rfl ?_
   | refine xo_split (i := 10) rfl rfl (fun h10 => ?_) (fun h10 => ?_)
  all_goals
   try simp only [decide_eq_true_eq, decide_eq_false_iff_not] at h10
   (first | refine xoN ?_ | refine xo_fa T_ rfl rfl rfl rfl rfl ?_)
   (first | refine xoN ?_ | refine xo_load0 T_ rfl rfl rfl (by repeat first | exact mH | apply mT | apply mA) rfl rfl ?_)
   (first | refine xoN ?_ | refine xo_callB (fs := []) (cs := []) rfl rfl rfl within_enters rfl (fun w1 hw1 => within_calls E 0 600 w1) ?_)
   (first | refine xoN ?_ | refine xo_notOp rfl rfl rfl ?_)
   first | refine xo_pickT rfl rfl rfl rfl ?_ | refine xo_pickF rfl rfl rfl rfl ?_
   refine xoM ?_
   first
    | refine xo_lit (i := 16) (b := true) rfl ?_
    | refine xo_lit (i := 16) (b := false) rfl ?_
    | refine xo_split (i := 16) rfl rfl (fun h16 => ?_) (fun h16 => ?_)
   all_goals
    try simp only [decide_eq_true_eq, decide_eq_false_iff_not] at h16
    (first | refine xoN ?_ | refine xo_fa T_ rfl rfl rfl rfl rfl ?_)
    (first | refine xoN ?_ | refine xo_load0 T_ rfl rfl rfl (by repeat first | exact mH | apply mT | apply mA) rfl rfl ?_)
    (first | refine xoN ?_ | refine xo_len T_ rfl rfl rfl rfl ?_)
    (first | refine xoN ?_ | refine xo_gtr rfl rfl rfl rfl ?_)
    first | refine xo_pickT rfl rfl rfl rfl ?_ | refine xo_pickF rfl rfl rfl rfl ?_
    refine xoM ?_
    first
     | refine xo_lit (i := 22) (b := true) rfl ?_
     | refine xo_lit (i := 22) (b := false) rfl ?_
     | refine xo_split (i := 22) rfl rfl (fun h22 => ?_) (fun h22 => ?_)
    all_goals
     try simp only [decide_eq_true_eq, decide_eq_false_iff_not] at h22
     (first | refine xoN ?_ | refine xo_fa T_ rfl rfl rfl rfl rfl ?_)
     (first | refine xoN ?_ | refine xo_load0 T_ rfl rfl rfl (by repeat first | exact mH | apply mT | apply mA) rfl rfl ?_)
     (first | refine xoN ?_ | refine xo_len T_ rfl rfl rfl rfl ?_)
     (first | refine xoN ?_ | refine xo_gtr rfl rfl rfl rfl ?_)
     first | refine xo_pickT rfl rfl rfl rfl ?_ | refine xo_pickF rfl rfl rfl rfl ?_
     with_reducible apply xo_nil
     exact xq_meet (fun _ => True) _ _ () trivial ⟨(by first | rfl | exact congrArg (fun b => some (Value.bool b)) (by first | simp [h10, h16, h22] | simp [h10, h16] | simp [h10] | simp [])), (by first | rfl | exact congrArg (fun b => some (Value.bool b)) (by first | simp [h10, h16, h22] | simp [h10, h16] | simp [h10] | simp [])), trivial⟩ (by repeat (first | exact List.Sublist.refl _ | apply List.Sublist.cons_cons | apply List.Sublist.cons | exact List.nil_sublist _))
 with_reducible (repeat first | apply xqT | apply xqB | apply xqS)
 cases h1 : (!inF 1 6 R || !inF 0 600 E || decide ((6 : Int) < gs.length) || decide ((8 : Int) < ms.length))
 rotate_left
 ·with_reducible repeat apply xc_seq
  refine xc_condT rfl ?_
  with_reducible ((repeat apply xc_seq); apply xcR)
  refine xoA ?_
  with_reducible (apply xo_nil; (repeat first | apply xqT | apply xqB | apply xqS); (repeat apply xc_seq); apply xc_ret; (repeat (first | apply xq_thenR | apply xq_blockR | apply xq_scopeR)))
  exact xq_ret1 rfl rfl fun w' hw => ⟨rfl, hw.kx.below⟩
 have hb : (1 ≤ R ∧ R ≤ 6) ∧ (0 ≤ E ∧ E ≤ 600) ∧ gs.length ≤ 6 ∧ ms.length ≤ 8 := by
  simp only [Bool.or_eq_false_iff, Bool.not_eq_false', decide_eq_false_iff_not] at h1
  exact ⟨inF_iff.1 h1.1.1.1, inF_iff.1 h1.1.1.2, by omega, by omega⟩
 clear h1
 obtain ⟨hR, hE, hg6, hm8⟩ := hb
 rw [Bool.not_false, Bool.true_and]
 with_reducible (repeat apply xc_seq)
 refine xc_condF rfl ?_
 with_reducible (apply xc_skip; (repeat first | apply xqT | apply xqB | apply xqS); (repeat apply xc_seq); apply xcR)
 refine xoA ?_
 with_reducible (apply xo_nil; (repeat first | apply xqT | apply xqB | apply xqS); (repeat apply xc_seq); apply xc_block)
 refine xc_loop (γ := Nat) (fun k => k ≤ gs.length ∧ ∀ j, j < k → gateB R (gs.getD j zGat) = true) (fun k => [(1, .pointer (some ⟨b1, 0, none⟩)), (3, .int .i64 (k : Int))]) (fun _ => [(b1, true, cel (scnV R A gs.length c E B ms.length c2) 25)]) (fun k => gs.length - k) 0 ⟨Nat.zero_le _, fun j hj => absurd hj (Nat.not_lt_zero _)⟩ ⟨rfl, rfl, trivial⟩ (List.Sublist.refl _) ?_
 rintro k ⟨hk, hall⟩
 with_reducible ((repeat apply xc_seq); apply xcR)
 refine xoM ?_
 refine xo_fa T_ rfl rfl rfl rfl rfl ?_
 refine xo_load0 T_ rfl rfl rfl (by repeat first | exact mH | apply mT | apply mA) rfl rfl ?_
 refine xo_len T_ rfl rfl rfl rfl ?_
 refine xo_lss rfl rfl rfl rfl ?_
 with_reducible (apply xo_nil; (repeat first | apply xqT | apply xqB | apply xqS); (repeat apply xc_seq))
 refine xc_cond rfl (fun h => ?_) (fun h => ?_)
 ·have hlt : k < gs.length := by have := of_decide_eq_true h; omega
  obtain ⟨ad, rfl, q1⟩ := hA k hlt
  have hmem := getD_mem gs zGat k hlt
  have hsk : gateB R (gs.getD k zGat) = true → ∀ j, j < k + 1 → gateB R (gs.getD j zGat) = true := fun h j hj => by
   by_cases e : j = k
   ·subst e; exact h
   ·exact hall j (by omega)
  generalize hgk : gs.getD k zGat = g at q1 hsk hmem
  with_reducible (apply xc_skip; (repeat first | apply xqT | apply xqB | apply xqS); (repeat apply xc_seq); apply xc_block; (repeat apply xc_seq); apply xcR)
  refine xo_fa T_ rfl rfl rfl rfl rfl ?_
  refine xo_load0 T_ rfl rfl rfl (by repeat first | exact mH | apply mT | apply mA) rfl rfl ?_
  refine xoM ?_
  refine xo_ia T_ rfl rfl rfl rfl rfl ⟨by omega, by omega⟩ rfl ?_
  refine xo_loadRN T_ rfl rfl rfl q1 rfl rfl ?_
  refine xo_alloc T_ rfl rfl rfl rfl (fun b4 => ?_)
  refine xo_store T_ rfl rfl rfl rfl (by repeat first | exact mH | apply mT | apply mA) rfl rfl rfl rfl (by repeat first | exact Upd.head | apply Upd.tail | apply Upd.app) rfl ?_
  with_reducible (apply xo_nil; (repeat first | apply xqT | apply xqB | apply xqS); (repeat apply xc_seq))
  refine xc_meet2 (γ := Unit) (fun _ => True) (fun _ => [(1, .pointer (some ⟨b1, 0, none⟩)), (3, .int .i64 (k : Int)), (89, .bool (!gateB R g))]) (fun _ => [(b1, true, cel (scnV R (some ad) gs.length c E B ms.length c2) 25)]) ?_ (fun _ _ => ?_)
  ·with_reducible apply xcR
   refine xo_fa T_ rfl rfl rfl rfl rfl ?_
   refine xo_load0 T_ rfl rfl rfl (by repeat first | exact mH | apply mT | apply mA) rfl rfl ?_
   refine xo_fa T_ rfl rfl rfl rfl rfl ?_
   refine xo_load0 T_ rfl rfl rfl (by repeat first | exact mH | apply mT | apply mA) rfl rfl ?_
   refine xo_sub rfl rfl rfl (by omega) rfl ?_
   refine xo_callB (fs := []) (cs := []) rfl rfl rfl within_enters rfl (fun w1 hw1 => within_calls g.f0 0 (R - 1) w1) ?_
   refine xo_notOp rfl rfl rfl ?_
   refine xoM ?_
   first
    | refine xo_lit (i := 47) (b := true) rfl ?_
    | refine xo_lit (i := 47) (b := false) rfl ?_
    | refine xo_split (i := 47) rfl rfl (fun h47 => ?_) (fun h47 => ?_)
   all_goals
    try simp only [decide_eq_true_eq, decide_eq_false_iff_not] at h47
    (first | refine xoN ?_ | refine xo_fa T_ rfl rfl rfl rfl rfl ?_)
    (first | refine xoN ?_ | refine xo_load0 T_ rfl rfl rfl (by repeat first | exact mH | apply mT | apply mA) rfl rfl ?_)
    (first | refine xoN ?_ | refine xo_fa T_ rfl rfl rfl rfl rfl ?_)
    (first | refine xoN ?_ | refine xo_load0 T_ rfl rfl rfl (by repeat first | exact mH | apply mT | apply mA) rfl rfl ?_)
    (first | refine xoN ?_ | refine xo_sub rfl rfl rfl (by omega) rfl ?_)
    (first | refine xoN ?_ | refine xo_callB (fs := []) (cs := []) rfl rfl rfl within_enters rfl (fun w1 hw1 => within_calls g.f1 0 (R - 1) w1) ?_)
    (first | refine xoN ?_ | refine xo_notOp rfl rfl rfl ?_)
    first | refine xo_pickT rfl rfl rfl rfl ?_ | refine xo_pickF rfl rfl rfl rfl ?_
    refine xoM ?_
    first
     | refine xo_lit (i := 56) (b := true) rfl ?_
     | refine xo_lit (i := 56) (b := false) rfl ?_
     | refine xo_split (i := 56) rfl rfl (fun h56 => ?_) (fun h56 => ?_)
    all_goals
     try simp only [decide_eq_true_eq, decide_eq_false_iff_not] at h56
     (first | refine xoN ?_ | refine xo_fa T_ rfl rfl rfl rfl rfl ?_)
     (first | refine xoN ?_ | refine xo_load0 T_ rfl rfl rfl (by repeat first | exact mH | apply mT | apply mA) rfl rfl ?_)
     (first | refine xoN ?_ | refine xo_fa T_ rfl rfl rfl rfl rfl ?_)
     (first | refine xoN ?_ | refine xo_load0 T_ rfl rfl rfl (by repeat first | exact mH | apply mT | apply mA) rfl rfl ?_)
     (first | refine xoN ?_ | refine xo_eql rfl rfl rfl rfl ?_)
     first | refine xo_pickT rfl rfl rfl rfl ?_ | refine xo_pickF rfl rfl rfl rfl ?_
     refine xoM ?_
     first
      | refine xo_lit (i := 63) (b := true) rfl ?_
      | refine xo_lit (i := 63) (b := false) rfl ?_
      | refine xo_split (i := 63) rfl rfl (fun h63 => ?_) (fun h63 => ?_)
     all_goals
      try simp only [decide_eq_true_eq, decide_eq_false_iff_not] at h63
      (first | refine xoN ?_ | refine xo_fa T_ rfl rfl rfl rfl rfl ?_)
      (first | refine xoN ?_ | refine xo_fa T_ rfl rfl rfl rfl rfl ?_)
      (first | refine xoN ?_ | refine xo_load0 T_ rfl rfl rfl (by repeat first | exact mH | apply mT | apply mA) rfl rfl ?_)
      (first | refine xoN ?_ | refine xo_callB (fs := []) (cs := []) rfl rfl rfl within_enters rfl (fun w1 hw1 => within_calls g.f2.f0 0 60 w1) ?_)
      (first | refine xoN ?_ | refine xo_notOp rfl rfl rfl ?_)
      first | refine xo_pickT rfl rfl rfl rfl ?_ | refine xo_pickF rfl rfl rfl rfl ?_
      refine xoM ?_
      first
       | refine xo_lit (i := 70) (b := true) rfl ?_
       | refine xo_lit (i := 70) (b := false) rfl ?_
       | refine xo_split (i := 70) rfl rfl (fun h70 => ?_) (fun h70 => ?_)
      all_goals
       try simp only [decide_eq_true_eq, decide_eq_false_iff_not] at h70
       (first | refine xoN ?_ | refine xo_fa T_ rfl rfl rfl rfl rfl ?_)
       (first | refine xoN ?_ | refine xo_fa T_ rfl rfl rfl rfl rfl ?_)
       (first | refine xoN ?_ | refine xo_load0 T_ rfl rfl rfl (by repeat first | exact mH | apply mT | apply mA) rfl rfl ?_)
       (first | refine xoN ?_ | refine xo_fa T_ rfl rfl rfl rfl rfl ?_)
       (first | refine xoN ?_ | refine xo_fa T_ rfl rfl rfl rfl rfl ?_)
       (first | refine xoN ?_ | refine xo_load0 T_ rfl rfl rfl (by repeat first | exact mH | apply mT | apply mA) rfl rfl ?_)
       (first | refine xoN ?_ | refine xo_fa T_ rfl rfl rfl rfl rfl ?_)
       (first | refine xoN ?_ | refine xo_fa T_ rfl rfl rfl rfl rfl ?_)
       (first | refine xoN ?_ | refine xo_load0 T_ rfl rfl rfl (by repeat first | exact mH | apply mT | apply mA) rfl rfl ?_)
       (first | refine xoN ?_ | (refine xo_add rfl rfl rfl (by have := inF_iff.1 (show inF 0 60 g.f2.f0 = true by simpa using h70); omega) rfl ?_))
       (first | refine xoN ?_ | refine xo_callB (fs := []) (cs := []) rfl rfl rfl within_enters rfl (fun w1 hw1 => within_calls g.f2.f1 g.f2.f0 (g.f2.f0 + 2) w1) ?_)
       (first | refine xoN ?_ | refine xo_notOp rfl rfl rfl ?_)
       first | refine xo_pickT rfl rfl rfl rfl ?_ | refine xo_pickF rfl rfl rfl rfl ?_
       refine xoM ?_
       first
        | refine xo_lit (i := 84) (b := true) rfl ?_
        | refine xo_lit (i := 84) (b := false) rfl ?_
        | refine xo_split (i := 84) rfl rfl (fun h84 => ?_) (fun h84 => ?_)
       all_goals
        try simp only [decide_eq_true_eq, decide_eq_false_iff_not] at h84
        (first | refine xoN ?_ | refine xo_fa T_ rfl rfl rfl rfl rfl ?_)
        (first | refine xoN ?_ | refine xo_fa T_ rfl rfl rfl rfl rfl ?_)
        (first | refine xoN ?_ | refine xo_load0 T_ rfl rfl rfl (by repeat first | exact mH | apply mT | apply mA) rfl rfl ?_)
        (first | refine xoN ?_ | refine xo_gtr rfl rfl rfl rfl ?_)
        first | refine xo_pickT rfl rfl rfl rfl ?_ | refine xo_pickF rfl rfl rfl rfl ?_
        with_reducible apply xo_nil
        exact xq_meet (fun _ => True) _ _ () trivial ⟨(by first | rfl | exact congrArg (fun b => some (Value.bool b)) (by first | simp [h47, h56, h63, h70, h84, gateB] | simp [h47, h56, h63, h70, gateB] | simp [h47, h56, h63, gateB] | simp [h47, h56, gateB] | simp [h47, gateB] | simp [gateB])), (by first | rfl | exact congrArg (fun b => some (Value.bool b)) (by first | simp [h47, h56, h63, h70, h84, gateB] | simp [h47, h56, h63, h70, gateB] | simp [h47, h56, h63, gateB] | simp [h47, h56, gateB] | simp [h47, gateB] | simp [gateB])), (by first | rfl | exact congrArg (fun b => some (Value.bool b)) (by first | simp [h47, h56, h63, h70, h84, gateB] | simp [h47, h56, h63, h70, gateB] | simp [h47, h56, h63, gateB] | simp [h47, h56, gateB] | simp [h47, gateB] | simp [gateB])), trivial⟩ (by repeat (first | exact List.Sublist.refl _ | apply List.Sublist.cons_cons | apply List.Sublist.cons | exact List.nil_sublist _))
  with_reducible (repeat first | apply xqT | apply xqB | apply xqS)
  cases hq : gateB R g
  ·have e1 : gs.all (gateB R) = false := List.all_eq_false.2 ⟨g, hmem, by rw [hq]; exact Bool.false_ne_true⟩
   rw [e1]
   with_reducible (repeat apply xc_seq)
   refine xc_condT rfl ?_
   with_reducible ((repeat apply xc_seq); apply xcR)
   refine xoA ?_
   with_reducible (apply xo_nil; (repeat first | apply xqT | apply xqB | apply xqS); (repeat apply xc_seq); apply xc_ret; (repeat (first | apply xq_thenR | apply xq_blockR | apply xq_scopeR)))
   exact xq_ret1 rfl rfl fun w' hw => ⟨rfl, hw.kx.below⟩
  ·with_reducible repeat apply xc_seq
   refine xc_condF rfl ?_
   with_reducible (apply xc_skip; (repeat first | apply xqT | apply xqB | apply xqS); (repeat apply xc_seq); apply xcR)
   refine xoM ?_
   refine xo_add rfl rfl rfl (by omega) rfl ?_
   refine xoA ?_
   with_reducible (apply xo_nil; (repeat first | apply xqT | apply xqB | apply xqS))
   exact xq_again _ _ _ _ _ (k + 1) ⟨hlt, hsk hq⟩ (by omega) ⟨rfl, rfl, trivial⟩ (List.Sublist.refl _)
 have hge : k = gs.length := by have := of_decide_eq_false h; omega
 have e1 : gs.all (gateB R) = true := List.all_eq_true.2 fun g hg => by
  obtain ⟨j, hj, rfl⟩ := List.getElem_of_mem hg
  have := hall j (by omega)
  rwa [show gs.getD j zGat = gs[j] by simp [List.getD_eq_getElem?_getD, List.getElem?_eq_getElem hj]] at this
 rw [e1, Bool.true_and]
 clear e1 hall
 subst hge
 with_reducible (apply xc_exit; (repeat (first | apply xq_blockX | apply xq_thenE | refine xq_blockE rfl ?_ | apply xq_scopeE)); (repeat first | apply xqT | apply xqB | apply xqS); (repeat apply xc_seq); apply xcR)
 refine xoA ?_
 with_reducible (apply xo_nil; (repeat first | apply xqT | apply xqB | apply xqS); (repeat apply xc_seq); apply xc_block)
 refine xc_loop (γ := Nat) (fun k => k ≤ ms.length ∧ marksB R (-1) ms = marksB R (lastId ms k) (ms.drop k)) (fun k => [(1, .pointer (some ⟨b1, 0, none⟩)), (5, .int .i64 (k : Int))]) (fun _ => [(b1, true, cel (scnV R A gs.length c E B ms.length c2) 25)]) (fun k => ms.length - k) 0 ⟨Nat.zero_le _, rfl⟩ ⟨rfl, rfl, trivial⟩ (List.Sublist.refl _) ?_
 rintro k ⟨hk, hall⟩
 with_reducible ((repeat apply xc_seq); apply xcR)
 refine xoM ?_
 refine xo_fa T_ rfl rfl rfl rfl rfl ?_
 refine xo_load0 T_ rfl rfl rfl (by repeat first | exact mH | apply mT | apply mA) rfl rfl ?_
 refine xo_len T_ rfl rfl rfl rfl ?_
 refine xo_lss rfl rfl rfl rfl ?_
 with_reducible (apply xo_nil; (repeat first | apply xqT | apply xqB | apply xqS); (repeat apply xc_seq))
 refine xc_cond rfl (fun h => ?_) (fun h => ?_)
 ·have hlt : k < ms.length := by have := of_decide_eq_true h; omega
  obtain ⟨ad, rfl, q1⟩ := hM k hlt
  rw [marksB_step R hlt] at hall
  have hnx : lastId ms (k + 1) = (ms.getD k zMar).f0 := by unfold lastId; rw [if_neg (by omega)]; rfl
  with_reducible (apply xc_skip; (repeat first | apply xqT | apply xqB | apply xqS); (repeat apply xc_seq); apply xc_block)
  refine xc_slots [(1, .pointer (some ⟨b1, 0, none⟩)), (5, .int .i64 (k : Int))] ⟨rfl, rfl, trivial⟩ ?_
  cases hq : markB R (ms.getD k zMar)
  ·rw [hq, Bool.false_and, Bool.false_and] at hall
   rw [hall]
   generalize ms.getD k zMar = m at q1 hq
   have hq' : (!markB R m) = true := by rw [hq]; rfl
   with_reducible (repeat apply xc_seq)
   apply xc_drawN
   ·exact T_.mixed
   ·rfl
   ·rfl
   ·rfl
   ·rfl
   ·apply DrawOps.cons
    ·intro τ
     refine xo_loadN T_ rfl rfl rfl (by repeat first | exact mH | apply mT | apply mA) rfl rfl ?_
     exact xoF
    apply DrawOps.cons
    ·intro τ
     refine xo_fa T_ rfl rfl rfl rfl rfl ?_
     exact xoF
    apply DrawOps.cons
    ·intro τ
     refine xo_load0 T_ rfl rfl rfl (by repeat first | exact mH | apply mT | apply mA) rfl rfl ?_
     exact xoF
    apply DrawOps.cons
    ·intro τ
     refine xoM ?_
     exact xoF
    apply DrawOps.cons
    ·intro τ
     refine xo_ia T_ rfl rfl rfl rfl rfl ⟨by omega, by omega⟩ rfl ?_
     exact xoF
    apply DrawOps.cons
    ·intro τ
     refine xo_loadRN T_ rfl rfl rfl q1 rfl rfl ?_
     exact xoF
    apply DrawOps.cons
    ·intro τ
     refine xo_callB (fs := []) (cs := []) rfl rfl rfl mark_enters rfl (fun w1 hw1 => mark_calls R E A (some ad) gs.length c ms.length c2 m w1 hR) ?_
     exact xoF
    apply DrawOps.cons
    ·intro τ
     refine xo_notOp rfl rfl rfl ?_
     first
      | exact xo_fin (congrArg Value.bool hq')
      | exact xoF
    apply DrawOps.cons
    ·intro τ
     refine xoM ?_
     exact xoF
    apply DrawOps.cons
    ·intro τ
     (first | refine xoN ?_ | refine xoM ?_)
     exact xoF
    apply DrawOps.cons
    ·intro τ
     (first | refine xoN ?_ | refine xo_gtr rfl rfl rfl rfl ?_)
     exact xoF
    apply DrawOps.cons
    ·intro τ
     (first | refine xoN ?_ | refine xoM ?_)
     exact xoF
    apply DrawOps.cons
    ·intro τ
     (first | refine xoN ?_ | refine xo_fa T_ rfl rfl rfl rfl rfl ?_)
     exact xoF
    apply DrawOps.cons
    ·intro τ
     (first | refine xoN ?_ | refine xo_load0 T_ rfl rfl rfl (by repeat first | exact mH | apply mT | apply mA) rfl rfl ?_)
     exact xoF
    apply DrawOps.cons
    ·intro τ
     (first | refine xoN ?_ | refine xoM ?_)
     exact xoF
    apply DrawOps.cons
    ·intro τ
     (first | refine xoN ?_ | refine xo_ia T_ rfl rfl rfl rfl rfl ⟨by omega, by omega⟩ rfl ?_)
     exact xoF
    apply DrawOps.cons
    ·intro τ
     (first | refine xoN ?_ | refine xo_faR T_ rfl rfl rfl rfl rfl ?_)
     exact xoF
    apply DrawOps.cons
    ·intro τ
     (first | refine xoN ?_ | refine xo_loadR0 T_ rfl rfl rfl (by first | assumption | exact RO.fld (by assumption) rfl) rfl ?_)
     exact xoF
    apply DrawOps.cons
    ·intro τ
     (first | refine xoN ?_ | refine xo_fa T_ rfl rfl rfl rfl rfl ?_)
     exact xoF
    apply DrawOps.cons
    ·intro τ
     (first | refine xoN ?_ | refine xo_load0 T_ rfl rfl rfl (by repeat first | exact mH | apply mT | apply mA) rfl rfl ?_)
     exact xoF
    apply DrawOps.cons
    ·intro τ
     (first | refine xoN ?_ | refine xoM ?_)
     exact xoF
    apply DrawOps.cons
    ·intro τ
     (first | refine xoN ?_ | refine xo_sub rfl rfl rfl (by omega) rfl ?_)
     exact xoF
    apply DrawOps.cons
    ·intro τ
     (first | refine xoN ?_ | refine xo_ia T_ rfl rfl rfl rfl rfl ⟨by omega, by omega⟩ rfl ?_)
     exact xoF
    apply DrawOps.cons
    ·intro τ
     (first | refine xoN ?_ | refine xo_faR T_ rfl rfl rfl rfl rfl ?_)
     exact xoF
    apply DrawOps.cons
    ·intro τ
     (first | refine xoN ?_ | refine xo_loadR0 T_ rfl rfl rfl (by first | assumption | exact RO.fld (by assumption) rfl) rfl ?_)
     exact xoF
    apply DrawOps.cons
    ·intro τ
     (first | refine xoN ?_ | refine xo_leq rfl rfl rfl rfl ?_)
     exact xoF
    apply DrawOps.cons
    ·intro τ
     (first | refine xoN ?_ | (first | refine xo_pickT rfl rfl rfl rfl ?_ | refine xo_pickF rfl rfl rfl rfl ?_))
     exact xoF
    apply DrawOps.cons
    ·intro τ
     first | refine xo_pickT rfl rfl rfl rfl ?_ | refine xo_pickF rfl rfl rfl rfl ?_
     exact xoF
    exact DrawOps.nil
   ·rfl
   with_reducible ((repeat first | apply xqT | apply xqB | apply xqS); (repeat apply xc_seq))
   refine xc_condT rfl ?_
   with_reducible ((repeat apply xc_seq); apply xcR)
   refine xoA ?_
   with_reducible (apply xo_nil; (repeat first | apply xqT | apply xqB | apply xqS); (repeat apply xc_seq); apply xc_ret; (repeat (first | apply xq_thenR | apply xq_blockR | apply xq_scopeR)))
   exact xq_ret1 rfl rfl fun w' hw => ⟨rfl, hw.kx.below⟩
  rw [hq, Bool.true_and] at hall
  have hq' : (!markB R (ms.getD k zMar)) = false := by rw [hq]; rfl
  have hid0 : 0 ≤ (ms.getD k zMar).f0 := by
   simp only [markB, Bool.and_eq_true] at hq
   exact (inF_iff.1 hq.1.1).1
  by_cases hk0 : k = 0
  ·subst hk0
   have e2 : decide (lastId ms 0 < (ms.getD 0 zMar).f0) = true := by
    unfold lastId
    rw [if_pos rfl, decide_eq_true_eq]
    omega
   rw [e2, Bool.true_and] at hall
   generalize ms.getD 0 zMar = m at q1 hq hq' hall hnx hid0
   have hz : decide ((0 : Int) < ((0 : Nat) : Int)) = false := rfl
   with_reducible (repeat apply xc_seq)
   apply xc_drawN
   ·exact T_.mixed
   ·rfl
   ·rfl
   ·rfl
   ·rfl
   ·apply DrawOps.cons
    ·intro τ
     refine xo_loadN T_ rfl rfl rfl (by repeat first | exact mH | apply mT | apply mA) rfl rfl ?_
     exact xoF
    apply DrawOps.cons
    ·intro τ
     refine xo_fa T_ rfl rfl rfl rfl rfl ?_
     exact xoF
    apply DrawOps.cons
    ·intro τ
     refine xo_load0 T_ rfl rfl rfl (by repeat first | exact mH | apply mT | apply mA) rfl rfl ?_
     exact xoF
    apply DrawOps.cons
    ·intro τ
     refine xoM ?_
     exact xoF
    apply DrawOps.cons
    ·intro τ
     refine xo_ia T_ rfl rfl rfl rfl rfl ⟨by omega, by omega⟩ rfl ?_
     exact xoF
    apply DrawOps.cons
    ·intro τ
     refine xo_loadRN T_ rfl rfl rfl q1 rfl rfl ?_
     exact xoF
    apply DrawOps.cons
    ·intro τ
     refine xo_callB (fs := []) (cs := []) rfl rfl rfl mark_enters rfl (fun w1 hw1 => mark_calls R E A (some ad) gs.length c ms.length c2 m w1 hR) ?_
     exact xoF
    apply DrawOps.cons
    ·intro τ
     refine xo_notOp rfl rfl rfl ?_
     first
      | exact xo_fin (congrArg Value.bool hq')
      | exact xoF
    apply DrawOps.cons
    ·intro τ
     refine xoM ?_
     exact xoF
    apply DrawOps.cons
    ·intro τ
     (first | refine xoN ?_ | refine xoM ?_)
     exact xoF
    apply DrawOps.cons
    ·intro τ
     (first | refine xoN ?_ | refine xo_gtr rfl rfl rfl rfl ?_)
     first
      | exact xo_fin (congrArg Value.bool hz)
      | exact xoF
    apply DrawOps.cons
    ·intro τ
     (first | refine xoN ?_ | refine xoM ?_)
     exact xoF
    apply DrawOps.cons
    ·intro τ
     (first | refine xoN ?_ | refine xo_fa T_ rfl rfl rfl rfl rfl ?_)
     exact xoF
    apply DrawOps.cons
    ·intro τ
     (first | refine xoN ?_ | refine xo_load0 T_ rfl rfl rfl (by repeat first | exact mH | apply mT | apply mA) rfl rfl ?_)
     exact xoF
    apply DrawOps.cons
    ·intro τ
     (first | refine xoN ?_ | refine xoM ?_)
     exact xoF
    apply DrawOps.cons
    ·intro τ
     (first | refine xoN ?_ | refine xo_ia T_ rfl rfl rfl rfl rfl ⟨by omega, by omega⟩ rfl ?_)
     exact xoF
    apply DrawOps.cons
    ·intro τ
     (first | refine xoN ?_ | refine xo_faR T_ rfl rfl rfl rfl rfl ?_)
     exact xoF
    apply DrawOps.cons
    ·intro τ
     (first | refine xoN ?_ | refine xo_loadR0 T_ rfl rfl rfl (by first | assumption | exact RO.fld (by assumption) rfl) rfl ?_)
     exact xoF
    apply DrawOps.cons
    ·intro τ
     (first | refine xoN ?_ | refine xo_fa T_ rfl rfl rfl rfl rfl ?_)
     exact xoF
    apply DrawOps.cons
    ·intro τ
     (first | refine xoN ?_ | refine xo_load0 T_ rfl rfl rfl (by repeat first | exact mH | apply mT | apply mA) rfl rfl ?_)
     exact xoF
    apply DrawOps.cons
    ·intro τ
     (first | refine xoN ?_ | refine xoM ?_)
     exact xoF
    apply DrawOps.cons
    ·intro τ
     (first | refine xoN ?_ | refine xo_sub rfl rfl rfl (by omega) rfl ?_)
     exact xoF
    apply DrawOps.cons
    ·intro τ
     (first | refine xoN ?_ | refine xo_ia T_ rfl rfl rfl rfl rfl ⟨by omega, by omega⟩ rfl ?_)
     exact xoF
    apply DrawOps.cons
    ·intro τ
     (first | refine xoN ?_ | refine xo_faR T_ rfl rfl rfl rfl rfl ?_)
     exact xoF
    apply DrawOps.cons
    ·intro τ
     (first | refine xoN ?_ | refine xo_loadR0 T_ rfl rfl rfl (by first | assumption | exact RO.fld (by assumption) rfl) rfl ?_)
     exact xoF
    apply DrawOps.cons
    ·intro τ
     (first | refine xoN ?_ | refine xo_leq rfl rfl rfl rfl ?_)
     exact xoF
    apply DrawOps.cons
    ·intro τ
     (first | refine xoN ?_ | (first | refine xo_pickT rfl rfl rfl rfl ?_ | refine xo_pickF rfl rfl rfl rfl ?_))
     exact xoF
    apply DrawOps.cons
    ·intro τ
     first | refine xo_pickT rfl rfl rfl rfl ?_ | refine xo_pickF rfl rfl rfl rfl ?_
     exact xoF
    exact DrawOps.nil
   ·rfl
   with_reducible ((repeat first | apply xqT | apply xqB | apply xqS); (repeat apply xc_seq))
   refine xc_condF rfl ?_
   with_reducible (apply xc_skip; (repeat first | apply xqT | apply xqB | apply xqS); (repeat apply xc_seq); apply xcR)
   refine xoM ?_
   refine xo_add rfl rfl rfl (by omega) rfl ?_
   refine xoA ?_
   with_reducible (apply xo_nil; (repeat first | apply xqT | apply xqB | apply xqS))
   exact xq_again _ _ _ _ _ (0 + 1) ⟨hlt, by rw [hall, hnx]⟩ (by omega) ⟨rfl, rfl, trivial⟩ (List.Sublist.refl _)
  obtain ⟨ad0, e0, q0⟩ := hM (k - 1) (by omega)
  cases e0
  rw [show ((k - 1 : Nat) : Int) = (k : Int) - 1 by omega] at q0
  have hpos : decide ((0 : Int) < (k : Int)) = true := by rw [decide_eq_true_eq]; omega
  have hli : lastId ms k = (ms.getD (k - 1) zMar).f0 := by unfold lastId; rw [if_neg hk0]
  rw [hli] at hall
  generalize ms.getD k zMar = m at q1 hq hq' hall hnx hid0
  generalize ms.getD (k - 1) zMar = m0 at q0 hall
  cases hid : decide (m0.f0 < m.f0)
  ·rw [hid, Bool.false_and] at hall
   rw [hall]
   have hle : decide (m.f0 ≤ m0.f0) = true := by have := of_decide_eq_false hid; rw [decide_eq_true_eq]; omega
   with_reducible (repeat apply xc_seq)
   apply xc_drawN
   ·exact T_.mixed
   ·rfl
   ·rfl
   ·rfl
   ·rfl
   ·apply DrawOps.cons
    ·intro τ
     refine xo_loadN T_ rfl rfl rfl (by repeat first | exact mH | apply mT | apply mA) rfl rfl ?_
     exact xoF
    apply DrawOps.cons
    ·intro τ
     refine xo_fa T_ rfl rfl rfl rfl rfl ?_
     exact xoF
    apply DrawOps.cons
    ·intro τ
     refine xo_load0 T_ rfl rfl rfl (by repeat first | exact mH | apply mT | apply mA) rfl rfl ?_
     exact xoF
    apply DrawOps.cons
    ·intro τ
     refine xoM ?_
     exact xoF
    apply DrawOps.cons
    ·intro τ
     refine xo_ia T_ rfl rfl rfl rfl rfl ⟨by omega, by omega⟩ rfl ?_
     exact xoF
    apply DrawOps.cons
    ·intro τ
     refine xo_loadRN T_ rfl rfl rfl q1 rfl rfl ?_
     exact xoF
    apply DrawOps.cons
    ·intro τ
     refine xo_callB (fs := []) (cs := []) rfl rfl rfl mark_enters rfl (fun w1 hw1 => mark_calls R E A (some ad) gs.length c ms.length c2 m w1 hR) ?_
     exact xoF
    apply DrawOps.cons
    ·intro τ
     refine xo_notOp rfl rfl rfl ?_
     first
      | exact xo_fin (congrArg Value.bool hq')
      | exact xoF
    apply DrawOps.cons
    ·intro τ
     refine xoM ?_
     exact xoF
    apply DrawOps.cons
    ·intro τ
     (first | refine xoN ?_ | refine xoM ?_)
     exact xoF
    apply DrawOps.cons
    ·intro τ
     (first | refine xoN ?_ | refine xo_gtr rfl rfl rfl rfl ?_)
     first
      | exact xo_fin (congrArg Value.bool hpos)
      | exact xoF
    apply DrawOps.cons
    ·intro τ
     (first | refine xoN ?_ | refine xoM ?_)
     exact xoF
    apply DrawOps.cons
    ·intro τ
     (first | refine xoN ?_ | refine xo_fa T_ rfl rfl rfl rfl rfl ?_)
     exact xoF
    apply DrawOps.cons
    ·intro τ
     (first | refine xoN ?_ | refine xo_load0 T_ rfl rfl rfl (by repeat first | exact mH | apply mT | apply mA) rfl rfl ?_)
     exact xoF
    apply DrawOps.cons
    ·intro τ
     (first | refine xoN ?_ | refine xoM ?_)
     exact xoF
    apply DrawOps.cons
    ·intro τ
     (first | refine xoN ?_ | refine xo_ia T_ rfl rfl rfl rfl rfl ⟨by omega, by omega⟩ rfl ?_)
     exact xoF
    apply DrawOps.cons
    ·intro τ
     (first | refine xoN ?_ | refine xo_faR T_ rfl rfl rfl rfl rfl ?_)
     exact xoF
    apply DrawOps.cons
    ·intro τ
     (first | refine xoN ?_ | refine xo_loadR0 T_ rfl rfl rfl (RO.fld q1 rfl) rfl ?_)
     exact xoF
    apply DrawOps.cons
    ·intro τ
     (first | refine xoN ?_ | refine xo_fa T_ rfl rfl rfl rfl rfl ?_)
     exact xoF
    apply DrawOps.cons
    ·intro τ
     (first | refine xoN ?_ | refine xo_load0 T_ rfl rfl rfl (by repeat first | exact mH | apply mT | apply mA) rfl rfl ?_)
     exact xoF
    apply DrawOps.cons
    ·intro τ
     (first | refine xoN ?_ | refine xoM ?_)
     exact xoF
    apply DrawOps.cons
    ·intro τ
     (first | refine xoN ?_ | refine xo_sub rfl rfl rfl (by omega) rfl ?_)
     exact xoF
    apply DrawOps.cons
    ·intro τ
     (first | refine xoN ?_ | refine xo_ia T_ rfl rfl rfl rfl rfl ⟨by omega, by omega⟩ rfl ?_)
     exact xoF
    apply DrawOps.cons
    ·intro τ
     (first | refine xoN ?_ | refine xo_faR T_ rfl rfl rfl rfl rfl ?_)
     exact xoF
    apply DrawOps.cons
    ·intro τ
     (first | refine xoN ?_ | refine xo_loadR0 T_ rfl rfl rfl (RO.fld q0 rfl) rfl ?_)
     exact xoF
    apply DrawOps.cons
    ·intro τ
     (first | refine xoN ?_ | refine xo_leq rfl rfl rfl rfl ?_)
     first
      | exact xo_fin (congrArg Value.bool hle)
      | exact xoF
    apply DrawOps.cons
    ·intro τ
     (first | refine xoN ?_ | (first | refine xo_pickT rfl rfl rfl rfl ?_ | refine xo_pickF rfl rfl rfl rfl ?_))
     exact xoF
    apply DrawOps.cons
    ·intro τ
     first | refine xo_pickT rfl rfl rfl rfl ?_ | refine xo_pickF rfl rfl rfl rfl ?_
     exact xoF
    exact DrawOps.nil
   ·rfl
   with_reducible ((repeat first | apply xqT | apply xqB | apply xqS); (repeat apply xc_seq))
   refine xc_condT rfl ?_
   with_reducible ((repeat apply xc_seq); apply xcR)
   refine xoA ?_
   with_reducible (apply xo_nil; (repeat first | apply xqT | apply xqB | apply xqS); (repeat apply xc_seq); apply xc_ret; (repeat (first | apply xq_thenR | apply xq_blockR | apply xq_scopeR)))
   exact xq_ret1 rfl rfl fun w' hw => ⟨rfl, hw.kx.below⟩
  ·rw [hid, Bool.true_and] at hall
   have hle : decide (m.f0 ≤ m0.f0) = false := by have := of_decide_eq_true hid; rw [decide_eq_false_iff_not]; omega
   with_reducible (repeat apply xc_seq)
   apply xc_drawN
   ·exact T_.mixed
   ·rfl
   ·rfl
   ·rfl
   ·rfl
   ·apply DrawOps.cons
    ·intro τ
     refine xo_loadN T_ rfl rfl rfl (by repeat first | exact mH | apply mT | apply mA) rfl rfl ?_
     exact xoF
    apply DrawOps.cons
    ·intro τ
     refine xo_fa T_ rfl rfl rfl rfl rfl ?_
     exact xoF
    apply DrawOps.cons
    ·intro τ
     refine xo_load0 T_ rfl rfl rfl (by repeat first | exact mH | apply mT | apply mA) rfl rfl ?_
     exact xoF
    apply DrawOps.cons
    ·intro τ
     refine xoM ?_
     exact xoF
    apply DrawOps.cons
    ·intro τ
     refine xo_ia T_ rfl rfl rfl rfl rfl ⟨by omega, by omega⟩ rfl ?_
     exact xoF
    apply DrawOps.cons
    ·intro τ
     refine xo_loadRN T_ rfl rfl rfl q1 rfl rfl ?_
     exact xoF
    apply DrawOps.cons
    ·intro τ
     refine xo_callB (fs := []) (cs := []) rfl rfl rfl mark_enters rfl (fun w1 hw1 => mark_calls R E A (some ad) gs.length c ms.length c2 m w1 hR) ?_
     exact xoF
    apply DrawOps.cons
    ·intro τ
     refine xo_notOp rfl rfl rfl ?_
     first
      | exact xo_fin (congrArg Value.bool hq')
      | exact xoF
    apply DrawOps.cons
    ·intro τ
     refine xoM ?_
     exact xoF
    apply DrawOps.cons
    ·intro τ
     (first | refine xoN ?_ | refine xoM ?_)
     exact xoF
    apply DrawOps.cons
    ·intro τ
     (first | refine xoN ?_ | refine xo_gtr rfl rfl rfl rfl ?_)
     first
      | exact xo_fin (congrArg Value.bool hpos)
      | exact xoF
    apply DrawOps.cons
    ·intro τ
     (first | refine xoN ?_ | refine xoM ?_)
     exact xoF
    apply DrawOps.cons
    ·intro τ
     (first | refine xoN ?_ | refine xo_fa T_ rfl rfl rfl rfl rfl ?_)
     exact xoF
    apply DrawOps.cons
    ·intro τ
     (first | refine xoN ?_ | refine xo_load0 T_ rfl rfl rfl (by repeat first | exact mH | apply mT | apply mA) rfl rfl ?_)
     exact xoF
    apply DrawOps.cons
    ·intro τ
     (first | refine xoN ?_ | refine xoM ?_)
     exact xoF
    apply DrawOps.cons
    ·intro τ
     (first | refine xoN ?_ | refine xo_ia T_ rfl rfl rfl rfl rfl ⟨by omega, by omega⟩ rfl ?_)
     exact xoF
    apply DrawOps.cons
    ·intro τ
     (first | refine xoN ?_ | refine xo_faR T_ rfl rfl rfl rfl rfl ?_)
     exact xoF
    apply DrawOps.cons
    ·intro τ
     (first | refine xoN ?_ | refine xo_loadR0 T_ rfl rfl rfl (RO.fld q1 rfl) rfl ?_)
     exact xoF
    apply DrawOps.cons
    ·intro τ
     (first | refine xoN ?_ | refine xo_fa T_ rfl rfl rfl rfl rfl ?_)
     exact xoF
    apply DrawOps.cons
    ·intro τ
     (first | refine xoN ?_ | refine xo_load0 T_ rfl rfl rfl (by repeat first | exact mH | apply mT | apply mA) rfl rfl ?_)
     exact xoF
    apply DrawOps.cons
    ·intro τ
     (first | refine xoN ?_ | refine xoM ?_)
     exact xoF
    apply DrawOps.cons
    ·intro τ
     (first | refine xoN ?_ | refine xo_sub rfl rfl rfl (by omega) rfl ?_)
     exact xoF
    apply DrawOps.cons
    ·intro τ
     (first | refine xoN ?_ | refine xo_ia T_ rfl rfl rfl rfl rfl ⟨by omega, by omega⟩ rfl ?_)
     exact xoF
    apply DrawOps.cons
    ·intro τ
     (first | refine xoN ?_ | refine xo_faR T_ rfl rfl rfl rfl rfl ?_)
     exact xoF
    apply DrawOps.cons
    ·intro τ
     (first | refine xoN ?_ | refine xo_loadR0 T_ rfl rfl rfl (RO.fld q0 rfl) rfl ?_)
     exact xoF
    apply DrawOps.cons
    ·intro τ
     (first | refine xoN ?_ | refine xo_leq rfl rfl rfl rfl ?_)
     first
      | exact xo_fin (congrArg Value.bool hle)
      | exact xoF
    apply DrawOps.cons
    ·intro τ
     (first | refine xoN ?_ | (first | refine xo_pickT rfl rfl rfl rfl ?_ | refine xo_pickF rfl rfl rfl rfl ?_))
     exact xoF
    apply DrawOps.cons
    ·intro τ
     first | refine xo_pickT rfl rfl rfl rfl ?_ | refine xo_pickF rfl rfl rfl rfl ?_
     exact xoF
    exact DrawOps.nil
   ·rfl
   with_reducible ((repeat first | apply xqT | apply xqB | apply xqS); (repeat apply xc_seq))
   refine xc_condF rfl ?_
   with_reducible (apply xc_skip; (repeat first | apply xqT | apply xqB | apply xqS); (repeat apply xc_seq); apply xcR)
   refine xoM ?_
   refine xo_add rfl rfl rfl (by omega) rfl ?_
   refine xoA ?_
   with_reducible (apply xo_nil; (repeat first | apply xqT | apply xqB | apply xqS))
   exact xq_again _ _ _ _ _ (k + 1) ⟨hlt, by rw [hall, hnx]⟩ (by omega) ⟨rfl, rfl, trivial⟩ (List.Sublist.refl _)
 have hge : k = ms.length := by have := of_decide_eq_false h; omega
 rw [List.drop_of_length_le (by omega), marksB] at hall
 rw [hall]
 with_reducible (apply xc_exit; (repeat (first | apply xq_blockX | apply xq_thenE | refine xq_blockE rfl ?_ | apply xq_scopeE)); (repeat first | apply xqT | apply xqB | apply xqS); (repeat apply xc_seq); apply xcR)
 refine xoA ?_
 with_reducible (apply xo_nil; (repeat first | apply xqT | apply xqB | apply xqS); (repeat apply xc_seq); apply xc_ret; (repeat (first | apply xq_thenR | apply xq_blockR | apply xq_scopeR)))
 exact xq_ret1 rfl rfl fun w' hw => ⟨rfl, hw.kx.below⟩
theorem scene_enters : ∀ args w, (callFunc 39 args).run Tryz.prog w = .ok (.enter 39 args) w := enters_of Tryz.func39 (by kernel_rfl) rfl
def gatL (l : List GatT) : List Value := (l.map gatV).flatten
theorem gatL_len (l : List GatT) : (gatL l).length = l.length * 4 := by
 unfold gatL
 rw [flat_len 4 _ (by intro c hc; obtain ⟨x, _, rfl⟩ := List.mem_map.1 hc; rfl), List.length_map]
theorem flat_row {α : Type} (V : α → List Value) (sz : Nat) (z : α) (hV : ∀ x, (V x).length = sz) (hsz : szN sz = sz) (h0 : 0 < sz) {w : World} {A : Option Addr} {xs : List α} (h : RowOf V sz z w A xs) {p : Addr} (hp : A = some p) {j : Nat} {u : Value} (hj : ((xs.map V).flatten)[j]? = some u) : w.cell? (p.add j) = some u := by
 obtain ⟨h1, h2⟩ := flat_split (α := Value) h0 j
 rw [h1, flat_at sz _ (j / sz) (j % sz) (by intro c hc; obtain ⟨x, _, rfl⟩ := List.mem_map.1 hc; exact hV x) h2, List.getElem?_map] at hj
 have hlt : j / sz < xs.length := by
  apply Classical.byContradiction
  intro hn
  rw [List.getElem?_eq_none (by omega)] at hj
  cases hj
 obtain ⟨ad, e, hR⟩ := h (j / sz) hlt
 rw [hp] at e
 cases e
 rw [List.getElem?_eq_getElem hlt] at hj
 have hg : xs.getD (j / sz) z = xs[j / sz] := by simp [List.getD_eq_getElem?_getD, List.getElem?_eq_getElem hlt]
 have := (hR (j % sz) u (by rw [hg]; exact hj)).1
 rw [add_add, Int.toNat_natCast, hsz, ← h1] at this
 exact this
theorem one_flat {α : Type} (V : α → List Value) (hV : ∀ x, ∀ u ∈ V x, u.oneCell' = true) (xs : List α) : ∀ u ∈ (xs.map V).flatten, u.oneCell' = true := by
 intro u hu
 obtain ⟨c, hc, hu⟩ := List.mem_flatten.1 hu
 obtain ⟨x, _, rfl⟩ := List.mem_map.1 hc
 exact hV x u hu
theorem gatV_ones (x : GatT) : ∀ u ∈ gatV x, u.oneCell' = true := by
 intro u hu
 have : (gatV x).all (·.oneCell') = true := rfl
 exact List.all_eq_true.1 this u hu
theorem marV_ones (x : MarT) : ∀ u ∈ marV x, u.oneCell' = true := by
 intro u hu
 exact List.all_eq_true.1 (marV_one x) u hu
set_option maxHeartbeats 4000000 in
theorem twin_calls (R E : Int) (A B : Option Addr) (c c2 : Nat) (gs : List GatT) (ms : List MarT) (w : World) (hA : RowOf gatV 4 zGat w A gs) (hM : RowOf marV 7 zMar w B ms) (hA0 : A = none → gs.length = 0) (hB0 : B = none → ms.length = 0) (l1 : gs.length ≤ 1000000) (l2 : ms.length ≤ 1000000) :
  Calls Tryz.prog 13 #[.agg (scnV R A gs.length c E B ms.length c2).toArray] w fun e w' => ∃ b1 k1 b2 k2, e = .returned (.agg (scnV R (some ⟨b1, 0, none⟩) gs.length k1 E (some ⟨b2, 0, none⟩) ms.length k2).toArray) ∧ WOK w XNone [(b2, true, orow 56 7 ms.length k2 (marL ms)), (b1, true, orow 52 4 gs.length k1 (gatL gs))] w' := by
 refine x_calls (X := XNone) Tryz.func13 rfl rfl rfl ?_
 with_reducible ((repeat apply xc_seq); apply xcR)
 refine xo_box rfl rfl rfl rfl (fun b1 => ?_)
 refine xo_alloc T_ rfl rfl rfl rfl (fun b2 => ?_)
 with_reducible (apply xo_nil; (repeat first | apply xqT | apply xqB | apply xqS); (repeat apply xc_seq); apply xcR)
 refine xo_bs0 T_ 4 rfl rfl rfl rfl (fun b0 => ?_)
 refine xo_fa T_ rfl rfl rfl rfl rfl ?_
 refine xo_load0 T_ rfl rfl rfl (by repeat first | exact mH | apply mT | apply mA) rfl rfl ?_
 refine xo_appE TR_ rfl rfl rfl rfl rfl rfl rfl rfl (gatL_len gs) hA0 (fun p e w1 hw1 j u hj => hw1.kx.cell (flat_row gatV 4 zGat (fun _ => rfl) rfl (by omega) hA e hj) (fun h => h)) (one_flat gatV gatV_ones gs) (by omega) rfl rfl (fun b6 cap6 => ?_)
 refine xo_fa T_ rfl rfl rfl rfl rfl ?_
 refine xo_store T_ rfl rfl rfl rfl (by repeat first | exact mH | apply mT | apply mA) rfl rfl rfl rfl (by repeat first | exact Upd.head | apply Upd.tail | apply Upd.app) rfl ?_
 with_reducible (apply xo_nil; (repeat first | apply xqT | apply xqB | apply xqS); (repeat apply xc_seq); apply xcR)
 refine xo_bs0 T_ 7 rfl rfl rfl rfl (fun b0 => ?_)
 refine xo_fa T_ rfl rfl rfl rfl rfl ?_
 refine xo_load0 T_ rfl rfl rfl (by repeat first | exact mH | apply mT | apply mA) rfl rfl ?_
 refine xo_appE TR_ rfl rfl rfl rfl rfl rfl rfl rfl (marL_len ms) hB0 (fun p e w1 hw1 j u hj => hw1.kx.cell (flat_row marV 7 zMar (fun _ => rfl) rfl (by omega) hM e hj) (fun h => h)) (one_flat marV marV_ones ms) (by omega) rfl rfl (fun b11 cap11 => ?_)
 refine xo_fa T_ rfl rfl rfl rfl rfl ?_
 refine xo_store T_ rfl rfl rfl rfl (by repeat first | exact mH | apply mT | apply mA) rfl rfl rfl rfl (by repeat first | exact Upd.head | apply Upd.tail | apply Upd.app) rfl ?_
 with_reducible (apply xo_nil; (repeat first | apply xqT | apply xqB | apply xqS); (repeat apply xc_seq); apply xcR)
 refine xo_loadN T_ rfl rfl rfl (by repeat first | exact mH | apply mT | apply mA) rfl rfl ?_
 refine xo_store T_ rfl rfl rfl rfl (by repeat first | exact mH | apply mT | apply mA) rfl rfl rfl rfl (by repeat first | exact Upd.head | apply Upd.tail | apply Upd.app) rfl ?_
 with_reducible (apply xo_nil; (repeat first | apply xqT | apply xqB | apply xqS); (repeat apply xc_seq); apply xc_ret; (repeat (first | apply xq_thenR | apply xq_blockR | apply xq_scopeR)))
 exact xq_retC T_ rfl rfl rfl (by repeat first | exact mH | apply mT | apply mA) rfl fun w' hw => ⟨b6, cap6, b11, cap11, rfl, hw.sub (List.Sublist.cons_cons _ (List.Sublist.cons_cons _ (List.nil_sublist _)))⟩
theorem twin_enters : ∀ args w, (callFunc 13 args).run Tryz.prog w = .ok (.enter 13 args) w := enters_of Tryz.func13 (by kernel_rfl) rfl
theorem RO.fld2 {w : World} {X : Nat → Prop} {p : Addr} {cs : List Value} {i j : Nat} {v : Value} (h : RO w X p cs) (hj : cs[i + j]? = some v) : RO w X ((p.add i).add j) [v] := by
 rw [add_add]
 exact RO.fld h hj
theorem WOK.start1 {w : World} {b : Nat} {φ : HP} {o : Obj} (h1 : w.heap[b]? = some o) (h2 : φ o) : WOK w (fun q => q = b) [(b, true, φ)] w := by
 refine ⟨Kx.refl _ w, ?_, by simp, ?_⟩
 ·intro e he
  simp only [List.mem_singleton] at he
  subst he
  exact ⟨o, h1, h2⟩
 ·intro e he _
  simp only [List.mem_singleton] at he
  subst he
  exact .inr rfl
def rowD (n : Nat) (d : Nat → Int) : List Value := (List.range n).map fun v => Value.int .i64 (d v)
theorem rowD_len (n : Nat) (d : Nat → Int) : (rowD n d).length = n := by simp [rowD]
theorem rowD_at {n : Nat} (d : Nat → Int) {v : Nat} (hv : v < n) : (rowD n d)[0 + (v : Int).toNat * szN 0]? = some (.int .i64 (d v)) := by
 rw [show 0 + (v : Int).toNat * szN 0 = v by rw [show szN 0 = 1 from rfl, Int.toNat_natCast]; omega]
 simp [rowD, hv]
theorem rowD_set {n : Nat} (d : Nat → Int) (a : Nat) (x : Int) : (rowD n d).set (0 + (a : Int).toNat * szN 0) (.int .i64 x) = rowD n (fun v => if v = a then x else d v) := by
 rw [show 0 + (a : Int).toNat * szN 0 = a by rw [show szN 0 = 1 from rfl, Int.toNat_natCast]; omega]
 apply List.ext_getElem?
 intro i
 rw [List.getElem?_set]
 simp only [rowD, List.getElem?_map, List.length_map, List.length_range]
 by_cases hi : i < n
 ·rw [List.getElem?_range hi]
  by_cases e : a = i
  ·subst e
   simp [hi]
  ·rw [if_neg e]
   simp [show ¬ i = a from fun q => e q.symm]
 ·rw [List.getElem?_eq_none (by simpa using hi)]
  by_cases e : a = i
  ·subst e
   simp [hi]
  ·rw [if_neg e]
   rfl
theorem upd_set {b : Nat} {cs cs' : List Value} {t : TypeId} {φ : HP} {r : Hp} (h : cs = cs') : Upd b (cel cs t) ((b, true, φ) :: r) ((b, true, cel cs' t) :: r) := h ▸ Upd.head
theorem rowD_congr {n : Nat} {d e : Nat → Int} (h : ∀ v, v < n → d v = e v) : rowD n d = rowD n e := List.map_congr_left fun v hv => by rw [h v (List.mem_range.1 hv)]
def InN (d : Nat → Int) : Prop := ∀ v, 0 ≤ d v ∧ d v ≤ 1000000
theorem InN.relax {d : Nat → Int} (h : InN d) {e : Edge3} (he : 0 ≤ e.2.2) : InN (relax d e) := fun v => by
 have h1 := h e.1
 have h2 := h e.2.1
 have h3 := h v
 unfold Go.Proofs.YtommeljlfkmpjaaGreatDoor.relax
 split
 ·split <;> omega
 ·split
  ·split <;> omega
  ·exact h3
theorem InN.round {d : Nat → Int} (h : InN d) : ∀ {es : List Edge3}, (∀ e ∈ es, 0 ≤ e.2.2) → InN (roundB es d)
 | [], _ => h
 | e :: es, he => (h.relax (he e List.mem_cons_self)).round (es := es) fun q hq => he q (List.mem_cons_of_mem _ hq)
theorem InN.rounds {d : Nat → Int} (h : InN d) {es : List Edge3} (he : ∀ e ∈ es, 0 ≤ e.2.2) : ∀ k, InN (roundsB es d k)
 | 0 => h
 | k + 1 => (h.rounds he k).round he
theorem InN.start (r : Nat) : InN (startB 1000000 r) := fun v => by unfold startB; split <;> omega
theorem edges_at {gs : List GatT} {l : List Int} (hl : l.length = gs.length) (i : Nat) (hi : i < gs.length) : (edgesL gs l)[i]? = some (edgeL (gs.getD i zGat) (l.getD i 0)) := by
 unfold edgesL
 rw [List.getElem?_zipWith, List.getElem?_eq_getElem hi, List.getElem?_eq_getElem (by omega)]
 simp [List.getD_eq_getElem?_getD, List.getElem?_eq_getElem hi, List.getElem?_eq_getElem (show i < l.length by omega)]
theorem edges_len {gs : List GatT} {l : List Int} (hl : l.length = gs.length) : (edgesL gs l).length = gs.length := by simp [edgesL, hl]
structure MarkR (n : Nat) (m : MarT) : Prop where
 ok : MarkOK m
 room : 0 ≤ m.f2 ∧ m.f2 < n
 other : 0 ≤ m.f3 ∧ m.f3 < n
inductive FG where
 | f0
 | fr (r : Nat)
 | fc (c : Nat)
 | fb (r c : Nat)
 | fs (r c : Nat)
def FG.r : FG → Nat
 | .fr r => r
 | .fb r _ => r
 | .fs r _ => r
 | _ => 0
def FG.c : FG → Nat
 | .fc c => c
 | .fb _ c => c
 | .fs _ c => c
 | _ => 0
def hF (win row : List Value) (η1 : Hp) : FG → Hp
 | .f0 => η1
 | .fr r => (r, true, cel row 3) :: η1
 | .fc c => (c, true, cel [.int .i64 0, .int .i64 0] 45) :: η1
 | .fb r c => (c, true, cel [.int .i64 0, .int .i64 0] 45) :: (r, true, cel row 3) :: η1
 | .fs r c => (c, true, cel win 45) :: (r, true, cel row 3) :: η1
def BlIn (ζ : Hp) (w : World) : Prop := ∀ e ∈ ζ, ∃ o, w.heap[e.1]? = some o ∧ e.2.2 o
theorem WOK.bl_of {w0 : World} {X : Nat → Prop} {ζ η : Hp} {w : World} (h : WOK w0 X η w) (hs : ∀ e ∈ ζ, e ∈ η) : BlIn ζ w := fun e he => h.bl e (hs e he)
theorem intsAt_orow {w : World} {b n cap : Nat} {xs : List Int} {o : Obj} (h : w.heap[b]? = some o) (hr : orow 3 1 n cap (xs.map (.int .i64)) o) (hn : xs.length = n) : IntsAt w (some ⟨b, 0, none⟩) xs := by
 obtain ⟨cur, rfl, h5, h6, h7, h8⟩ := hr
 intro k hk
 refine ⟨_, rfl, ro1 ?_⟩
 rw [Addr.add_lit, show 0 + (k : Int).toNat * szN 0 = k by rw [show szN 0 = 1 from rfl, Int.toNat_natCast]; omega, cell_of_row w b k _ _ _ h, ← Array.getElem?_toList]
 have hx : (xs.map (Value.int .i64))[k]? = some (.int .i64 (xs.getD k 0)) := by
  rw [List.getElem?_map, List.getElem?_eq_getElem hk]
  simp [List.getD_eq_getElem?_getD, List.getElem?_eq_getElem hk]
 rw [← h8, List.getElem?_take] at hx
 split at hx
 ·exact hx
 ·cases hx
theorem intsAt_hp {w : World} {r : RowR} {n : Nat} {xs : List Int} {η1 : Hp} (h : BlIn (hpR 3 1 r n (xs.map (.int .i64)) ++ η1) w) (hn : xs.length = n) (h0 : r = none → n = 0) : IntsAt w (valA r) xs := by
 cases r with
 | none => intro k hk; have := h0 rfl; omega
 | some p =>
  obtain ⟨o, h1, h2⟩ := h (p.1, true, orow 3 1 n p.2 (xs.map (.int .i64))) (List.Mem.head _)
  exact intsAt_orow h1 h2 hn
abbrev dR (n : Nat) (gs : List GatT) (room : Nat) (l : List Int) : Nat → Int := roundsB (edgesL gs l) (startB 1000000 room) n
structure SceneR (w : World) (n : Nat) (E : Int) (A B : Option Addr) (gs : List GatT) (ms : List MarT) : Prop where
 n6 : 1 ≤ n ∧ n ≤ 6
 E6 : 0 ≤ E ∧ E ≤ 600
 G : GatesR n gs
 m8 : ms.length ≤ 8
 mks : ∀ m ∈ ms, MarkR n m
 gates : RowOf gatV 4 zGat w A gs
 marks : RowOf marV 7 zMar w B ms
theorem SceneR.below {w w' : World} {n : Nat} {E : Int} {A B : Option Addr} {gs : List GatT} {ms : List MarT} (h : SceneR w n E A B gs ms) (hb : Below w.heap.size w w') : SceneR w' n E A B gs ms := ⟨h.n6, h.E6, h.G, h.m8, h.mks, h.gates.below hb, h.marks.below hb⟩
theorem intsAt_row {w : World} {r : RowR} {xs : List Int} (h : BlIn (hpR 3 1 r xs.length (xs.map (.int .i64))) w) (h0 : r = none → xs.length = 0) : IntsAt w (valA r) xs := intsAt_hp (η1 := []) (by rw [List.append_nil]; exact h) rfl h0
theorem markR_of {n : Nat} {E : Int} {gs : List GatT} {ms : List MarT} (h : sceneF n E gs ms = true) : ∀ m ∈ ms, MarkR n m := by
 obtain ⟨hR6, hE6, hG, hm8, hmk⟩ := sceneF_ok h
 intro m hm
 have h1 := marks_ok hR6 hmk m hm
 have h2 : ∀ {ms : List MarT} {last : Int}, marksF n last ms = true → ∀ m ∈ ms, (0 ≤ m.f2 ∧ m.f2 < n) ∧ (0 ≤ m.f3 ∧ m.f3 < n) := by
  intro ms
  induction ms with
  | nil => intro last _ m hm; cases hm
  | cons x ms ih =>
   intro last h m hm
   simp only [marksF, Bool.and_eq_true] at h
   obtain ⟨⟨⟨⟨q1, q2⟩, q3⟩, q4⟩, q5⟩ := h
   rcases List.mem_cons.1 hm with rfl | hm
   ·have k2 := inF_iff.1 q2
    refine ⟨by omega, ?_⟩
    unfold kindF at q4
    split at q4
    ·simp only [timedF, Bool.and_eq_true, decide_eq_true_eq] at q4
     omega
    ·split at q4
     ·simp only [lastingF, Bool.and_eq_true, decide_eq_true_eq] at q4
      omega
     ·simp only [beforeF, Bool.and_eq_true] at q4
      have := inF_iff.1 q4.1.1.1
      omega
   ·exact ih q5 m hm
 exact ⟨h1, (h2 hmk m hm).1, (h2 hmk m hm).2⟩
theorem Wk.len {es : List Edge3} (h60 : ∀ e ∈ es, e.2.2 ≤ 60) {b a : Nat} {p : List Nat} {n : Int} (h : Wk es b a p n) : n ≤ 60 * ((p.length : Int) - 1) := by
 induction h with
 | nil => simp
 | @cons a c p n l h _ ih =>
  have h6 : l ≤ 60 := h.elim (fun q => h60 (a, c, l) q) (fun q => h60 (c, a, l) q)
  simp only [List.length_cons]
  omega
theorem far_same {n : Nat} {gs : List GatT} {l : List Int} {room v : Nat} (hn : 1 ≤ n ∧ n ≤ 6) (hG : GatesR n gs) (hl : okD gs l) (hr : room < n) (hv : v < n) :
  (farM n gs l room v = dR n gs room l v ∧ 0 ≤ dR n gs room l v ∧ dR n gs room l v ≤ 300) ∨ (farM n gs l room v = 1073741824 ∧ dR n gs room l v = 1000000) := by
 have hp := okD_pos hl fun g hg => (hG.ok g hg).2.2.2.1
 have h60 : ∀ e ∈ edgesL gs l, e.2.2 ≤ 60 := fun e he => by
  obtain ⟨i, hi, rfl⟩ := List.getElem_of_mem he
  have hll := okD_len hl
  rw [edges_len hll] at hi
  have h1 := edges_at hll i hi
  rw [List.getElem?_eq_getElem (by rw [edges_len hll]; exact hi)] at h1
  rw [Option.some.inj h1]
  have h2 := okD_at hl i hi
  have h3 := hG.ok _ (getD_mem gs zGat i hi)
  simp only [edgeL]
  omega
 have hF : Fine (edgesL gs l) n := fun e he => by
  obtain ⟨g, hg, h1, h2⟩ := edges_from e he
  have h3 := hG.ok g hg
  exact ⟨by omega, by omega, hp e he⟩
 have hne := edges_ne hG l
 have d1 := fw_dist hF hne (N := nvr) (by decide) hr
 have d2 := rounds_dist hF hne (N := 1000000) (by decide) hr
 have key : ∀ {N : Int} {d : Nat → Int}, Dist (edgesL gs l) n N room d → 300 < N → (d v ≤ 300 ∧ d v < N) ∨ ∀ p m, ¬ Wk (edgesL gs l) room v p m := fun {N d} h hN => by
  by_cases hw : ∃ p m, Wk (edgesL gs l) room v p m
  ·obtain ⟨p, m, hw⟩ := hw
   obtain ⟨q, k, h1, h2, h3⟩ := hw.simple hF
   have h4 := h1.len h60
   have h5 := nodup_le n q h2 (h1.room hF hr)
   have h6 := h.least v hv q k h1
   left
   omega
  ·right
   exact fun p m q => hw ⟨p, m, q⟩
 have k1 := key d1 (by decide)
 have k2 := key d2 (by decide)
 have p2 := d2.pos hF (by decide) hv
 rcases Dist.same d1 d2 hv (k1.imp_left (·.2)) (k2.imp_left (·.2)) with e | ⟨e1, e2⟩
 ·rcases k2 with ⟨q, _⟩ | q
  ·exact .inl ⟨e, p2, q⟩
  ·right
   refine ⟨(d1.is v hv).resolve_right fun ⟨p, w⟩ => q p _ w, (d2.is v hv).resolve_right fun ⟨p, w⟩ => q p _ w⟩
 ·exact .inr ⟨e1, e2⟩
def inS (s : SpaT) (z : Int) : Prop := s.f0 ≤ z ∧ z ≤ s.f1
def Eqv (E : Int) (s t : SpaT) : Prop := (∀ z, inS s z ↔ inS t z) ∧ ∀ z, inS s z → 0 ≤ z ∧ z ≤ E
theorem Eqv.le {E : Int} {s t : SpaT} (h : Eqv E s t) : decide (s.f0 ≤ s.f1) = decide (t.f0 ≤ t.f1) := by
 rw [Bool.eq_iff_iff, decide_eq_true_eq, decide_eq_true_eq]
 have h1 := h.1 s.f0
 have h2 := h.1 t.f0
 unfold inS at h1 h2
 omega
theorem Eqv.eq {E : Int} {s t : SpaT} (h : Eqv E s t) (hle : s.f0 ≤ s.f1) : s = t := by
 have h1 := h.1 s.f0
 have h2 := h.1 s.f1
 have h3 := h.1 t.f0
 have h4 := h.1 t.f1
 unfold inS at h1 h2 h3 h4
 obtain ⟨a, b⟩ := s
 obtain ⟨c, d⟩ := t
 simp only at h1 h2 h3 h4 hle
 have e1 : a = c := by omega
 have e2 : b = d := by omega
 rw [e1, e2]
theorem in_com (x y : SpaT) (z : Int) : inS (comF x y) z ↔ inS x z ∧ inS y z := by
 unfold inS
 rw [show (comF x y).f0 = if x.f0 < y.f0 then y.f0 else x.f0 from rfl, show (comF x y).f1 = if y.f1 < x.f1 then y.f1 else x.f1 from rfl]
 split <;> split <;> omega
theorem Eqv.com {E : Int} {s t x y : SpaT} (h : Eqv E s t) (hx : ∀ z, 0 ≤ z → z ≤ E → (inS x z ↔ inS y z)) : Eqv E (comF s x) (comF t y) := by
 refine ⟨fun z => ?_, fun z hz => h.2 z ((in_com _ _ _).1 hz).1⟩
 rw [in_com, in_com]
 constructor
 ·rintro ⟨h1, h2⟩
  have := h.2 z h1
  exact ⟨(h.1 z).1 h1, (hx z this.1 this.2).1 h2⟩
 ·rintro ⟨h1, h2⟩
  have h1 := (h.1 z).2 h1
  have := h.2 z h1
  exact ⟨h1, (hx z this.1 this.2).2 h2⟩
theorem in_after {n d z : Int} (hz : 0 ≤ z ∧ z ≤ 600) : inS (afterF n d) z ↔ (d = 1073741824 ∨ n + 1 - d ≤ z) := by
 unfold afterF inS
 split
 ·simp only
  omega
 ·simp only
  omega
theorem in_until {n d z : Int} (hz : 0 ≤ z ∧ z ≤ 600) : inS (untilF n d) z ↔ (d ≠ 1073741824 ∧ z ≤ n - d) := by
 unfold untilF nowhereF inS
 split
 ·simp only
  omega
 ·simp only
  omega
theorem in_lit {a b z : Int} : inS ⟨a, b⟩ z ↔ a ≤ z ∧ z ≤ b := Iff.rfl
theorem in_ite {p : Prop} [Decidable p] {s t : SpaT} {z : Int} : inS (if p then s else t) z ↔ (p ∧ inS s z) ∨ (¬ p ∧ inS t z) := by
 by_cases h : p
 ·rw [if_pos h]; simp [h]
 ·rw [if_neg h]; simp [h]
structure Sane (n : Nat) (E : Int) (gs : List GatT) : Prop where
 n6 : 1 ≤ n ∧ n ≤ 6
 E6 : 0 ≤ E ∧ E ≤ 600
 G : GatesR n gs
theorem sane_of {R E : Int} {n : Nat} {gs : List GatT} {ms : List MarT} (hR : R = n) (h : sceneF R E gs ms = true) : Sane n E gs ∧ ∀ m ∈ ms, MarkR n m := by
 subst hR
 obtain ⟨hR6, hE6, hG, hm8, hmk⟩ := sceneF_ok h
 refine ⟨⟨by omega, hE6, hG⟩, ?_⟩
 exact markR_of h
theorem u8_of {n : Int} (h : (Lit.int .u8 n).wf = true) : 0 ≤ n ∧ n ≤ 255 := by
 simp only [Lit.wf, Bool.and_eq_true, decide_eq_true_eq] at h
 exact h
theorem gates_C {w : World} {b cap : Nat} {gs : List GatT} (hl : gs.length ≤ 1000000) (h : BlIn [(b, true, orow 52 4 gs.length cap (gatL gs))] w) : Kd.C gatK w (some ⟨b, 0, none⟩) gs.length gs := by
 obtain ⟨o, h1, h2⟩ := h _ List.mem_cons_self
 refine C_row (d := gatK) (cells := gs.map gatV) (cap := cap) h1 (e := 52) (by rw [List.length_map]; exact h2) (by simp) (by intro c hc; obtain ⟨x, _, rfl⟩ := List.mem_map.1 hc; rfl) (fun j x c hx hcx => ?_) (by omega)
 rw [List.getElem?_map, hx] at hcx
 obtain rfl := Option.some.inj hcx
 exact k52_mk w x
theorem marks_C {w : World} {b cap : Nat} {ms : List MarT} (hl : ms.length ≤ 1000000) (h : BlIn [(b, true, orow 56 7 ms.length cap (marL ms))] w) : Kd.C marK w (some ⟨b, 0, none⟩) ms.length ms := by
 obtain ⟨o, h1, h2⟩ := h _ List.mem_cons_self
 refine C_row (d := marK) (cells := ms.map marV) (cap := cap) h1 (e := 56) (by rw [List.length_map]; exact h2) (by simp) (by intro c hc; obtain ⟨x, _, rfl⟩ := List.mem_map.1 hc; rfl) (fun j x c hx hcx => ?_) (by omega)
 rw [List.getElem?_map, hx] at hcx
 obtain rfl := Option.some.inj hcx
 exact k56_mk w x
theorem C_none {α : Type} {d : Kd α} {w : World} {A : Option Addr} {xs : List α} (h : Kd.C d w A xs.length xs) (e : A = none) : xs.length = 0 := by
 subst e
 by_cases h0 : xs.length = 0
 ·exact h0
 ·obtain ⟨ad, e, _⟩ := h.2.2 (by omega)
  cases e
def exG : List GatT := [⟨0, 1, ⟨2, 3⟩⟩, ⟨1, 2, ⟨4, 4⟩⟩]
def exM : List MarT := [⟨1, 1, 2, 0, ⟨10, 12⟩, 0⟩, ⟨2, 2, 0, 0, ⟨4, 5⟩, 0⟩]
def beM : MarT := ⟨3, 6, 0, 1, ⟨0, 0⟩, 0⟩
def meM : MarT := ⟨4, 4, 0, 0, ⟨0, 0⟩, 26⟩
theorem marL_at : ∀ (l : List MarT) (k j : Nat), k < l.length → j < 7 → (marL l)[k * 7 + j]? = (marV (l.getD k zMar))[j]?
 | [], k, _, h, _ => absurd h (by simp)
 | x :: l, 0, j, _, hj => by
  have hx : (marV x).length = 7 := rfl
  rw [marL, List.map_cons, List.flatten_cons, Nat.zero_mul, Nat.zero_add, List.getElem?_append_left (by rw [hx]; exact hj)]
  rfl
 | x :: l, k + 1, j, h, hj => by
  have hx : (marV x).length = 7 := rfl
  have := marL_at l k j (by simpa using h) hj
  rw [marL, List.map_cons, List.flatten_cons, List.getElem?_append_right (by rw [hx]; omega), hx, show (k + 1) * 7 + j - 7 = k * 7 + j by omega]
  exact this
theorem add_two (p : Addr) (a b : Nat) : (p.add a).add b = p.add (a + b) := by
 cases p; by_cases h1 : a = 0 <;> by_cases h2 : b = 0 <;> simp [Addr.add, h1, h2, Nat.add_assoc]
section
variable {P : Program} {ro : Option Nat} {n N : Nat} {ds : List Deferred} {w0 : World} {X : Nat → Prop} {Q : Exit → Act → World → Prop} {σ : Slots} {η : Hp} {ops rest : List Oper} {d : Option Tmp} {ty : TypeId} {pos : String} {aft : Array Edge} {g : Option (Nat × Bool)} {x y : Operand} {t t' : TypeId}
theorem WOK.asRow {b : Nat} {wr : Bool} {cs : List Value} {t : TypeId} {η0 : Hp} {w : World} (sz n : Nat) (hn : cs.length = n * sz) (hm : n ≤ maxLen) (h : WOK w0 X ((b, wr, cel cs t) :: η0) w) : WOK w0 X ((b, wr, orow t sz n n cs) :: η0) w := by
 refine ⟨h.kx, fun e he => ?_, h.nd, fun e he hw => ?_⟩
 ·rcases List.mem_cons.1 he with rfl | he
  ·obtain ⟨o, h1, h2⟩ := h.bl _ List.mem_cons_self
   exact ⟨o, h1, cel_row hn hm h2⟩
  ·exact h.bl _ (List.mem_cons_of_mem _ he)
 ·rcases List.mem_cons.1 he with rfl | he
  ·exact h.ow (b, wr, cel cs t) List.mem_cons_self hw
  ·exact h.ow _ (List.mem_cons_of_mem _ he) hw
theorem xo_asRow {b : Nat} {wr : Bool} {cs : List Value} {t : TypeId} {η0 : Hp} (sz m : Nat) (hn : cs.length = m * sz) (hm : m ≤ maxLen) (h : XO P ro n N ds w0 X Q ops σ ((b, wr, orow t sz m m cs) :: η0) rest) : XO P ro n N ds w0 X Q ops σ ((b, wr, cel cs t) :: η0) rest :=
 fun a w ha hw => h a w ha (hw.asRow sz m hn hm)
theorem xo_catM (l0 l : List MarT) (T : TysR P) {t e : TypeId} {s x : Operand} {z : Value} {by_ c b0 cap0 : Nat} {A : Option Addr} {η0 : Hp} (hg : gS ops σ g = some true) (ht : look t T.el = some e) (hi : look e T.inf = some (z, 7, by_)) (hzs : z.cells.toList.length = 7)
  (hs : ev σ s = some (.slice (some ⟨b0, 0, none⟩) l0.length cap0)) (hx : ev σ x = some (.slice A l.length c)) (hη : η = (b0, true, orow e 7 l0.length cap0 (marL l0)) :: η0) (hA : A = none → l.length = 0) (hnews : ∀ w, WOK w0 X η w → RowOf marV 7 zMar w A l)
  (hb : (l0.length + l.length) * by_ ≤ 140737488355328) (hb0 : Nat.blt 0 by_ = true) (hN : dstOK N d = true)
  (h : ∀ b cap, XO P ro n N ds w0 X Q ops (putS d (.slice (some ⟨b, 0, none⟩) (l0 ++ l).length cap) σ) ((b, true, orow e 7 (l0 ++ l).length cap (marL (l0 ++ l))) :: η0) rest) :
  XO P ro n N ds w0 X Q ops σ η (⟨d, .call { callee := .builtin .append, args := #[s, x], argTypes := #[t, t] }, ty, pos, aft, g⟩ :: rest) := by
 refine xo_appN T (r := some (b0, cap0)) (m := l0.length) (xs := marL l0) (news := marL l) (η0 := η0) hg ht hi hzs rfl hs hx hη (marL_len l0) (marL_len l) hA (fun p hp w hw j u hj => ?_) (fun u hu => by
  obtain ⟨c, hc, hu⟩ := List.mem_flatten.1 hu
  obtain ⟨q, _, rfl⟩ := List.mem_map.1 hc
  simp only [marV, List.mem_cons, List.not_mem_nil, or_false] at hu
  rcases hu with rfl | rfl | rfl | rfl | rfl | rfl | rfl <;> rfl) (fun q => by cases q) hb hb0 hN fun r' hr' => ?_
 ·have hlt := (List.getElem?_eq_some_iff.1 hj).1
  rw [marL_len] at hlt
  have hk : j / 7 < l.length := by omega
  obtain ⟨ad, e1, h1⟩ := hnews w hw _ hk
  rw [hp] at e1
  obtain rfl := Option.some.inj e1
  have h2 := (h1 (j % 7) u (by rw [← marL_at l (j / 7) (j % 7) hk (by omega), show j / 7 * 7 + j % 7 = j by omega]; exact hj)).1
  rw [add_two, show szN 7 = 7 from rfl, show (((j / 7 : Nat) : Int).toNat * 7 + j % 7) = j by omega] at h2
  exact h2
 rcases r' with _ | ⟨b, cap⟩
 ·exact absurd (hr' rfl).1 (by simp)
 ·have := h b cap
  unfold marL at this
  rw [List.length_append, List.map_append, List.flatten_append] at this
  exact this
end
theorem span_calls (lo hi : Int) (w : World) : Calls Tryz.prog 34 #[.int .i64 lo, .int .i64 hi] w fun e w' => e = .returned (.agg #[.int .i64 lo, .int .i64 hi]) ∧ Below w.heap.size w w' := by
 refine x_calls (X := XNone) Tryz.func34 rfl rfl rfl ?_
 with_reducible ((repeat apply xc_seq); apply xcR)
 refine xo_alloc T_ rfl rfl rfl rfl (fun b4 => ?_)
 with_reducible (apply xo_nil; (repeat first | apply xqT | apply xqB | apply xqS); (repeat apply xc_seq); apply xcR)
 refine xoM ?_
 refine xoM ?_
 refine xo_build TB_ rfl rfl rfl rfl rfl ?_
 refine xo_store T_ rfl rfl rfl rfl (by repeat first | exact mH | apply mT | apply mA) rfl rfl rfl rfl (by repeat first | exact Upd.head | apply Upd.tail | apply Upd.app) rfl ?_
 with_reducible (apply xo_nil; (repeat first | apply xqT | apply xqB | apply xqS); (repeat apply xc_seq); apply xc_ret; (repeat (first | apply xq_thenR | apply xq_blockR | apply xq_scopeR)))
 exact xq_retC T_ rfl rfl rfl (by repeat first | exact mH | apply mT | apply mA) rfl fun w' hw => ⟨rfl, hw.kx.below⟩
theorem span_enters : ∀ args w, (callFunc 34 args).run Tryz.prog w = .ok (.enter 34 args) w := enters_of Tryz.func34 (by kernel_rfl) rfl
theorem before_calls (w : World) : Calls Tryz.prog 50 #[] w fun e w' => e = .returned (.agg (marV beM).toArray) ∧ Below w.heap.size w w' := by
 refine x_calls (X := XNone) Tryz.func50 rfl rfl rfl ?_
 with_reducible ((repeat apply xc_seq); apply xcR)
 refine xo_alloc T_ rfl rfl rfl rfl (fun b0 => ?_)
 with_reducible (apply xo_nil; (repeat first | apply xqT | apply xqB | apply xqS); (repeat apply xc_seq); apply xcR)
 refine xo_build TB_ rfl rfl rfl rfl rfl ?_
 refine xo_store T_ rfl rfl rfl rfl (by repeat first | exact mH | apply mT | apply mA) rfl rfl rfl rfl (by repeat first | exact Upd.head | apply Upd.tail | apply Upd.app) rfl ?_
 with_reducible (apply xo_nil; (repeat first | apply xqT | apply xqB | apply xqS); (repeat apply xc_seq); apply xc_ret; (repeat (first | apply xq_thenR | apply xq_blockR | apply xq_scopeR)))
 exact xq_retC T_ rfl rfl rfl (by repeat first | exact mH | apply mT | apply mA) rfl fun w' hw => ⟨rfl, hw.kx.below⟩
theorem before_enters : ∀ args w, (callFunc 50 args).run Tryz.prog w = .ok (.enter 50 args) w := enters_of Tryz.func50 (by kernel_rfl) rfl
theorem melt_calls (w : World) : Calls Tryz.prog 51 #[] w fun e w' => e = .returned (.agg (marV meM).toArray) ∧ Below w.heap.size w w' := by
 refine x_calls (X := XNone) Tryz.func51 rfl rfl rfl ?_
 with_reducible ((repeat apply xc_seq); apply xcR)
 refine xo_alloc T_ rfl rfl rfl rfl (fun b0 => ?_)
 with_reducible (apply xo_nil; (repeat first | apply xqT | apply xqB | apply xqS); (repeat apply xc_seq); apply xcR)
 refine xo_build TB_ rfl rfl rfl rfl rfl ?_
 refine xo_store T_ rfl rfl rfl rfl (by repeat first | exact mH | apply mT | apply mA) rfl rfl rfl rfl (by repeat first | exact Upd.head | apply Upd.tail | apply Upd.app) rfl ?_
 with_reducible (apply xo_nil; (repeat first | apply xqT | apply xqB | apply xqS); (repeat apply xc_seq); apply xc_ret; (repeat (first | apply xq_thenR | apply xq_blockR | apply xq_scopeR)))
 exact xq_retC T_ rfl rfl rfl (by repeat first | exact mH | apply mT | apply mA) rfl fun w' hw => ⟨rfl, hw.kx.below⟩
theorem melt_enters : ∀ args w, (callFunc 51 args).run Tryz.prog w = .ok (.enter 51 args) w := enters_of Tryz.func51 (by kernel_rfl) rfl
set_option maxHeartbeats 4000000 in
theorem lscene_calls (A : Option Addr) (c : Nat) (ls : List MarT) (w : World) (hl : ls.length ≤ 100) (hA : A = none → ls.length = 0) (hM : RowOf marV 7 zMar w A ls) :
  Calls Tryz.prog 49 #[.slice A ls.length c] w fun e w' => ∃ bg bm km, e = .returned (.agg (scnV 3 (some ⟨bg, 0, none⟩) exG.length 2 30 (some ⟨bm, 0, none⟩) (exM ++ ls).length km).toArray) ∧ WOK w XNone [(bm, true, orow 56 7 (exM ++ ls).length km (marL (exM ++ ls))), (bg, true, orow 52 4 exG.length 2 (gatL exG))] w' := by
 refine x_calls (X := XNone) Tryz.func49 rfl rfl rfl ?_
 with_reducible ((repeat apply xc_seq); apply xcR)
 refine xo_alloc T_ rfl rfl rfl rfl (fun b2 => ?_)
 with_reducible (apply xo_nil; (repeat first | apply xqT | apply xqB | apply xqS); (repeat apply xc_seq); apply xcR)
 refine xo_callB (fs := []) (cs := []) rfl rfl rfl span_enters rfl (fun w1 hw1 => span_calls 2 3 w1) ?_
 refine xo_build TB_ rfl rfl rfl rfl rfl ?_
 refine xo_callB (fs := []) (cs := []) rfl rfl rfl span_enters rfl (fun w1 hw1 => span_calls 4 4 w1) ?_
 refine xo_build TB_ rfl rfl rfl rfl rfl ?_
 refine xo_bsG T_ 4 rfl rfl rfl rfl rfl rfl rfl rfl rfl rfl (fun b7 => ?_)
 refine xo_asRow 4 2 rfl (by decide) ?_
 refine xo_callB (fs := []) (cs := []) rfl rfl rfl span_enters rfl (fun w1 hw1 => span_calls 10 12 w1) ?_
 refine xo_build TB_ rfl rfl rfl rfl rfl ?_
 refine xo_callB (fs := []) (cs := []) rfl rfl rfl span_enters rfl (fun w1 hw1 => span_calls 4 5 w1) ?_
 refine xo_build TB_ rfl rfl rfl rfl rfl ?_
 refine xo_bsG T_ 7 rfl rfl rfl rfl rfl rfl rfl rfl rfl rfl (fun b12 => ?_)
 refine xo_asRow 7 2 rfl (by decide) ?_
 refine xoM ?_
 refine xo_catM exM ls TR_ (A := A) rfl rfl rfl rfl rfl rfl rfl hA (fun w1 hw1 => hM.below hw1.kx.below) (by simp [exM]; omega) rfl rfl (fun bm km => ?_)
 refine xo_build TB_ rfl rfl rfl rfl rfl ?_
 refine xo_store T_ rfl rfl rfl rfl (by repeat first | exact mH | apply mT | apply mA) rfl rfl rfl rfl (by repeat first | exact Upd.head | apply Upd.tail | apply Upd.app) rfl ?_
 with_reducible (apply xo_nil; (repeat first | apply xqT | apply xqB | apply xqS); (repeat apply xc_seq); apply xc_ret; (repeat (first | apply xq_thenR | apply xq_blockR | apply xq_scopeR)))
 exact xq_retC T_ rfl rfl rfl (by repeat first | exact mH | apply mT | apply mA) rfl fun w' hw => ⟨b7, bm, km, rfl, hw.sub (by repeat (first | exact List.Sublist.refl _ | apply List.Sublist.cons_cons | apply List.Sublist.cons | exact List.nil_sublist _))⟩
theorem lscene_enters : ∀ args w, (callFunc 49 args).run Tryz.prog w = .ok (.enter 49 args) w := enters_of Tryz.func49 (by kernel_rfl) rfl
theorem spa_inj : ∀ {xs ys : List SpaT}, xs.map (fun s => (s.f0, s.f1)) = ys.map (fun s => (s.f0, s.f1)) → xs = ys
 | [], [], _ => rfl
 | [], _ :: _, h => by simp at h
 | _ :: _, [], h => by simp at h
 | ⟨a, b⟩ :: xs, ⟨c, d⟩ :: ys, h => by
  simp only [List.map_cons, List.cons.injEq, Prod.mk.injEq] at h
  obtain ⟨⟨rfl, rfl⟩, h⟩ := h
  rw [spa_inj h]
theorem x_m0 : minutesL 3 30 exG (exM ++ []) 0 = [⟨5, 6⟩] ∧ minutesC 3 30 exG (exM ++ []) 0 = 0 := ⟨spa_inj (ys := [⟨5, 6⟩]) (by decide +kernel), by decide +kernel⟩
theorem x_m1 : minutesL 3 30 exG (exM ++ []) 1 = [⟨6, 8⟩] ∧ minutesC 3 30 exG (exM ++ []) 1 = 0 := ⟨spa_inj (ys := [⟨6, 8⟩]) (by decide +kernel), by decide +kernel⟩
theorem x_m2 : minutesL 3 30 exG (exM ++ []) 2 = [⟨10, 12⟩] ∧ minutesC 3 30 exG (exM ++ []) 2 = 0 := ⟨spa_inj (ys := [⟨10, 12⟩]) (by decide +kernel), by decide +kernel⟩
theorem x_t06 : truthL 3 30 exG (exM ++ []) 0 6 = [2, 4] ∧ truthC 3 30 exG (exM ++ []) 0 6 = 0 := by decide +kernel
theorem x_n : namedC 3 30 exG (exM ++ []) = 6 := by decide +kernel
theorem x_n3 : namedC 3 30 exG (exM ++ [beM]) = 0 ∧ namedV 3 30 exG (exM ++ [beM]) = 0 := by decide +kernel
theorem x_w1 : whyC 3 30 exG (exM ++ [beM]) 1 = 0 ∧ whyL 3 30 exG (exM ++ [beM]) 1 = [3] := by decide +kernel
theorem x_a : checkF 3 30 exG (exM ++ [beM, meM]) = 0 ∧ againstL 3 30 exG (exM ++ [beM, meM]) = [2, 4] := by decide +kernel
theorem x_r : roomsR 3 30 exG (exM ++ [beM, meM]) = [] := by decide +kernel
theorem x_by (ls : List MarT) (h : ls ∈ [[], [beM], [beM, meM]]) : BytesK (exM ++ ls) := by
 simp only [List.mem_cons, List.not_mem_nil, or_false] at h
 rcases h with rfl | rfl | rfl <;> unfold BytesK <;> decide
theorem own_scene {w0 : World} {X : Nat → Prop} {η : Hp} {w1 : World} (hw1 : WOK w0 X η w1) {bg kg bm km : Nat} {gs : List GatT} {ms : List MarT} (hg : gs.length ≤ 1000000) (hm : ms.length ≤ 1000000) (hk : BytesK ms) (hglob : GlobO w1)
  (m1 : (bg, true, orow 52 4 gs.length kg (gatL gs)) ∈ η) (m2 : (bm, true, orow 56 7 ms.length km (marL ms)) ∈ η) : SceneAt w1 (some ⟨bg, 0, none⟩) (some ⟨bm, 0, none⟩) gs ms :=
 ⟨gates_C hg (hw1.bl_of fun e he => by rw [List.mem_singleton.1 he]; exact m1), marks_C hm (hw1.bl_of fun e he => by rw [List.mem_singleton.1 he]; exact m2), hk, hglob⟩
theorem none_row (w : World) : RowOf marV 7 zMar w none [] := fun k hk => absurd hk (by simp)
theorem spansAt_row {w : World} {r : RowR} {xs : List SpaT} (h : BlIn (hpR 45 2 r xs.length (spaL xs)) w) (h0 : r = none → xs.length = 0) : SpansAt w (valA r) xs := by
 intro k hk
 cases r with
 | none => have := h0 rfl; omega
 | some p =>
  obtain ⟨o, h1, cur, rfl, h2, h3, h4, h5⟩ := h (p.1, true, orow 45 2 xs.length p.2 (spaL xs)) (List.Mem.head _)
  refine ⟨⟨p.1, 0, none⟩, rfl, ro_of fun j v hj => ?_⟩
  have hj2 : j < 2 := (List.getElem?_eq_some_iff.1 hj).1
  rw [add_two, Addr.add_lit]
  rw [show szN 2 = 2 from rfl, show (0 + (((k : Nat) : Int).toNat * 2 + j)) = k * 2 + j by omega]
  rw [cell_of_row w _ _ _ _ _ h1]
  rw [← spaL_at xs k hk j hj2, ← h5, List.getElem?_take_of_lt (by omega), Array.getElem?_toList] at hj
  exact hj
theorem spans1 {w : World} {b : Nat} {x : SpaT} (h : BlIn [(b, true, cel (spaV x) 45)] w) : SpansAt w (some ⟨b, 0, none⟩) [x] := by
 obtain ⟨o, h1, h2⟩ := h _ List.mem_cons_self
 refine spansAt_row (r := some (b, 1)) (xs := [x]) (fun e he => ?_) (fun q => by cases q)
 rw [List.mem_singleton.1 he]
 exact ⟨o, h1, cel_row (by rw [spaL_len]) (by simp [maxLen]) h2⟩
set_option maxHeartbeats 4000000 in
theorem lbegan_calls (room lo hi : Int) (w : World) (hglob : GlobO w) (h : minutesL 3 30 exG (exM ++ []) room = [⟨lo, hi⟩] ∧ minutesC 3 30 exG (exM ++ []) room = 0) :
  Calls Tryz.prog 52 #[.int .i64 room, .int .i64 lo, .int .i64 hi] w fun e w' => e = .returned (.bool true) ∧ Below w.heap.size w w' := by
 refine x_calls (X := XNone) Tryz.func52 rfl rfl rfl ?_
 with_reducible ((repeat apply xc_seq); apply xcR)
 refine xoA ?_
 with_reducible (apply xo_nil; (repeat first | apply xqT | apply xqB | apply xqS); (repeat apply xc_seq); apply xcR)
 refine xo_call (fs := []) (cs := []) rfl rfl rfl lscene_enters rfl (fun w1 hw1 => (lscene_calls none 0 [] w1 (by simp) (fun _ => rfl) (none_row w1)).mono ?_)
 rintro e w2 ⟨bg, bm, km, rfl, hz⟩
 refine ⟨_, [(bm, true, orow 56 7 (exM ++ [] : List MarT).length km (marL (exM ++ [] : List MarT))), (bg, true, orow 52 4 exG.length 2 (gatL exG))], rfl, hw1.join hz (fun e he => by simp only [List.mem_cons, List.not_mem_nil, or_false] at he; rcases he with rfl | rfl <;> rfl), ?_⟩
 clear hz hw1
 refine xoM ?_
 refine xo_call (fs := []) (cs := []) rfl rfl rfl Minutes_enters rfl (fun w1 hw1 => (Minutes_calls 3 30 _ _ 2 km exG (exM ++ []) room w1 (own_scene (kg := 2) hw1 (by decide) (by decide) (x_by [] (by simp)) (hglob.below hw1.kx.below) (by repeat (first | exact List.Mem.head _ | exact List.mem_append_left _ (List.Mem.head _) | apply List.mem_append_right | apply List.Mem.tail)) (by repeat (first | exact List.Mem.head _ | exact List.mem_append_left _ (List.Mem.head _) | apply List.mem_append_right | apply List.Mem.tail)))).mono ?_)
 rintro e w2 ⟨rr, rfl, hrow, hb⟩
 have hrr := hrow.1
 refine ⟨_, _, rfl, hw1.rowZ hb hrow, ?_⟩
 clear hrow hb hw1
 refine xoM ?_
 refine xo_ext rfl rfl rfl rfl ?_
 refine xo_ext rfl rfl rfl rfl ?_
 refine xoA ?_
 refine xoA ?_
 with_reducible (apply xo_nil; (repeat first | apply xqT | apply xqB | apply xqS))
 rw [h.1] at hrr ⊢
 have h7 : rr = none → [(⟨lo, hi⟩ : SpaT)].length = 0 := hrr
 have e16 : decide (minutesC 3 30 exG (exM ++ []) room = 0) = true := decide_eq_true h.2
 have e23 : eqL [(⟨lo, hi⟩ : SpaT)] [⟨lo, hi⟩] = true := eqL_true rfl
 refine xc_slots [(1, .int .i64 lo), (2, .int .i64 hi), (7, .slice (valA rr) [(⟨lo, hi⟩ : SpaT)].length (valC rr)), (8, .int .i64 (minutesC 3 30 exG (exM ++ []) room))] ⟨rfl, rfl, congrArg some (valR_eq h7), rfl, trivial⟩ ?_
 with_reducible ((repeat apply xc_seq); apply xcR)
 refine xoM ?_
 refine xo_eql rfl rfl rfl rfl ?_
 refine xo_as (i := 16) rfl (congrArg Value.bool e16) ?_
 refine xoM ?_
 (first | refine xoN ?_ | refine xoM ?_)
 (first | refine xoN ?_ | refine xoM ?_)
 (first | refine xoN ?_ | refine xoM ?_)
 (first | refine xoN ?_ | refine xo_callB (fs := []) (cs := []) rfl rfl rfl span_enters rfl (fun w1 hw1 => span_calls lo hi w1) ?_)
 (first | refine xoN ?_ | refine xo_bsG T_ 2 rfl rfl rfl rfl rfl rfl rfl rfl rfl rfl (fun b22 => ?_))
 (first | refine xoN ?_ | refine xo_callB (fs := []) (cs := []) rfl rfl rfl sameSpans_enters rfl (fun w1 hw1 => sameSpans_calls (valA rr) (some ⟨b22, 0, none⟩) (valC rr) 1 [⟨lo, hi⟩] [⟨lo, hi⟩] w1 (spansAt_row (hw1.bl_of (fun e he => by repeat (first | exact he | exact List.mem_append_left _ he | apply List.mem_append_right | apply List.Mem.tail))) h7) (spans1 (hw1.bl_of (fun e he => by repeat (first | exact he | exact List.mem_append_left _ he | apply List.mem_append_right | apply List.Mem.tail)))) (by simp)) ?_)
 refine xo_as (i := 23) rfl (congrArg Value.bool e23) ?_
 first | refine xo_pickT rfl rfl rfl rfl ?_ | refine xo_pickF rfl rfl rfl rfl ?_
 refine xoA ?_
 with_reducible (apply xo_nil; (repeat first | apply xqT | apply xqB | apply xqS); (repeat apply xc_seq); apply xc_ret; (repeat (first | apply xq_thenR | apply xq_blockR | apply xq_scopeR)))
 exact xq_ret1 rfl rfl fun w' hw => ⟨rfl, hw.kx.below⟩
theorem lbegan_enters : ∀ args w, (callFunc 52 args).run Tryz.prog w = .ok (.enter 52 args) w := enters_of Tryz.func52 (by kernel_rfl) rfl
theorem marks_cel {w : World} {b : Nat} {ls : List MarT} {cs : List Value} (hl : ls.length ≤ 100) (hcs : cs = marL ls) (h : BlIn [(b, true, cel cs 56)] w) : RowOf marV 7 zMar w (some ⟨b, 0, none⟩) ls := by
 subst hcs
 obtain ⟨o, h1, h2⟩ := h _ List.mem_cons_self
 refine mar_row (marks_C (cap := ls.length) (by omega) fun e he => ?_)
 rw [List.mem_singleton.1 he]
 exact ⟨o, h1, cel_row (by rw [marL_len]) (by simp [maxLen]; omega) h2⟩
theorem ints_cel {w : World} {b : Nat} {xs : List Int} {cs : List Value} (hl : xs.length ≤ 100) (hcs : cs = xs.map (.int .i64)) (h : BlIn [(b, true, cel cs 3)] w) : IntsAt w (some ⟨b, 0, none⟩) xs := by
 subst hcs
 obtain ⟨o, h1, h2⟩ := h _ List.mem_cons_self
 refine intsAt_row (r := some (b, xs.length)) (xs := xs) (fun e he => ?_) (fun q => by cases q)
 rw [List.mem_singleton.1 he]
 exact ⟨o, h1, cel_row (by simp) (by simp [maxLen]; omega) h2⟩
set_option maxHeartbeats 4000000 in
theorem lwhy_calls (room mark : Int) (w : World) (hglob : GlobO w) (h : whyC 3 30 exG (exM ++ [beM]) room = 0 ∧ whyL 3 30 exG (exM ++ [beM]) room = [mark]) :
  Calls Tryz.prog 53 #[.int .i64 room, .int .i64 mark] w fun e w' => e = .returned (.bool true) ∧ Below w.heap.size w w' := by
 refine x_calls (X := XNone) Tryz.func53 rfl rfl rfl ?_
 with_reducible ((repeat apply xc_seq); apply xcR)
 refine xoA ?_
 with_reducible (apply xo_nil; (repeat first | apply xqT | apply xqB | apply xqS); (repeat apply xc_seq); apply xcR)
 refine xo_callB (fs := []) (cs := []) rfl rfl rfl before_enters rfl (fun w1 hw1 => before_calls w1) ?_
 refine xo_bsG T_ 7 rfl rfl rfl rfl rfl rfl rfl rfl rfl rfl (fun b9 => ?_)
 refine xo_call (fs := []) (cs := []) rfl rfl rfl lscene_enters rfl (fun w1 hw1 => (lscene_calls (some ⟨b9, 0, none⟩) 1 [beM] w1 (by simp) (fun q => by cases q) (marks_cel (by simp) rfl (hw1.bl_of (fun e he => by repeat (first | exact he | exact List.mem_append_left _ he | apply List.mem_append_right | apply List.Mem.tail))))).mono ?_)
 rintro e w2 ⟨bg, bm, km, rfl, hz⟩
 refine ⟨_, _, rfl, hw1.join hz (fun e he => by simp only [List.mem_cons, List.not_mem_nil, or_false] at he; rcases he with rfl | rfl <;> rfl), ?_⟩
 clear hz hw1
 refine xoM ?_
 refine xo_call (fs := []) (cs := []) rfl rfl rfl Why_enters rfl (fun w1 hw1 => (Why_calls 3 30 _ _ 2 km exG (exM ++ [beM]) room w1 (own_scene (kg := 2) hw1 (by decide) (by decide) (x_by [beM] (by simp)) (hglob.below hw1.kx.below) (by repeat first | exact mH | apply mT | apply mA) (by repeat first | exact mH | apply mT | apply mA))).mono ?_)
 rintro e w2 ⟨rr, rfl, hrow, hb⟩
 have hrr := hrow.1
 refine ⟨_, _, rfl, hw1.row hb hrow, ?_⟩
 clear hrow hb hw1
 refine xoM ?_
 refine xo_ext rfl rfl rfl rfl ?_
 refine xo_ext rfl rfl rfl rfl ?_
 refine xoA ?_
 refine xoA ?_
 with_reducible (apply xo_nil; (repeat first | apply xqT | apply xqB | apply xqS))
 rw [h.2] at hrr ⊢
 have h7 : rr = none → ([mark] : List Int).length = 0 := fun q => by rw [hrr q]; rfl
 have e16 : decide (whyC 3 30 exG (exM ++ [beM]) room = 0) = true := decide_eq_true h.1
 have e21 : decide ([mark] = [mark]) = true := decide_eq_true rfl
 refine xc_slots [(1, .int .i64 mark), (5, .slice (valA rr) ([mark] : List Int).length (valC rr)), (6, .int .i64 (whyC 3 30 exG (exM ++ [beM]) room))] ⟨rfl, congrArg some (valR_eq h7), rfl, trivial⟩ ?_
 with_reducible ((repeat apply xc_seq); apply xcR)
 refine xoM ?_
 refine xo_eql rfl rfl rfl rfl ?_
 refine xo_as (i := 16) rfl (congrArg Value.bool e16) ?_
 refine xoM ?_
 (first | refine xoN ?_ | refine xoM ?_)
 (first | refine xoN ?_ | refine xoM ?_)
 (first | refine xoN ?_ | refine xo_bs1 T_ rfl rfl rfl rfl rfl rfl rfl rfl (fun b20 => ?_))
 (first | refine xoN ?_ | refine xo_callB (fs := []) (cs := []) rfl rfl rfl sameInts_enters rfl (fun w1 hw1 => sameInts_calls (valA rr) (some ⟨b20, 0, none⟩) (valC rr) 1 [mark] [mark] w1 (intsAt_row (hw1.bl_of (fun e he => by repeat (first | exact he | exact List.mem_append_left _ he | apply List.mem_append_right | apply List.Mem.tail))) h7) (ints_cel (by simp) rfl (hw1.bl_of (fun e he => by repeat (first | exact he | exact List.mem_append_left _ he | apply List.mem_append_right | apply List.Mem.tail)))) (by simp)) ?_)
 refine xo_as (i := 21) rfl (congrArg Value.bool e21) ?_
 first | refine xo_pickT rfl rfl rfl rfl ?_ | refine xo_pickF rfl rfl rfl rfl ?_
 refine xoA ?_
 with_reducible (apply xo_nil; (repeat first | apply xqT | apply xqB | apply xqS); (repeat apply xc_seq); apply xc_ret; (repeat (first | apply xq_thenR | apply xq_blockR | apply xq_scopeR)))
 exact xq_ret1 rfl rfl fun w' hw => ⟨rfl, hw.kx.below⟩
theorem lwhy_enters : ∀ args w, (callFunc 53 args).run Tryz.prog w = .ok (.enter 53 args) w := enters_of Tryz.func53 (by kernel_rfl) rfl
set_option maxHeartbeats 16000000 in
theorem alive_calls (w : World) (hglob : GlobO w) : Calls Tryz.prog 20 #[] w fun e w' => e = .returned (.bool true) ∧ Below w.heap.size w w' := by
 have hsc : ∀ ls : List MarT, ls ∈ [[], [beM], [beM, meM]] → (exM ++ ls).length ≤ 1000000 := fun ls h => by
  simp only [List.mem_cons, List.not_mem_nil, or_false] at h
  rcases h with rfl | rfl | rfl <;> decide
 refine x_calls (X := XNone) Tryz.func20 rfl rfl rfl ?_
 with_reducible ((repeat apply xc_seq); apply xcR)
 refine xoA ?_
 with_reducible (apply xo_nil; (repeat first | apply xqT | apply xqB | apply xqS); (repeat apply xc_seq); apply xcR)
 refine xo_call (fs := []) (cs := []) rfl rfl rfl lscene_enters rfl (fun w1 hw1 => (lscene_calls none 0 [] w1 (by simp) (fun _ => rfl) (none_row w1)).mono ?_)
 rintro e w2 ⟨bg, bm, km, rfl, hz⟩
 refine ⟨_, _, rfl, hw1.join hz (fun e he => by simp only [List.mem_cons, List.not_mem_nil, or_false] at he; rcases he with rfl | rfl <;> rfl), ?_⟩
 clear hz hw1
 refine xo_call (fs := []) (cs := []) rfl rfl rfl Truth_enters rfl (fun w1 hw1 => (Truth_calls 3 30 _ _ 2 km exG (exM ++ []) 0 6 w1 (own_scene (kg := 2) hw1 (by decide) (by decide) (x_by [] (by simp)) (hglob.below hw1.kx.below) (by repeat first | exact mH | apply mT | apply mA) (by repeat first | exact mH | apply mT | apply mA))).mono ?_)
 rw [x_t06.1, x_t06.2]
 rintro e w2 ⟨r1, rfl, hrow, hb⟩
 have h1 := hrow.1
 refine ⟨_, _, rfl, hw1.row hb hrow, ?_⟩
 clear hrow hb hw1
 refine xoM ?_
 refine xo_ext rfl rfl rfl rfl ?_
 refine xo_ext rfl rfl rfl rfl ?_
 refine xoA ?_
 refine xoA ?_
 with_reducible (apply xo_nil; (repeat first | apply xqT | apply xqB | apply xqS))
 have h1 : r1 = none → ([2, 4] : List Int).length = 0 := fun q => by rw [h1 q]; rfl
 refine xc_slots [(0, .bool false), (1, .slice (valA r1) ([2, 4] : List Int).length (valC r1)), (2, .int .i64 0)] ⟨rfl, congrArg some (valR_eq h1), rfl, trivial⟩ ?_
 refine xc_sub (η' := hpR 3 1 r1 ([2, 4] : List Int).length (([2, 4] : List Int).map (.int .i64))) (List.sublist_append_left _ _) ?_
 with_reducible ((repeat apply xc_seq); apply xcR)
 refine xo_call (fs := []) (cs := []) rfl rfl rfl lscene_enters rfl (fun w1 hw1 => (lscene_calls none 0 [] w1 (by simp) (fun _ => rfl) (none_row w1)).mono ?_)
 rintro e w2 ⟨bg, bm, km, rfl, hz⟩
 refine ⟨_, _, rfl, hw1.join hz (fun e he => by simp only [List.mem_cons, List.not_mem_nil, or_false] at he; rcases he with rfl | rfl <;> rfl), ?_⟩
 clear hz hw1
 refine xo_callB (fs := []) (cs := []) rfl rfl rfl Named_enters rfl (fun w1 hw1 => Named_calls 3 30 _ _ 2 km exG (exM ++ []) w1 (own_scene (kg := 2) hw1 (by decide) (by decide) (x_by [] (by simp)) (hglob.below hw1.kx.below) (by repeat first | exact mH | apply mT | apply mA) (by repeat first | exact mH | apply mT | apply mA))) ?_
 refine xoM ?_
 refine xo_ext rfl rfl rfl rfl ?_
 refine xo_ext rfl rfl rfl rfl ?_
 refine xoA ?_
 refine xoA ?_
 with_reducible (apply xo_nil; (repeat first | apply xqT | apply xqB | apply xqS))
 refine xc_slots [(0, .bool false), (1, .slice (valA r1) ([2, 4] : List Int).length (valC r1)), (2, .int .i64 0), (4, .int .i64 (namedC 3 30 exG (exM ++ [])))] ⟨rfl, rfl, rfl, rfl, trivial⟩ ?_
 refine xc_sub (η' := hpR 3 1 r1 ([2, 4] : List Int).length (([2, 4] : List Int).map (.int .i64))) (List.sublist_append_right _ _) ?_
 with_reducible ((repeat apply xc_seq); apply xcR)
 refine xo_callB (fs := []) (cs := []) rfl rfl rfl before_enters rfl (fun w1 hw1 => before_calls w1) ?_
 refine xo_bsG T_ 7 rfl rfl rfl rfl rfl rfl rfl rfl rfl rfl (fun b23 => ?_)
 refine xo_call (fs := []) (cs := []) rfl rfl rfl lscene_enters rfl (fun w1 hw1 => (lscene_calls (some ⟨b23, 0, none⟩) 1 [beM] w1 (by simp) (fun q => by cases q) (marks_cel (by simp) rfl (hw1.bl_of (fun e he => by repeat (first | exact he | exact List.mem_append_left _ he | apply List.mem_append_right | apply List.Mem.tail))))).mono ?_)
 rintro e w2 ⟨bg, bm, km, rfl, hz⟩
 refine ⟨_, _, rfl, hw1.join hz (fun e he => by simp only [List.mem_cons, List.not_mem_nil, or_false] at he; rcases he with rfl | rfl <;> rfl), ?_⟩
 clear hz hw1
 refine xo_callB (fs := []) (cs := []) rfl rfl rfl Named_enters rfl (fun w1 hw1 => Named_calls 3 30 _ _ 2 km exG (exM ++ [beM]) w1 (own_scene (kg := 2) hw1 (by decide) (by decide) (x_by [beM] (by simp)) (hglob.below hw1.kx.below) (by repeat first | exact mH | apply mT | apply mA) (by repeat first | exact mH | apply mT | apply mA))) ?_
 refine xoM ?_
 refine xo_ext rfl rfl rfl rfl ?_
 refine xo_ext rfl rfl rfl rfl ?_
 refine xoA ?_
 refine xoA ?_
 with_reducible (apply xo_nil; (repeat first | apply xqT | apply xqB | apply xqS))
 refine xc_slots [(0, .bool false), (1, .slice (valA r1) ([2, 4] : List Int).length (valC r1)), (2, .int .i64 0), (4, .int .i64 (namedC 3 30 exG (exM ++ []))), (5, .int .i64 (namedV 3 30 exG (exM ++ [beM]))), (6, .int .i64 (namedC 3 30 exG (exM ++ [beM])))] ⟨rfl, rfl, rfl, rfl, rfl, rfl, trivial⟩ ?_
 refine xc_sub (η' := hpR 3 1 r1 ([2, 4] : List Int).length (([2, 4] : List Int).map (.int .i64))) (((List.sublist_cons_self _ _)).trans (List.sublist_append_right _ _)) ?_
 with_reducible ((repeat apply xc_seq); apply xcR)
 refine xo_callB (fs := []) (cs := []) rfl rfl rfl before_enters rfl (fun w1 hw1 => before_calls w1) ?_
 refine xo_callB (fs := []) (cs := []) rfl rfl rfl melt_enters rfl (fun w1 hw1 => melt_calls w1) ?_
 refine xo_bsG T_ 7 rfl rfl rfl rfl rfl rfl rfl rfl rfl rfl (fun b31 => ?_)
 refine xo_call (fs := []) (cs := []) rfl rfl rfl lscene_enters rfl (fun w1 hw1 => (lscene_calls (some ⟨b31, 0, none⟩) 2 [beM, meM] w1 (by simp) (fun q => by cases q) (marks_cel (by simp) rfl (hw1.bl_of (fun e he => by repeat (first | exact he | exact List.mem_append_left _ he | apply List.mem_append_right | apply List.Mem.tail))))).mono ?_)
 rintro e w2 ⟨bg, bm, km, rfl, hz⟩
 refine ⟨_, _, rfl, hw1.join hz (fun e he => by simp only [List.mem_cons, List.not_mem_nil, or_false] at he; rcases he with rfl | rfl <;> rfl), ?_⟩
 clear hz hw1
 refine xo_call (fs := []) (cs := []) rfl rfl rfl Against_enters rfl (fun w1 hw1 => (Against_calls 3 30 _ _ 2 km exG (exM ++ [beM, meM]) w1 (own_scene (kg := 2) hw1 (by decide) (by decide) (x_by [beM, meM] (by simp)) (hglob.below hw1.kx.below) (by repeat first | exact mH | apply mT | apply mA) (by repeat first | exact mH | apply mT | apply mA))).mono ?_)
 rw [x_a.1, x_a.2]
 rintro e w2 ⟨r7, rfl, hrow, hb⟩
 have h7 := hrow.1
 refine ⟨_, _, rfl, hw1.row hb hrow, ?_⟩
 clear hrow hb hw1
 refine xoM ?_
 refine xo_ext rfl rfl rfl rfl ?_
 refine xo_ext rfl rfl rfl rfl ?_
 refine xoA ?_
 refine xoA ?_
 with_reducible (apply xo_nil; (repeat first | apply xqT | apply xqB | apply xqS))
 have h7 : r7 = none → ([2, 4] : List Int).length = 0 := fun q => by rw [h7 q]; rfl
 refine xc_slots [(0, .bool false), (1, .slice (valA r1) ([2, 4] : List Int).length (valC r1)), (2, .int .i64 0), (4, .int .i64 (namedC 3 30 exG (exM ++ []))), (5, .int .i64 (namedV 3 30 exG (exM ++ [beM]))), (6, .int .i64 (namedC 3 30 exG (exM ++ [beM]))), (7, .slice (valA r7) ([2, 4] : List Int).length (valC r7)), (8, .int .i64 0)] ⟨rfl, rfl, rfl, rfl, rfl, rfl, congrArg some (valR_eq h7), rfl, trivial⟩ ?_
 refine xc_sub (η' := hpR 3 1 r7 ([2, 4] : List Int).length (([2, 4] : List Int).map (.int .i64)) ++ hpR 3 1 r1 ([2, 4] : List Int).length (([2, 4] : List Int).map (.int .i64))) (List.Sublist.append (List.Sublist.refl _) (((List.sublist_cons_self _ _)).trans (List.sublist_append_right _ _))) ?_
 with_reducible ((repeat apply xc_seq); apply xcR)
 refine xo_callB (fs := []) (cs := []) rfl rfl rfl before_enters rfl (fun w1 hw1 => before_calls w1) ?_
 refine xo_callB (fs := []) (cs := []) rfl rfl rfl melt_enters rfl (fun w1 hw1 => melt_calls w1) ?_
 refine xo_bsG T_ 7 rfl rfl rfl rfl rfl rfl rfl rfl rfl rfl (fun b39 => ?_)
 refine xo_call (fs := []) (cs := []) rfl rfl rfl lscene_enters rfl (fun w1 hw1 => (lscene_calls (some ⟨b39, 0, none⟩) 2 [beM, meM] w1 (by simp) (fun q => by cases q) (marks_cel (by simp) rfl (hw1.bl_of (fun e he => by repeat (first | exact he | exact List.mem_append_left _ he | apply List.mem_append_right | apply List.Mem.tail))))).mono ?_)
 rintro e w2 ⟨bg, bm, km, rfl, hz⟩
 refine ⟨_, _, rfl, hw1.join hz (fun e he => by simp only [List.mem_cons, List.not_mem_nil, or_false] at he; rcases he with rfl | rfl <;> rfl), ?_⟩
 clear hz hw1
 refine xo_call (fs := []) (cs := []) rfl rfl rfl Rooms_enters rfl (fun w1 hw1 => (Rooms_calls 3 30 _ _ 2 km exG (exM ++ [beM, meM]) w1 (own_scene (kg := 2) hw1 (by decide) (by decide) (x_by [beM, meM] (by simp)) (hglob.below hw1.kx.below) (by repeat first | exact mH | apply mT | apply mA) (by repeat first | exact mH | apply mT | apply mA))).mono ?_)
 rw [x_a.1, x_r]
 rintro e w2 ⟨r9, rfl, hrow, hb⟩
 have h9 := hrow.1
 refine ⟨_, _, rfl, hw1.row hb hrow, ?_⟩
 clear hrow hb hw1
 refine xoM ?_
 refine xo_ext rfl rfl rfl rfl ?_
 refine xo_ext rfl rfl rfl rfl ?_
 refine xoA ?_
 refine xoA ?_
 with_reducible (apply xo_nil; (repeat first | apply xqT | apply xqB | apply xqS))
 have h9 : r9 = none → ([] : List Int).length = 0 := fun q => rfl
 refine xc_slots [(0, .bool false), (1, .slice (valA r1) ([2, 4] : List Int).length (valC r1)), (2, .int .i64 0), (4, .int .i64 (namedC 3 30 exG (exM ++ []))), (5, .int .i64 (namedV 3 30 exG (exM ++ [beM]))), (6, .int .i64 (namedC 3 30 exG (exM ++ [beM]))), (7, .slice (valA r7) ([2, 4] : List Int).length (valC r7)), (8, .int .i64 0), (9, .slice (valA r9) 0 (valC r9)), (10, .int .i64 0)] ⟨rfl, rfl, rfl, rfl, rfl, rfl, rfl, rfl, congrArg some (valR_eq h9), rfl, trivial⟩ ?_
 refine xc_sub (η' := hpR 3 1 r7 ([2, 4] : List Int).length (([2, 4] : List Int).map (.int .i64)) ++ hpR 3 1 r1 ([2, 4] : List Int).length (([2, 4] : List Int).map (.int .i64))) (((List.sublist_cons_self _ _).trans (List.sublist_append_right _ _)).trans (List.sublist_append_right _ _)) ?_
 rw [x_n, x_n3.1, x_n3.2]
 have e58 : decide (([2, 4] : List Int) = [2, 4]) = true := by decide
 with_reducible ((repeat apply xc_seq); apply xcR)
 refine xo_callB (fs := []) (cs := []) rfl rfl rfl lbegan_enters rfl (fun w1 hw1 => lbegan_calls 0 5 6 w1 (hglob.below hw1.kx.below) x_m0) ?_
 refine xoM ?_
 (first | refine xoN ?_ | refine xo_callB (fs := []) (cs := []) rfl rfl rfl lbegan_enters rfl (fun w1 hw1 => lbegan_calls 1 6 8 w1 (hglob.below hw1.kx.below) x_m1) ?_)
 first | refine xo_pickT rfl rfl rfl rfl ?_ | refine xo_pickF rfl rfl rfl rfl ?_
 refine xoM ?_
 (first | refine xoN ?_ | refine xo_callB (fs := []) (cs := []) rfl rfl rfl lbegan_enters rfl (fun w1 hw1 => lbegan_calls 2 10 12 w1 (hglob.below hw1.kx.below) x_m2) ?_)
 first | refine xo_pickT rfl rfl rfl rfl ?_ | refine xo_pickF rfl rfl rfl rfl ?_
 refine xoM ?_
 (first | refine xoN ?_ | refine xoM ?_)
 (first | refine xoN ?_ | refine xo_eql rfl rfl rfl rfl ?_)
 first | refine xo_pickT rfl rfl rfl rfl ?_ | refine xo_pickF rfl rfl rfl rfl ?_
 refine xoM ?_
 (first | refine xoN ?_ | refine xoM ?_)
 (first | refine xoN ?_ | refine xo_bs2 T_ rfl rfl rfl rfl rfl rfl rfl rfl rfl rfl (fun b57 => ?_))
 (first | refine xoN ?_ | refine xo_callB (fs := []) (cs := []) rfl rfl rfl sameInts_enters rfl (fun w1 hw1 => sameInts_calls (valA r1) (some ⟨b57, 0, none⟩) (valC r1) 2 [2, 4] [2, 4] w1 (intsAt_row (hw1.bl_of (fun e he => by repeat (first | exact he | exact List.mem_append_left _ he | apply List.mem_append_right | apply List.Mem.tail))) h1) (ints_cel (by simp) rfl (hw1.bl_of (fun e he => by repeat (first | exact he | exact List.mem_append_left _ he | apply List.mem_append_right | apply List.Mem.tail)))) (by simp)) ?_)
 first | refine xo_pickT rfl rfl rfl rfl ?_ | refine xo_pickF rfl rfl rfl rfl ?_
 refine xoM ?_
 (first | refine xoN ?_ | refine xoM ?_)
 (first | refine xoN ?_ | refine xo_eql rfl rfl rfl rfl ?_)
 first | refine xo_pickT rfl rfl rfl rfl ?_ | refine xo_pickF rfl rfl rfl rfl ?_
 refine xoM ?_
 (first | refine xoN ?_ | refine xoM ?_)
 (first | refine xoN ?_ | refine xo_eql rfl rfl rfl rfl ?_)
 first | refine xo_pickT rfl rfl rfl rfl ?_ | refine xo_pickF rfl rfl rfl rfl ?_
 refine xoM ?_
 (first | refine xoN ?_ | refine xoM ?_)
 (first | refine xoN ?_ | refine xo_eql rfl rfl rfl rfl ?_)
 first | refine xo_pickT rfl rfl rfl rfl ?_ | refine xo_pickF rfl rfl rfl rfl ?_
 refine xoM ?_
 (first | refine xoN ?_ | refine xo_callB (fs := []) (cs := []) rfl rfl rfl lwhy_enters rfl (fun w1 hw1 => lwhy_calls 1 3 w1 (hglob.below hw1.kx.below) x_w1) ?_)
 first | refine xo_pickT rfl rfl rfl rfl ?_ | refine xo_pickF rfl rfl rfl rfl ?_
 refine xoM ?_
 (first | refine xoN ?_ | refine xoM ?_)
 (first | refine xoN ?_ | refine xo_eql rfl rfl rfl rfl ?_)
 first | refine xo_pickT rfl rfl rfl rfl ?_ | refine xo_pickF rfl rfl rfl rfl ?_
 refine xoM ?_
 (first | refine xoN ?_ | refine xoM ?_)
 (first | refine xoN ?_ | refine xo_bs2 T_ rfl rfl rfl rfl rfl rfl rfl rfl rfl rfl (fun b81 => ?_))
 (first | refine xoN ?_ | refine xo_callB (fs := []) (cs := []) rfl rfl rfl sameInts_enters rfl (fun w1 hw1 => sameInts_calls (valA r7) (some ⟨b81, 0, none⟩) (valC r7) 2 [2, 4] [2, 4] w1 (intsAt_row (hw1.bl_of (fun e he => by repeat (first | exact he | exact List.mem_append_left _ he | apply List.mem_append_right | apply List.Mem.tail))) h7) (ints_cel (by simp) rfl (hw1.bl_of (fun e he => by repeat (first | exact he | exact List.mem_append_left _ he | apply List.mem_append_right | apply List.Mem.tail)))) (by simp)) ?_)
 first | refine xo_pickT rfl rfl rfl rfl ?_ | refine xo_pickF rfl rfl rfl rfl ?_
 refine xoM ?_
 (first | refine xoN ?_ | refine xoM ?_)
 (first | refine xoN ?_ | refine xo_eql rfl rfl rfl rfl ?_)
 first | refine xo_pickT rfl rfl rfl rfl ?_ | refine xo_pickF rfl rfl rfl rfl ?_
 refine xoM ?_
 (first | refine xoN ?_ | refine xoM ?_)
 (first | refine xoN ?_ | refine xo_len T_ rfl rfl rfl rfl ?_)
 (first | refine xoN ?_ | refine xo_eql rfl rfl rfl rfl ?_)
 first | refine xo_pickT rfl rfl rfl rfl ?_ | refine xo_pickF rfl rfl rfl rfl ?_
 refine xoA ?_
 with_reducible (apply xo_nil; (repeat first | apply xqT | apply xqB | apply xqS); (repeat apply xc_seq); apply xc_ret; (repeat (first | apply xq_thenR | apply xq_blockR | apply xq_scopeR)))
 exact xq_ret1 rfl rfl fun w' hw => ⟨rfl, hw.kx.below⟩
theorem alive_enters : ∀ args w, (callFunc 20 args).run Tryz.prog w = .ok (.enter 20 args) w := enters_of Tryz.func20 (by kernel_rfl) rfl
theorem great_no {R E : Int} {gs : List GatT} {ms : List MarT} (h : sceneF R E gs ms = true) : greatF gs ms = false := by
 obtain ⟨_, _, hG, hm, _⟩ := sceneF_ok h
 have := hG.len
 unfold greatF
 rw [Bool.or_eq_false_iff, decide_eq_false_iff_not, decide_eq_false_iff_not]
 omega
set_option maxHeartbeats 4000000 in
theorem ready_calls (R E : Int) (A B : Option Addr) (c c2 : Nat) (gs : List GatT) (ms : List MarT) (w : World) (hA : RowOf gatV 4 zGat w A gs) (hM : RowOf marV 7 zMar w B ms) :
  Calls Tryz.prog 21 #[.agg (scnV R A gs.length c E B ms.length c2).toArray] w fun e w' => e = .returned (.bool (sceneF R E gs ms)) ∧ Below w.heap.size w w' := by
 have hN : greatF gs ms = true → sceneF R E gs ms = false := fun h => by
  cases q : sceneF R E gs ms
  ·rfl
  ·rw [great_no q] at h; cases h
 refine x_calls (X := XNone) Tryz.func21 rfl rfl rfl ?_
 with_reducible ((repeat apply xc_seq); apply xcR)
 refine xo_box rfl rfl rfl rfl (fun b1 => ?_)
 refine xoA ?_
 with_reducible (apply xo_nil; (repeat first | apply xqT | apply xqB | apply xqS))
 cases hg : greatF gs ms
 rotate_left
 ·rw [hN hg]
  with_reducible ((repeat apply xc_seq); apply xcR)
  refine xo_loadN T_ rfl rfl rfl (by repeat first | exact mH | apply mT | apply mA) rfl rfl ?_
  refine xo_callB (fs := []) (cs := []) rfl rfl rfl great_enters rfl (fun w1 hw1 => great_calls R E A B c c2 gs ms w1) ?_
  refine xo_as (i := 4) rfl (congrArg Value.bool hg) ?_
  refine xo_notOp rfl rfl rfl ?_
  refine xoM ?_
  (first | refine xoN ?_ | refine xo_loadN T_ rfl rfl rfl (by repeat first | exact mH | apply mT | apply mA) rfl rfl ?_)
  (first | refine xoN ?_ | (fail "NO RULE: Op.call -5"))
  first | refine xo_pickT rfl rfl rfl rfl ?_ | refine xo_pickF rfl rfl rfl rfl ?_
  refine xoA ?_
  with_reducible (apply xo_nil; (repeat first | apply xqT | apply xqB | apply xqS); (repeat apply xc_seq); apply xc_ret; (repeat (first | apply xq_thenR | apply xq_blockR | apply xq_scopeR)))
  exact xq_ret1 rfl rfl fun w' hw => ⟨rfl, hw.kx.below⟩
 ·with_reducible repeat apply xc_seq
  with_reducible apply xcR
  refine xo_loadN T_ rfl rfl rfl (by repeat first | exact mH | apply mT | apply mA) rfl rfl ?_
  refine xo_callB (fs := []) (cs := []) rfl rfl rfl great_enters rfl (fun w1 hw1 => great_calls R E A B c c2 gs ms w1) ?_
  refine xo_as (i := 4) rfl (congrArg Value.bool hg) ?_
  refine xo_notOp rfl rfl rfl ?_
  refine xoM ?_
  (first | refine xoN ?_ | refine xo_loadN T_ rfl rfl rfl (by repeat first | exact mH | apply mT | apply mA) rfl rfl ?_)
  (first | refine xoN ?_ | refine xo_callB (fs := []) (cs := []) rfl rfl rfl scene_enters rfl (fun w1 hw1 => scene_calls R E A B c c2 gs ms w1 (hA.below hw1.kx.below) (hM.below hw1.kx.below)) ?_)
  first | refine xo_pickT rfl rfl rfl rfl ?_ | refine xo_pickF rfl rfl rfl rfl ?_
  refine xoA ?_
  with_reducible (apply xo_nil; (repeat first | apply xqT | apply xqB | apply xqS); (repeat apply xc_seq); apply xc_ret; (repeat (first | apply xq_thenR | apply xq_blockR | apply xq_scopeR)))
  exact xq_ret1 rfl rfl fun w' hw => ⟨rfl, hw.kx.below⟩
theorem ready_enters : ∀ args w, (callFunc 21 args).run Tryz.prog w = .ok (.enter 21 args) w := enters_of Tryz.func21 (by kernel_rfl) rfl
end Go.Proofs.YtommeljlfkmpjaaGreatDoor
namespace Go.Proofs.YtommeljlfkmpjaaGreatDoor
open Go.RowKit Go.Proofs.YtommeljlfkmpjaaGreatDoorW.PrintWords
theorem take_get {α : Type} (z : α) {l : List α} {k : Nat} (h : k < l.length) : l.take (k + 1) = l.take k ++ [l.getD k z] := by
 rw [List.take_succ_eq_append_getElem h, List.getD_eq_getElem?_getD, List.getElem?_eq_getElem h]
 rfl
end Go.Proofs.YtommeljlfkmpjaaGreatDoor
namespace Go.Proofs.YtommeljlfkmpjaaGreatDoor
open Go.RowKit Go.Proofs.YtommeljlfkmpjaaGreatDoorW.PrintWords
structure SpOK (acc : List SpaT) (P : List Int) : Prop where
 sound : ∀ s ∈ acc, s.f0 ≤ s.f1 ∧ ∀ m, s.f0 ≤ m → m ≤ s.f1 → m ∈ P
 cover : ∀ m ∈ P, ∃ s ∈ acc, s.f0 ≤ m ∧ m ≤ s.f1
 apart : acc.Pairwise fun x y => x.f1 + 1 < y.f0
theorem grpS_snoc (l : List SpaT) (s : SpaT) (m : Int) : grpS (l ++ [s]) m = if s.f1 = m - 1 then l ++ [⟨s.f0, m⟩] else l ++ [s] ++ [⟨m, m⟩] := by
 have h1 : (l ++ [s]).length - 1 = l.length := by simp
 have h2 : (l ++ [s]).getD l.length zSpa = s := by simp [List.getD_eq_getElem?_getD]
 unfold grpS
 rw [h1, h2]
 by_cases h : s.f1 = m - 1
 ·rw [if_pos h, if_pos ⟨by simp, h⟩]
  simp
 ·rw [if_neg h, if_neg (fun q => h q.2)]
theorem SpOK.step {acc : List SpaT} {P : List Int} {m : Int} (h : SpOK acc P) (hm : ∀ p ∈ P, p < m) : SpOK (grpS acc m) (P ++ [m]) := by
 rcases List.eq_nil_or_concat acc with rfl | ⟨l, s, rfl⟩
 ·have hP : P = [] := by
   cases P with
   | nil => rfl
   | cons p P => obtain ⟨s, hs, _⟩ := h.cover p List.mem_cons_self; cases hs
  subst hP
  have : grpS [] m = [⟨m, m⟩] := by simp [grpS]
  rw [this]
  refine ⟨fun s hs => ?_, fun p hp => ?_, List.pairwise_singleton _ _⟩
  ·rw [List.mem_singleton.1 hs]
   exact ⟨Int.le_refl _, fun p h1 h2 => by simp only at h1 h2; simp; omega⟩
  ·have : p = m := by simpa using hp
   exact ⟨_, List.mem_cons_self, by simp only; omega, by simp only; omega⟩
 ·rw [List.concat_eq_append] at h ⊢
  have hs := h.sound s (List.mem_append_right _ List.mem_cons_self)
  have hsm := hm _ (hs.2 s.f1 hs.1 (Int.le_refl _))
  have hap := List.pairwise_append.1 h.apart
  have hls : ∀ x ∈ l, x.f1 + 1 < s.f0 := fun x hx => hap.2.2 x hx s List.mem_cons_self
  rw [grpS_snoc]
  split
  ·rename_i he
   refine ⟨fun x hx => ?_, fun p hp => ?_, ?_⟩
   ·rcases List.mem_append.1 hx with hx | hx
    ·have := h.sound x (List.mem_append_left _ hx)
     exact ⟨this.1, fun p h1 h2 => List.mem_append_left _ (this.2 p h1 h2)⟩
    ·rw [List.mem_singleton.1 hx]
     refine ⟨by simp only; omega, fun p h1 h2 => ?_⟩
     simp only at h1 h2
     by_cases hpm : p = m
     ·rw [hpm]; exact List.mem_append_right _ List.mem_cons_self
     ·exact List.mem_append_left _ (hs.2 p h1 (by omega))
   ·rcases List.mem_append.1 hp with hp | hp
    ·obtain ⟨x, hx, h1, h2⟩ := h.cover p hp
     rcases List.mem_append.1 hx with hx | hx
     ·exact ⟨x, List.mem_append_left _ hx, h1, h2⟩
     ·rw [List.mem_singleton.1 hx] at h1 h2
      exact ⟨_, List.mem_append_right _ List.mem_cons_self, h1, by simp only; omega⟩
    ·have : p = m := by simpa using hp
     exact ⟨_, List.mem_append_right _ List.mem_cons_self, by simp only; omega, by simp only; omega⟩
   ·refine List.pairwise_append.2 ⟨hap.1, List.pairwise_singleton _ _, fun x hx y hy => ?_⟩
    rw [List.mem_singleton.1 hy]
    exact hls x hx
  ·rename_i he
   refine ⟨fun x hx => ?_, fun p hp => ?_, ?_⟩
   ·rcases List.mem_append.1 hx with hx | hx
    ·have := h.sound x hx
     exact ⟨this.1, fun p h1 h2 => List.mem_append_left _ (this.2 p h1 h2)⟩
    ·rw [List.mem_singleton.1 hx]
     exact ⟨Int.le_refl _, fun p h1 h2 => by simp only at h1 h2; simp; right; omega⟩
   ·rcases List.mem_append.1 hp with hp | hp
    ·obtain ⟨x, hx, h1, h2⟩ := h.cover p hp
     exact ⟨x, List.mem_append_left _ hx, h1, h2⟩
    ·have : p = m := by simpa using hp
     exact ⟨_, List.mem_append_right _ List.mem_cons_self, by simp only; omega, by simp only; omega⟩
   ·refine List.pairwise_append.2 ⟨h.apart, List.pairwise_singleton _ _, fun x hx y hy => ?_⟩
    rw [List.mem_singleton.1 hy]
    simp only
    rcases List.mem_append.1 hx with hx | hx
    ·have := hls x hx; omega
    ·rw [List.mem_singleton.1 hx]; omega
theorem SpOK.run {acc : List SpaT} {P : List Int} (h : SpOK acc P) {a b : Int} (hab : a ≤ b) (hall : ∀ m, a ≤ m → m ≤ b → m ∈ P) : ∃ s ∈ acc, s.f0 ≤ a ∧ b ≤ s.f1 := by
 obtain ⟨s, hs, h1, h2⟩ := h.cover a (hall a (Int.le_refl _) hab)
 refine ⟨s, hs, h1, ?_⟩
 by_cases hb : b ≤ s.f1
 ·exact hb
 exfalso
 obtain ⟨t, ht, h3, h4⟩ := h.cover (s.f1 + 1) (hall _ (by omega) (by omega))
 have hs' := (h.sound s hs).1
 obtain ⟨i, hi, rfl⟩ := List.getElem_of_mem hs
 obtain ⟨j, hj, rfl⟩ := List.getElem_of_mem ht
 have hp := List.pairwise_iff_getElem.1 h.apart
 rcases Nat.lt_trichotomy i j with hij | rfl | hij
 ·have := hp i j hi hj hij; omega
 ·omega
 ·have := hp j i hj hi hij; omega
end Go.Proofs.YtommeljlfkmpjaaGreatDoor
namespace Go.Proofs.YtommeljlfkmpjaaGreatDoor
open Go.RowKit Go.Proofs.YtommeljlfkmpjaaGreatDoorW.PrintWords
def updF (d : Nat → Int) (k : Nat) (x : Int) : Nat → Int := fun v => if v = k then x else d v
def comeS (d : Nat → Int) (e : Edge3) : Nat → Int :=
 let d1 := if d e.1 = 1073741824 then d else updF d e.2.1 (if d e.1 + e.2.2 < d e.2.1 then d e.1 + e.2.2 else d e.2.1)
 if d1 e.2.1 = 1073741824 then d1 else updF d1 e.1 (if d1 e.2.1 + e.2.2 < d1 e.1 then d1 e.2.1 + e.2.2 else d1 e.1)
def shiftF (m : Int) (d : Nat → Int) : Nat → Int := fun v => if d v = 1000000 then 1073741824 else m + d v
def NearF (b : Int) (d : Nat → Int) : Prop := ∀ v, d v = 1000000 ∨ (0 ≤ d v ∧ d v ≤ b)
theorem NearF.relax {b : Int} {d : Nat → Int} {e : Edge3} (h : NearF b d) (hl : 0 ≤ e.2.2 ∧ e.2.2 ≤ 60) (hb : 0 ≤ b ∧ b ≤ 100000) : NearF (b + 60) (relax d e) := fun v => by
 have h1 := h e.1
 have h2 := h e.2.1
 have h3 := h v
 unfold Go.Proofs.YtommeljlfkmpjaaGreatDoor.relax
 repeat' split
 all_goals omega
def sideB (x y l : Int) : Int := if x = 1073741824 then y else if x + l < y then x + l else y
theorem comeS_eq (d : Nat → Int) {e : Edge3} (hne : e.1 ≠ e.2.1) (v : Nat) : comeS d e v = if v = e.1 then sideB (sideB (d e.1) (d e.2.1) e.2.2) (d e.1) e.2.2 else if v = e.2.1 then sideB (d e.1) (d e.2.1) e.2.2 else d v := by
 have hne' : ¬ e.2.1 = e.1 := fun q => hne q.symm
 unfold comeS sideB
 by_cases a1 : d e.1 = 1073741824
 ·simp only [a1, if_true]
  by_cases a2 : d e.2.1 = 1073741824
  ·simp only [a2, if_true]
   split
   ·rename_i q; rw [q, a1]
   ·split
    ·rename_i q; rw [q, a2]
    ·rfl
  ·simp only [a2, if_false, updF, a1]
   split
   ·rfl
   ·split
    ·rename_i q; rw [q]
    ·rfl
 ·simp only [a1, if_false]
  have e1 : updF d e.2.1 (if d e.1 + e.2.2 < d e.2.1 then d e.1 + e.2.2 else d e.2.1) e.2.1 = (if d e.1 + e.2.2 < d e.2.1 then d e.1 + e.2.2 else d e.2.1) := by simp [updF]
  have e2 : updF d e.2.1 (if d e.1 + e.2.2 < d e.2.1 then d e.1 + e.2.2 else d e.2.1) e.1 = d e.1 := by simp [updF, hne]
  rw [e1, e2]
  generalize (if d e.1 + e.2.2 < d e.2.1 then d e.1 + e.2.2 else d e.2.1) = b
  by_cases a2 : b = 1073741824
  ·simp only [a2, if_true, updF]
   by_cases v1 : v = e.1
   ·subst v1; simp [hne]
   ·simp [v1]
  ·simp only [a2, if_false]
   by_cases v1 : v = e.1
   ·subst v1; simp [updF]
   ·simp [updF, v1]
theorem come_relax {m b : Int} {d : Nat → Int} {e : Edge3} (h : NearF b d) (hl : 0 ≤ e.2.2 ∧ e.2.2 ≤ 60) (hb : 0 ≤ b ∧ b ≤ 100000) (hm : 0 ≤ m ∧ m ≤ 600) (hne : e.1 ≠ e.2.1) : comeS (shiftF m d) e = shiftF m (relax d e) := by
 funext v
 have h1 := h e.1
 have h2 := h e.2.1
 rw [comeS_eq _ hne]
 unfold shiftF Go.Proofs.YtommeljlfkmpjaaGreatDoor.relax sideB
 by_cases v1 : v = e.1
 ·simp only [v1, if_true]
  generalize d e.1 = x at h1 ⊢
  generalize d e.2.1 = y at h2 ⊢
  generalize e.2.2 = l at hl ⊢
  repeat' split
  all_goals omega
 ·simp only [v1, if_false]
  by_cases v2 : v = e.2.1
  ·simp only [v2, if_true]
   generalize d e.1 = x at h1 ⊢
   generalize d e.2.1 = y at h2 ⊢
   generalize e.2.2 = l at hl ⊢
   repeat' split
   all_goals omega
  ·simp only [v2, if_false]
theorem come_round {m : Int} (hm : 0 ≤ m ∧ m ≤ 600) : ∀ (es : List Edge3) (b : Int) (d : Nat → Int), (∀ e ∈ es, (0 ≤ e.2.2 ∧ e.2.2 ≤ 60) ∧ e.1 ≠ e.2.1) → 0 ≤ b ∧ b + 60 * es.length ≤ 100000 → NearF b d → es.foldl comeS (shiftF m d) = shiftF m (roundB es d) ∧ NearF (b + 60 * es.length) (roundB es d)
 | [], b, d, _, _, h => by simp [roundB]; exact h
 | e :: es, b, d, hes, hb, h => by
  have he := hes e List.mem_cons_self
  have hlen : (((e :: es).length : Nat) : Int) = es.length + 1 := by simp
  rw [hlen] at hb ⊢
  have ih := come_round hm es (b + 60) (relax d e) (fun x hx => hes x (List.mem_cons_of_mem _ hx)) ⟨by omega, by omega⟩ (h.relax he.1 ⟨by omega, by omega⟩)
  rw [List.foldl_cons, come_relax h he.1 ⟨by omega, by omega⟩ hm he.2, ih.1]
  refine ⟨rfl, ?_⟩
  have h2 := ih.2
  rw [show b + 60 + 60 * (es.length : Int) = b + 60 * ((es.length : Int) + 1) by omega] at h2
  exact h2
def comesF (es : List Edge3) (d : Nat → Int) : Nat → Nat → Int
 | 0 => d
 | k + 1 => es.foldl comeS (comesF es d k)
theorem come_rounds {m : Int} (hm : 0 ≤ m ∧ m ≤ 600) {es : List Edge3} (hes : ∀ e ∈ es, (0 ≤ e.2.2 ∧ e.2.2 ≤ 60) ∧ e.1 ≠ e.2.1) (h6 : es.length ≤ 6) (r : Nat) : ∀ k, k ≤ 6 → comesF es (shiftF m (startB 1000000 r)) k = shiftF m (roundsB es (startB 1000000 r) k) ∧ NearF (360 * k) (roundsB es (startB 1000000 r) k)
 | 0, _ => ⟨rfl, fun v => by unfold roundsB startB; split <;> omega⟩
 | k + 1, hk => by
  have ih := come_rounds hm hes h6 r k (by omega)
  have := come_round hm es (360 * k) _ hes ⟨by omega, by omega⟩ ih.2
  refine ⟨by rw [comesF, ih.1, this.1]; rfl, fun v => ?_⟩
  have h := this.2 v
  rw [roundsB]
  omega
def soF (E : Int) (m : MarT) (at_ : Nat → Int) : Bool :=
 if m.f1 = 1 then decide (m.f4.f0 ≤ at_ m.f2.toNat) && decide (at_ m.f2.toNat ≤ m.f4.f1)
 else if m.f1 = 2 then decide (m.f4.f0 < at_ m.f2.toNat)
 else if m.f1 = 3 then decide (at_ m.f2.toNat ≤ m.f4.f1)
 else if m.f1 = 4 then !decide (at_ m.f2.toNat = 1073741824) && decide (m.f5 ≤ E - at_ m.f2.toNat)
 else if m.f1 = 5 then decide (at_ m.f2.toNat = 1073741824) || decide (E - at_ m.f2.toNat < m.f5)
 else decide (at_ m.f2.toNat < at_ m.f3.toNat)
def cameF (t : Int) (r : Nat → Int) : Nat → Int := fun v => if r v = 1073741824 then 1073741824 else t + r v
theorem so_says {E t : Int} {m : MarT} {r : Nat → Int} (ht : 0 ≤ t ∧ t ≤ E) (hE : E ≤ 600) (hk : 1 ≤ m.f1 ∧ m.f1 ≤ 6) (h4 : -1000 ≤ m.f4.f0 ∧ m.f4.f0 ≤ 1000 ∧ -1000 ≤ m.f4.f1 ∧ m.f4.f1 ≤ 1000) (h5 : -1000 ≤ m.f5 ∧ m.f5 ≤ 1000)
  (r1 : r m.f2.toNat = 1073741824 ∨ (0 ≤ r m.f2.toNat ∧ r m.f2.toNat ≤ 300)) (r2 : r m.f3.toNat = 1073741824 ∨ (0 ≤ r m.f3.toNat ∧ r m.f3.toNat ≤ 300)) : soF E m (cameF t r) = true ↔ (saysF E r m).f0 ≤ t ∧ t ≤ (saysF E r m).f1 := by
 unfold soF cameF saysF
 generalize r m.f2.toNat = x at r1 ⊢
 generalize r m.f3.toNat = y at r2 ⊢
 have hcs : m.f1 = 1 ∨ m.f1 = 2 ∨ m.f1 = 3 ∨ m.f1 = 4 ∨ m.f1 = 5 ∨ m.f1 = 6 := by omega
 rcases hcs with q | q | q | q | q | q <;> rw [q] <;> simp only [Bool.and_eq_true, Bool.or_eq_true, Bool.not_eq_true', decide_eq_true_eq, decide_eq_false_iff_not, afterF, untilF, nowhereF, comF, Int.reduceEq, Int.reduceLE, if_true, if_false, ↓reduceIte]
 all_goals (repeat' split)
 all_goals (try simp only at *)
 all_goals omega
abbrev AtsAt (w : World) (A : Option Addr) (n : Nat) (at_ : Nat → Int) : Prop := IntsAt w A ((List.range n).map at_)
theorem ats_get {w : World} {A : Option Addr} {n : Nat} {at_ : Nat → Int} (h : AtsAt w A n at_) {i : Int} (hi : 0 ≤ i ∧ i < n) : ∃ ad, A = some ad ∧ RO w XNone (ad.add (i.toNat * szN 0)) [.int .i64 (at_ i.toNat)] := by
 obtain ⟨ad, e1, h1⟩ := h i.toNat (by rw [List.length_map, List.length_range]; omega)
 refine ⟨ad, e1, ?_⟩
 have e2 : ((List.range n).map at_).getD i.toNat 0 = at_ i.toNat := by
  have : i.toNat < n := by omega
  simp [List.getD_eq_getElem?_getD, this]
 rw [e2, Int.toNat_natCast] at h1
 exact h1
set_option maxHeartbeats 8000000 in
theorem so_calls (R E : Int) (A B At : Option Addr) (c c2 ca n : Nat) (ng nm : Nat) (m : MarT) (at_ : Nat → Int) (w : World) (hat : AtsAt w At n at_) (h2 : 0 ≤ m.f2 ∧ m.f2 < n) (h3 : 0 ≤ m.f3 ∧ m.f3 < n) (hE : 0 ≤ E ∧ E ≤ 600) (hb2 : 0 ≤ at_ m.f2.toNat ∧ at_ m.f2.toNat ≤ 1073741824) :
  Calls Tryz.prog 29 #[.agg (scnV R A ng c E B nm c2).toArray, .agg (marV m).toArray, .slice At n ca] w fun e w' => e = .returned (.bool (soF E m at_)) ∧ Below w.heap.size w w' := by
 obtain ⟨ad, rfl, hRO2⟩ := ats_get hat h2
 obtain ⟨ad', e1, hRO3⟩ := ats_get hat h3
 obtain rfl := Option.some.inj e1
 refine x_calls (X := XNone) Tryz.func29 rfl rfl rfl ?_
 with_reducible ((repeat apply xc_seq); apply xcR)
 refine xo_box rfl rfl rfl rfl (fun b3 => ?_)
 refine xo_box rfl rfl rfl rfl (fun b4 => ?_)
 refine xoA ?_
 with_reducible (apply xo_nil; (repeat first | apply xqT | apply xqB | apply xqS); (repeat apply xc_seq); apply xcR)
 refine xoM ?_
 refine xo_fa T_ rfl rfl rfl rfl rfl ?_
 refine xo_load0 T_ rfl rfl rfl (by repeat first | exact mH | apply mT | apply mA) rfl rfl ?_
 refine xo_ia T_ rfl rfl rfl rfl rfl ⟨by omega, by omega⟩ rfl ?_
 refine xo_loadR0 T_ rfl rfl rfl hRO2 rfl ?_
 refine xoA ?_
 with_reducible (apply xo_nil; (repeat first | apply xqT | apply xqB | apply xqS); (repeat apply xc_seq); apply xcR)
 refine xo_fa T_ rfl rfl rfl rfl rfl ?_
 refine xo_load0 T_ rfl rfl rfl (by repeat first | exact mH | apply mT | apply mA) rfl rfl ?_
 with_reducible (apply xo_nil; (repeat first | apply xqT | apply xqB | apply xqS); (repeat apply xc_seq); apply xc_block; (repeat apply xc_seq); apply xcR)
 refine xo_eql rfl rfl rfl rfl ?_
 refine xoA ?_
 with_reducible (apply xo_nil; (repeat first | apply xqT | apply xqB | apply xqS); (repeat apply xc_seq))
 refine xc_cond rfl (fun h => ?_) (fun h => ?_)
 ·have q1 : m.f1 = 1 := of_decide_eq_true h
  have hso : soF E m at_ = (decide (m.f4.f0 ≤ at_ m.f2.toNat) && decide (at_ m.f2.toNat ≤ m.f4.f1)) := by simp [soF, q1]
  generalize ha : decide (m.f4.f0 ≤ at_ m.f2.toNat) = a at hso
  cases a
  ·with_reducible repeat apply xc_seq
   with_reducible apply xcR
   refine xoM ?_
   refine xo_fa T_ rfl rfl rfl rfl rfl ?_
   refine xo_fa T_ rfl rfl rfl rfl rfl ?_
   refine xo_load0 T_ rfl rfl rfl (by repeat first | exact mH | apply mT | apply mA) rfl rfl ?_
   refine xo_geq rfl rfl rfl rfl ?_
   refine xo_as (i := 21) rfl (congrArg Value.bool ha) ?_
   refine xoM ?_
   (first | refine xoN ?_ | refine xoM ?_)
   (first | refine xoN ?_ | refine xo_fa T_ rfl rfl rfl rfl rfl ?_)
   (first | refine xoN ?_ | refine xo_fa T_ rfl rfl rfl rfl rfl ?_)
   (first | refine xoN ?_ | refine xo_load0 T_ rfl rfl rfl (by repeat first | exact mH | apply mT | apply mA) rfl rfl ?_)
   (first | refine xoN ?_ | refine xo_leq rfl rfl rfl rfl ?_)
   first | refine xo_pickT rfl rfl rfl rfl ?_ | refine xo_pickF rfl rfl rfl rfl ?_
   refine xoA ?_
   with_reducible (apply xo_nil; (repeat first | apply xqT | apply xqB | apply xqS); (repeat apply xc_seq); apply xc_ret; (repeat (first | apply xq_thenR | apply xq_blockR | apply xq_scopeR)))
   exact xq_ret1 rfl rfl fun w' hw => ⟨by rw [hso]; rfl, hw.kx.below⟩
  ·with_reducible repeat apply xc_seq
   with_reducible apply xcR
   refine xoM ?_
   refine xo_fa T_ rfl rfl rfl rfl rfl ?_
   refine xo_fa T_ rfl rfl rfl rfl rfl ?_
   refine xo_load0 T_ rfl rfl rfl (by repeat first | exact mH | apply mT | apply mA) rfl rfl ?_
   refine xo_geq rfl rfl rfl rfl ?_
   refine xo_as (i := 21) rfl (congrArg Value.bool ha) ?_
   refine xoM ?_
   (first | refine xoN ?_ | refine xoM ?_)
   (first | refine xoN ?_ | refine xo_fa T_ rfl rfl rfl rfl rfl ?_)
   (first | refine xoN ?_ | refine xo_fa T_ rfl rfl rfl rfl rfl ?_)
   (first | refine xoN ?_ | refine xo_load0 T_ rfl rfl rfl (by repeat first | exact mH | apply mT | apply mA) rfl rfl ?_)
   (first | refine xoN ?_ | refine xo_leq rfl rfl rfl rfl ?_)
   first | refine xo_pickT rfl rfl rfl rfl ?_ | refine xo_pickF rfl rfl rfl rfl ?_
   refine xoA ?_
   with_reducible (apply xo_nil; (repeat first | apply xqT | apply xqB | apply xqS); (repeat apply xc_seq); apply xc_ret; (repeat (first | apply xq_thenR | apply xq_blockR | apply xq_scopeR)))
   exact xq_ret1 rfl rfl fun w' hw => ⟨by rw [hso]; rfl, hw.kx.below⟩
 have q1 : ¬ m.f1 = 1 := of_decide_eq_false h
 with_reducible ((repeat apply xc_seq); apply xcR)
 refine xo_eql rfl rfl rfl rfl ?_
 refine xoA ?_
 with_reducible (apply xo_nil; (repeat first | apply xqT | apply xqB | apply xqS); (repeat apply xc_seq))
 refine xc_cond rfl (fun h => ?_) (fun h => ?_)
 ·have q2 : m.f1 = 2 := of_decide_eq_true h
  have hso : soF E m at_ = decide (m.f4.f0 < at_ m.f2.toNat) := by simp [soF, q2]
  with_reducible ((repeat apply xc_seq); apply xcR)
  refine xoM ?_
  refine xo_fa T_ rfl rfl rfl rfl rfl ?_
  refine xo_fa T_ rfl rfl rfl rfl rfl ?_
  refine xo_load0 T_ rfl rfl rfl (by repeat first | exact mH | apply mT | apply mA) rfl rfl ?_
  refine xo_gtr rfl rfl rfl rfl ?_
  refine xoA ?_
  with_reducible (apply xo_nil; (repeat first | apply xqT | apply xqB | apply xqS); (repeat apply xc_seq); apply xc_ret; (repeat (first | apply xq_thenR | apply xq_blockR | apply xq_scopeR)))
  exact xq_ret1 rfl rfl fun w' hw => ⟨by rw [hso], hw.kx.below⟩
 have q2 : ¬ m.f1 = 2 := of_decide_eq_false h
 with_reducible ((repeat apply xc_seq); apply xcR)
 refine xo_eql rfl rfl rfl rfl ?_
 refine xoA ?_
 with_reducible (apply xo_nil; (repeat first | apply xqT | apply xqB | apply xqS); (repeat apply xc_seq))
 refine xc_cond rfl (fun h => ?_) (fun h => ?_)
 ·have q3 : m.f1 = 3 := of_decide_eq_true h
  have hso : soF E m at_ = decide (at_ m.f2.toNat ≤ m.f4.f1) := by simp [soF, q3]
  with_reducible ((repeat apply xc_seq); apply xcR)
  refine xoM ?_
  refine xo_fa T_ rfl rfl rfl rfl rfl ?_
  refine xo_fa T_ rfl rfl rfl rfl rfl ?_
  refine xo_load0 T_ rfl rfl rfl (by repeat first | exact mH | apply mT | apply mA) rfl rfl ?_
  refine xo_leq rfl rfl rfl rfl ?_
  refine xoA ?_
  with_reducible (apply xo_nil; (repeat first | apply xqT | apply xqB | apply xqS); (repeat apply xc_seq); apply xc_ret; (repeat (first | apply xq_thenR | apply xq_blockR | apply xq_scopeR)))
  exact xq_ret1 rfl rfl fun w' hw => ⟨by rw [hso], hw.kx.below⟩
 have q3 : ¬ m.f1 = 3 := of_decide_eq_false h
 with_reducible ((repeat apply xc_seq); apply xcR)
 refine xo_eql rfl rfl rfl rfl ?_
 refine xoA ?_
 with_reducible (apply xo_nil; (repeat first | apply xqT | apply xqB | apply xqS); (repeat apply xc_seq))
 refine xc_cond rfl (fun h => ?_) (fun h => ?_)
 ·have q4 : m.f1 = 4 := of_decide_eq_true h
  have hso : soF E m at_ = (!decide (at_ m.f2.toNat = 1073741824) && decide (m.f5 ≤ E - at_ m.f2.toNat)) := by simp [soF, q4]
  generalize ha : (!decide (at_ m.f2.toNat = 1073741824)) = a at hso
  cases a
  ·with_reducible repeat apply xc_seq
   with_reducible apply xcR
   refine xoM ?_
   refine xo_neq rfl rfl rfl rfl ?_
   refine xo_as (i := 46) rfl (congrArg Value.bool ha) ?_
   refine xoM ?_
   (first | refine xoN ?_ | refine xo_fa T_ rfl rfl rfl rfl rfl ?_)
   (first | refine xoN ?_ | refine xo_load0 T_ rfl rfl rfl (by repeat first | exact mH | apply mT | apply mA) rfl rfl ?_)
   (first | refine xoN ?_ | refine xoM ?_)
   (first | refine xoN ?_ | refine xo_sub rfl rfl rfl (by omega) rfl ?_)
   (first | refine xoN ?_ | refine xo_fa T_ rfl rfl rfl rfl rfl ?_)
   (first | refine xoN ?_ | refine xo_load0 T_ rfl rfl rfl (by repeat first | exact mH | apply mT | apply mA) rfl rfl ?_)
   (first | refine xoN ?_ | refine xo_geq rfl rfl rfl rfl ?_)
   first | refine xo_pickT rfl rfl rfl rfl ?_ | refine xo_pickF rfl rfl rfl rfl ?_
   refine xoA ?_
   with_reducible (apply xo_nil; (repeat first | apply xqT | apply xqB | apply xqS); (repeat apply xc_seq); apply xc_ret; (repeat (first | apply xq_thenR | apply xq_blockR | apply xq_scopeR)))
   exact xq_ret1 rfl rfl fun w' hw => ⟨by rw [hso]; rfl, hw.kx.below⟩
  ·with_reducible repeat apply xc_seq
   with_reducible apply xcR
   refine xoM ?_
   refine xo_neq rfl rfl rfl rfl ?_
   refine xo_as (i := 46) rfl (congrArg Value.bool ha) ?_
   refine xoM ?_
   (first | refine xoN ?_ | refine xo_fa T_ rfl rfl rfl rfl rfl ?_)
   (first | refine xoN ?_ | refine xo_load0 T_ rfl rfl rfl (by repeat first | exact mH | apply mT | apply mA) rfl rfl ?_)
   (first | refine xoN ?_ | refine xoM ?_)
   (first | refine xoN ?_ | refine xo_sub rfl rfl rfl (by omega) rfl ?_)
   (first | refine xoN ?_ | refine xo_fa T_ rfl rfl rfl rfl rfl ?_)
   (first | refine xoN ?_ | refine xo_load0 T_ rfl rfl rfl (by repeat first | exact mH | apply mT | apply mA) rfl rfl ?_)
   (first | refine xoN ?_ | refine xo_geq rfl rfl rfl rfl ?_)
   first | refine xo_pickT rfl rfl rfl rfl ?_ | refine xo_pickF rfl rfl rfl rfl ?_
   refine xoA ?_
   with_reducible (apply xo_nil; (repeat first | apply xqT | apply xqB | apply xqS); (repeat apply xc_seq); apply xc_ret; (repeat (first | apply xq_thenR | apply xq_blockR | apply xq_scopeR)))
   exact xq_ret1 rfl rfl fun w' hw => ⟨by rw [hso]; rfl, hw.kx.below⟩
 have q4 : ¬ m.f1 = 4 := of_decide_eq_false h
 with_reducible ((repeat apply xc_seq); apply xcR)
 refine xo_eql rfl rfl rfl rfl ?_
 refine xoA ?_
 with_reducible (apply xo_nil; (repeat first | apply xqT | apply xqB | apply xqS); (repeat apply xc_seq))
 refine xc_cond rfl (fun h => ?_) (fun h => ?_)
 ·have q5 : m.f1 = 5 := of_decide_eq_true h
  have hso : soF E m at_ = (decide (at_ m.f2.toNat = 1073741824) || decide (E - at_ m.f2.toNat < m.f5)) := by simp [soF, q5]
  generalize ha : decide (at_ m.f2.toNat = 1073741824) = a at hso
  cases a
  ·with_reducible repeat apply xc_seq
   with_reducible apply xcR
   refine xoM ?_
   refine xo_eql rfl rfl rfl rfl ?_
   refine xo_as (i := 59) rfl (congrArg Value.bool ha) ?_
   refine xoM ?_
   (first | refine xoN ?_ | refine xo_fa T_ rfl rfl rfl rfl rfl ?_)
   (first | refine xoN ?_ | refine xo_load0 T_ rfl rfl rfl (by repeat first | exact mH | apply mT | apply mA) rfl rfl ?_)
   (first | refine xoN ?_ | refine xoM ?_)
   (first | refine xoN ?_ | refine xo_sub rfl rfl rfl (by omega) rfl ?_)
   (first | refine xoN ?_ | refine xo_fa T_ rfl rfl rfl rfl rfl ?_)
   (first | refine xoN ?_ | refine xo_load0 T_ rfl rfl rfl (by repeat first | exact mH | apply mT | apply mA) rfl rfl ?_)
   (first | refine xoN ?_ | refine xo_lss rfl rfl rfl rfl ?_)
   first | refine xo_pickT rfl rfl rfl rfl ?_ | refine xo_pickF rfl rfl rfl rfl ?_
   refine xoA ?_
   with_reducible (apply xo_nil; (repeat first | apply xqT | apply xqB | apply xqS); (repeat apply xc_seq); apply xc_ret; (repeat (first | apply xq_thenR | apply xq_blockR | apply xq_scopeR)))
   exact xq_ret1 rfl rfl fun w' hw => ⟨by rw [hso]; rfl, hw.kx.below⟩
  ·with_reducible repeat apply xc_seq
   with_reducible apply xcR
   refine xoM ?_
   refine xo_eql rfl rfl rfl rfl ?_
   refine xo_as (i := 59) rfl (congrArg Value.bool ha) ?_
   refine xoM ?_
   (first | refine xoN ?_ | refine xo_fa T_ rfl rfl rfl rfl rfl ?_)
   (first | refine xoN ?_ | refine xo_load0 T_ rfl rfl rfl (by repeat first | exact mH | apply mT | apply mA) rfl rfl ?_)
   (first | refine xoN ?_ | refine xoM ?_)
   (first | refine xoN ?_ | refine xo_sub rfl rfl rfl (by omega) rfl ?_)
   (first | refine xoN ?_ | refine xo_fa T_ rfl rfl rfl rfl rfl ?_)
   (first | refine xoN ?_ | refine xo_load0 T_ rfl rfl rfl (by repeat first | exact mH | apply mT | apply mA) rfl rfl ?_)
   (first | refine xoN ?_ | refine xo_lss rfl rfl rfl rfl ?_)
   first | refine xo_pickT rfl rfl rfl rfl ?_ | refine xo_pickF rfl rfl rfl rfl ?_
   refine xoA ?_
   with_reducible (apply xo_nil; (repeat first | apply xqT | apply xqB | apply xqS); (repeat apply xc_seq); apply xc_ret; (repeat (first | apply xq_thenR | apply xq_blockR | apply xq_scopeR)))
   exact xq_ret1 rfl rfl fun w' hw => ⟨by rw [hso]; rfl, hw.kx.below⟩
 have q5 : ¬ m.f1 = 5 := of_decide_eq_false h
 have hso : soF E m at_ = decide (at_ m.f2.toNat < at_ m.f3.toNat) := by simp [soF, q1, q2, q3, q4, q5]
 with_reducible (apply xc_skip; (repeat first | apply xqT | apply xqB | apply xqS); (repeat apply xc_seq); apply xcR)
 refine xoM ?_
 refine xoM ?_
 refine xo_fa T_ rfl rfl rfl rfl rfl ?_
 refine xo_load0 T_ rfl rfl rfl (by repeat first | exact mH | apply mT | apply mA) rfl rfl ?_
 refine xo_ia T_ rfl rfl rfl rfl rfl ⟨by omega, by omega⟩ rfl ?_
 refine xo_loadR0 T_ rfl rfl rfl hRO3 rfl ?_
 refine xo_lss rfl rfl rfl rfl ?_
 refine xoA ?_
 with_reducible (apply xo_nil; (repeat first | apply xqT | apply xqB | apply xqS); (repeat apply xc_seq); apply xc_ret; (repeat (first | apply xq_thenR | apply xq_blockR | apply xq_scopeR)))
 exact xq_ret1 rfl rfl fun w' hw => ⟨by rw [hso], hw.kx.below⟩
theorem so_enters : ∀ args w, (callFunc 29 args).run Tryz.prog w = .ok (.enter 29 args) w := enters_of Tryz.func29 (by kernel_rfl) rfl
end Go.Proofs.YtommeljlfkmpjaaGreatDoor
