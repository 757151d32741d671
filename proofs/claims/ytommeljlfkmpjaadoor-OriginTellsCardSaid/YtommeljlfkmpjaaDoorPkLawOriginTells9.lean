/- ref09: window, both. / ref09: some, rooms. / ref09: Why, Against. / ref09: can, Minutes (reached by OriginTells alone). / origin: what the program and the reference find is the same: distances, windows, rooms, fewest marks: plain. -/
import Derived.Test.YtommeljlfkmpjaaDoorPkLawOriginTells8
import Derived.Test.YtommeljlfkmpjaaDoorPkLawOriginTells2
import Derived.Test.YtommeljlfkmpjaaDoorPkLawOriginTells7
set_option linter.unusedVariables false
set_option linter.unusedSimpArgs false
namespace Go.Proofs.YtommeljlfkmpjaaDoor
open Go.RowKit Go.Proofs.YtommeljlfkmpjaaDoorW.PrintWords
def noneS : SpaT := ⟨1, 0⟩
def windowV (E x y : Int) (m : MarT) : SpaT :=
 if m.f1 = 1 then (if x < 1000000 then ⟨m.f4.f0 - x, m.f4.f1 - x⟩ else noneS)
 else if m.f1 = 2 then (if x < 1000000 then ⟨m.f4.f0 + 1 - x, E⟩ else ⟨0, E⟩)
 else if m.f1 = 3 then (if x < 1000000 then ⟨0, m.f4.f1 - x⟩ else noneS)
 else if m.f1 = 4 then (if x < 1000000 then ⟨0, E - m.f5 - x⟩ else noneS)
 else if m.f1 = 5 then (if x < 1000000 then ⟨E - m.f5 + 1 - x, E⟩ else ⟨0, E⟩)
 else if m.f1 = 6 then (if x < 1000000 ∧ x < y then ⟨0, E⟩ else noneS)
 else noneS
def windowF (E : Int) (d : Nat → Int) (m : MarT) : SpaT := windowV E (d m.f2.toNat) (d m.f3.toNat) m
abbrev IntsD (w : World) (A : Option Addr) (n : Nat) (d : Nat → Int) : Prop := IntsAt w A ((List.range n).map d)
theorem intsD_at {w : World} {A : Option Addr} {n : Nat} {d : Nat → Int} (h : IntsD w A n d) {v : Nat} (hv : v < n) : ∃ ad, A = some ad ∧ RO w XNone (ad.add ((v : Int).toNat * szN 0)) [.int .i64 (d v)] := by
 obtain ⟨ad, e, q⟩ := h v (by simpa using hv)
 refine ⟨ad, e, ?_⟩
 have : ((List.range n).map d).getD v 0 = d v := by simp [List.getD_eq_getElem?_getD, hv]
 rwa [this] at q
structure MarkR (n : Nat) (m : MarT) : Prop where
 ok : MarkOK m
 room : 0 ≤ m.f2 ∧ m.f2 < n
 other : 0 ≤ m.f3 ∧ m.f3 < n
set_option maxHeartbeats 8000000 in
theorem window_calls (n : Nat) (E : Int) (A B D : Option Addr) (ng c nm c2 cd : Nat) (d : Nat → Int) (m : MarT) (w : World) (hn : 1 ≤ n ∧ n ≤ 6) (hE : 0 ≤ E ∧ E ≤ 600) (hm : MarkR n m) (hd : InN d) (hD : IntsD w D n d) :
  Calls Tryd.prog 61 #[.agg (scnV n A ng c E B nm c2).toArray, .agg (marV m).toArray, .slice D n cd] w fun e w' => e = .returned (.agg (spaV (windowF E d m)).toArray) ∧ Below w.heap.size w w' := by
 obtain ⟨⟨hk, hb, ho, hlo, hhi, hlong⟩, hroom, hother⟩ := hm
 obtain ⟨ad, rfl, q1⟩ := intsD_at hD (v := m.f2.toNat) (by omega)
 obtain ⟨ad2, e2, q2⟩ := intsD_at hD (v := m.f3.toNat) (by omega)
 cases e2
 rw [Int.toNat_natCast] at q1 q2
 have hdr := hd m.f2.toNat
 unfold windowF
 generalize d m.f2.toNat = x at q1 hdr ⊢
 generalize d m.f3.toNat = y at q2 ⊢
 unfold windowV
 refine x_calls (X := XNone) Tryd.func61 rfl rfl rfl ?_
 with_reducible ((repeat apply xc_seq); apply xcR)
 refine xo_box rfl rfl rfl rfl (fun b3 => ?_)
 refine xo_box rfl rfl rfl rfl (fun b4 => ?_)
 refine xo_alloc T_ rfl rfl rfl rfl (fun b6 => ?_)
 with_reducible (apply xo_nil; (repeat first | apply xqT | apply xqB | apply xqS); (repeat apply xc_seq); apply xcR)
 refine xo_fa T_ rfl rfl rfl rfl rfl ?_
 refine xo_load0 T_ rfl rfl rfl (by repeat first | exact mH | apply mT | apply mA) rfl rfl ?_
 refine xo_build TB_ rfl rfl rfl rfl rfl ?_
 refine xo_build TB_ rfl rfl rfl rfl rfl ?_
 refine xo_alloc T_ rfl rfl rfl rfl (fun b7 => ?_)
 refine xo_alloc T_ rfl rfl rfl rfl (fun b8 => ?_)
 refine xo_store T_ rfl rfl rfl rfl (by repeat first | exact mH | apply mT | apply mA) rfl rfl rfl rfl (by repeat first | exact Upd.head | apply Upd.tail | apply Upd.app) rfl ?_
 refine xo_store T_ rfl rfl rfl rfl (by repeat first | exact mH | apply mT | apply mA) rfl rfl rfl rfl (by repeat first | exact Upd.head | apply Upd.tail | apply Upd.app) rfl ?_
 with_reducible (apply xo_nil; (repeat first | apply xqT | apply xqB | apply xqS); (repeat apply xc_seq); apply xcR)
 refine xoM ?_
 refine xo_fa T_ rfl rfl rfl rfl rfl ?_
 refine xo_load0 T_ rfl rfl rfl (by repeat first | exact mH | apply mT | apply mA) rfl rfl ?_
 refine xo_ia T_ (i := m.f2) rfl rfl rfl rfl rfl ⟨by omega, by omega⟩ rfl ?_
 refine xo_loadR0 T_ rfl rfl rfl q1 rfl ?_
 refine xoA ?_
 with_reducible (apply xo_nil; (repeat first | apply xqT | apply xqB | apply xqS))
 have hcase : m.f1 = 1 ∨ m.f1 = 2 ∨ m.f1 = 3 ∨ m.f1 = 4 ∨ m.f1 = 5 ∨ m.f1 = 6 := by omega
 cases hc : decide (x < 1000000)
 ·have hx : ¬ x < 1000000 := of_decide_eq_false hc
  with_reducible ((repeat apply xc_seq); apply xcR)
  refine xoM ?_
  refine xo_lss rfl rfl rfl rfl ?_
  refine xoA ?_
  refine xo_as (i := 10) rfl (congrArg Value.bool hc) ?_
  with_reducible (apply xo_nil; (repeat first | apply xqT | apply xqB | apply xqS); (repeat apply xc_seq); apply xcR)
  refine xo_fa T_ rfl rfl rfl rfl rfl ?_
  refine xo_load0 T_ rfl rfl rfl (by repeat first | exact mH | apply mT | apply mA) rfl rfl ?_
  with_reducible (apply xo_nil; (repeat first | apply xqT | apply xqB | apply xqS); (repeat apply xc_seq); apply xc_block)
  rcases hcase with hk | hk | hk | hk | hk | hk
  ·refine xc_slots [(2, .slice (some ad) n cd), (3, .pointer (some ⟨b3, 0, none⟩)), (4, .pointer (some ⟨b4, 0, none⟩)), (6, .pointer (some ⟨b6, 0, none⟩)), (7, .pointer (some ⟨b7, 0, none⟩)), (8, .pointer (some ⟨b8, 0, none⟩)), (9, .int .i64 x), (10, .bool false), (23, .int .u8 1)] ⟨rfl, rfl, rfl, rfl, rfl, rfl, rfl, rfl, congrArg (fun q => some (Value.int .u8 q)) hk, trivial⟩ ?_
   with_reducible ((repeat apply xc_seq); apply xcR)
   refine xo_eql rfl rfl rfl rfl ?_
   refine xoA ?_
   with_reducible (apply xo_nil; (repeat first | apply xqT | apply xqB | apply xqS); (repeat apply xc_seq))
   refine xc_condT rfl ?_
   with_reducible ((repeat apply xc_seq); apply xcR)
   refine xoM ?_
   with_reducible (apply xo_nil; (repeat first | apply xqT | apply xqB | apply xqS); (repeat apply xc_seq))
   refine xc_condF rfl ?_
   with_reducible (apply xc_skip; (repeat first | apply xqT | apply xqB | apply xqS); (repeat apply xc_seq); apply xcR)
   refine xo_loadN T_ rfl rfl rfl (by repeat first | exact mH | apply mT | apply mA) rfl rfl ?_
   refine xo_store T_ rfl rfl rfl rfl (by repeat first | exact mH | apply mT | apply mA) rfl rfl rfl rfl (by repeat first | exact Upd.head | apply Upd.tail | apply Upd.app) rfl ?_
   with_reducible (apply xo_nil; (repeat first | apply xqT | apply xqB | apply xqS); (repeat apply xc_seq); apply xc_ret; (repeat (first | apply xq_thenR | apply xq_blockR | apply xq_scopeR)))
   exact xq_retC T_ rfl rfl rfl (by repeat first | exact mH | apply mT | apply mA) rfl fun w' hw => ⟨by rw [if_pos hk, if_neg hx]; rfl, hw.kx.below⟩
  ·refine xc_slots [(2, .slice (some ad) n cd), (3, .pointer (some ⟨b3, 0, none⟩)), (4, .pointer (some ⟨b4, 0, none⟩)), (6, .pointer (some ⟨b6, 0, none⟩)), (7, .pointer (some ⟨b7, 0, none⟩)), (8, .pointer (some ⟨b8, 0, none⟩)), (9, .int .i64 x), (10, .bool false), (23, .int .u8 2)] ⟨rfl, rfl, rfl, rfl, rfl, rfl, rfl, rfl, congrArg (fun q => some (Value.int .u8 q)) hk, trivial⟩ ?_
   with_reducible ((repeat apply xc_seq); apply xcR)
   refine xo_eql rfl rfl rfl rfl ?_
   refine xoA ?_
   with_reducible (apply xo_nil; (repeat first | apply xqT | apply xqB | apply xqS); (repeat apply xc_seq))
   refine xc_condF rfl ?_
   with_reducible ((repeat apply xc_seq); apply xcR)
   refine xo_eql rfl rfl rfl rfl ?_
   refine xoA ?_
   with_reducible (apply xo_nil; (repeat first | apply xqT | apply xqB | apply xqS); (repeat apply xc_seq))
   refine xc_condT rfl ?_
   with_reducible ((repeat apply xc_seq); apply xcR)
   refine xoM ?_
   refine xo_notOp rfl rfl rfl ?_
   with_reducible (apply xo_nil; (repeat first | apply xqT | apply xqB | apply xqS); (repeat apply xc_seq))
   refine xc_condT rfl ?_
   with_reducible ((repeat apply xc_seq); apply xcR)
   refine xo_loadN T_ rfl rfl rfl (by repeat first | exact mH | apply mT | apply mA) rfl rfl ?_
   refine xo_store T_ rfl rfl rfl rfl (by repeat first | exact mH | apply mT | apply mA) rfl rfl rfl rfl (by repeat first | exact Upd.head | apply Upd.tail | apply Upd.app) rfl ?_
   with_reducible (apply xo_nil; (repeat first | apply xqT | apply xqB | apply xqS); (repeat apply xc_seq); apply xc_ret; (repeat (first | apply xq_thenR | apply xq_blockR | apply xq_scopeR)))
   exact xq_retC T_ rfl rfl rfl (by repeat first | exact mH | apply mT | apply mA) rfl fun w' hw => ⟨by rw [if_neg (by omega), if_pos hk, if_neg hx]; rfl, hw.kx.below⟩
  ·refine xc_slots [(2, .slice (some ad) n cd), (3, .pointer (some ⟨b3, 0, none⟩)), (4, .pointer (some ⟨b4, 0, none⟩)), (6, .pointer (some ⟨b6, 0, none⟩)), (7, .pointer (some ⟨b7, 0, none⟩)), (8, .pointer (some ⟨b8, 0, none⟩)), (9, .int .i64 x), (10, .bool false), (23, .int .u8 3)] ⟨rfl, rfl, rfl, rfl, rfl, rfl, rfl, rfl, congrArg (fun q => some (Value.int .u8 q)) hk, trivial⟩ ?_
   with_reducible ((repeat apply xc_seq); apply xcR)
   refine xo_eql rfl rfl rfl rfl ?_
   refine xoA ?_
   with_reducible (apply xo_nil; (repeat first | apply xqT | apply xqB | apply xqS); (repeat apply xc_seq))
   refine xc_condF rfl ?_
   with_reducible ((repeat apply xc_seq); apply xcR)
   refine xo_eql rfl rfl rfl rfl ?_
   refine xoA ?_
   with_reducible (apply xo_nil; (repeat first | apply xqT | apply xqB | apply xqS); (repeat apply xc_seq))
   refine xc_condF rfl ?_
   with_reducible ((repeat apply xc_seq); apply xcR)
   refine xo_eql rfl rfl rfl rfl ?_
   refine xoA ?_
   with_reducible (apply xo_nil; (repeat first | apply xqT | apply xqB | apply xqS); (repeat apply xc_seq))
   refine xc_condT rfl ?_
   with_reducible ((repeat apply xc_seq); apply xcR)
   refine xoM ?_
   with_reducible (apply xo_nil; (repeat first | apply xqT | apply xqB | apply xqS); (repeat apply xc_seq))
   refine xc_condF rfl ?_
   with_reducible (apply xc_skip; (repeat first | apply xqT | apply xqB | apply xqS); (repeat apply xc_seq); apply xcR)
   refine xo_loadN T_ rfl rfl rfl (by repeat first | exact mH | apply mT | apply mA) rfl rfl ?_
   refine xo_store T_ rfl rfl rfl rfl (by repeat first | exact mH | apply mT | apply mA) rfl rfl rfl rfl (by repeat first | exact Upd.head | apply Upd.tail | apply Upd.app) rfl ?_
   with_reducible (apply xo_nil; (repeat first | apply xqT | apply xqB | apply xqS); (repeat apply xc_seq); apply xc_ret; (repeat (first | apply xq_thenR | apply xq_blockR | apply xq_scopeR)))
   exact xq_retC T_ rfl rfl rfl (by repeat first | exact mH | apply mT | apply mA) rfl fun w' hw => ⟨by rw [if_neg (by omega), if_neg (by omega), if_pos hk, if_neg hx]; rfl, hw.kx.below⟩
  ·refine xc_slots [(2, .slice (some ad) n cd), (3, .pointer (some ⟨b3, 0, none⟩)), (4, .pointer (some ⟨b4, 0, none⟩)), (6, .pointer (some ⟨b6, 0, none⟩)), (7, .pointer (some ⟨b7, 0, none⟩)), (8, .pointer (some ⟨b8, 0, none⟩)), (9, .int .i64 x), (10, .bool false), (23, .int .u8 4)] ⟨rfl, rfl, rfl, rfl, rfl, rfl, rfl, rfl, congrArg (fun q => some (Value.int .u8 q)) hk, trivial⟩ ?_
   with_reducible ((repeat apply xc_seq); apply xcR)
   refine xo_eql rfl rfl rfl rfl ?_
   refine xoA ?_
   with_reducible (apply xo_nil; (repeat first | apply xqT | apply xqB | apply xqS); (repeat apply xc_seq))
   refine xc_condF rfl ?_
   with_reducible ((repeat apply xc_seq); apply xcR)
   refine xo_eql rfl rfl rfl rfl ?_
   refine xoA ?_
   with_reducible (apply xo_nil; (repeat first | apply xqT | apply xqB | apply xqS); (repeat apply xc_seq))
   refine xc_condF rfl ?_
   with_reducible ((repeat apply xc_seq); apply xcR)
   refine xo_eql rfl rfl rfl rfl ?_
   refine xoA ?_
   with_reducible (apply xo_nil; (repeat first | apply xqT | apply xqB | apply xqS); (repeat apply xc_seq))
   refine xc_condF rfl ?_
   with_reducible ((repeat apply xc_seq); apply xcR)
   refine xo_eql rfl rfl rfl rfl ?_
   refine xoA ?_
   with_reducible (apply xo_nil; (repeat first | apply xqT | apply xqB | apply xqS); (repeat apply xc_seq))
   refine xc_condT rfl ?_
   with_reducible ((repeat apply xc_seq); apply xcR)
   refine xoM ?_
   with_reducible (apply xo_nil; (repeat first | apply xqT | apply xqB | apply xqS); (repeat apply xc_seq))
   refine xc_condF rfl ?_
   with_reducible (apply xc_skip; (repeat first | apply xqT | apply xqB | apply xqS); (repeat apply xc_seq); apply xcR)
   refine xo_loadN T_ rfl rfl rfl (by repeat first | exact mH | apply mT | apply mA) rfl rfl ?_
   refine xo_store T_ rfl rfl rfl rfl (by repeat first | exact mH | apply mT | apply mA) rfl rfl rfl rfl (by repeat first | exact Upd.head | apply Upd.tail | apply Upd.app) rfl ?_
   with_reducible (apply xo_nil; (repeat first | apply xqT | apply xqB | apply xqS); (repeat apply xc_seq); apply xc_ret; (repeat (first | apply xq_thenR | apply xq_blockR | apply xq_scopeR)))
   exact xq_retC T_ rfl rfl rfl (by repeat first | exact mH | apply mT | apply mA) rfl fun w' hw => ⟨by rw [if_neg (by omega), if_neg (by omega), if_neg (by omega), if_pos hk, if_neg hx]; rfl, hw.kx.below⟩
  ·refine xc_slots [(2, .slice (some ad) n cd), (3, .pointer (some ⟨b3, 0, none⟩)), (4, .pointer (some ⟨b4, 0, none⟩)), (6, .pointer (some ⟨b6, 0, none⟩)), (7, .pointer (some ⟨b7, 0, none⟩)), (8, .pointer (some ⟨b8, 0, none⟩)), (9, .int .i64 x), (10, .bool false), (23, .int .u8 5)] ⟨rfl, rfl, rfl, rfl, rfl, rfl, rfl, rfl, congrArg (fun q => some (Value.int .u8 q)) hk, trivial⟩ ?_
   with_reducible ((repeat apply xc_seq); apply xcR)
   refine xo_eql rfl rfl rfl rfl ?_
   refine xoA ?_
   with_reducible (apply xo_nil; (repeat first | apply xqT | apply xqB | apply xqS); (repeat apply xc_seq))
   refine xc_condF rfl ?_
   with_reducible ((repeat apply xc_seq); apply xcR)
   refine xo_eql rfl rfl rfl rfl ?_
   refine xoA ?_
   with_reducible (apply xo_nil; (repeat first | apply xqT | apply xqB | apply xqS); (repeat apply xc_seq))
   refine xc_condF rfl ?_
   with_reducible ((repeat apply xc_seq); apply xcR)
   refine xo_eql rfl rfl rfl rfl ?_
   refine xoA ?_
   with_reducible (apply xo_nil; (repeat first | apply xqT | apply xqB | apply xqS); (repeat apply xc_seq))
   refine xc_condF rfl ?_
   with_reducible ((repeat apply xc_seq); apply xcR)
   refine xo_eql rfl rfl rfl rfl ?_
   refine xoA ?_
   with_reducible (apply xo_nil; (repeat first | apply xqT | apply xqB | apply xqS); (repeat apply xc_seq))
   refine xc_condF rfl ?_
   with_reducible ((repeat apply xc_seq); apply xcR)
   refine xo_eql rfl rfl rfl rfl ?_
   refine xoA ?_
   with_reducible (apply xo_nil; (repeat first | apply xqT | apply xqB | apply xqS); (repeat apply xc_seq))
   refine xc_condT rfl ?_
   with_reducible ((repeat apply xc_seq); apply xcR)
   refine xoM ?_
   refine xo_notOp rfl rfl rfl ?_
   with_reducible (apply xo_nil; (repeat first | apply xqT | apply xqB | apply xqS); (repeat apply xc_seq))
   refine xc_condT rfl ?_
   with_reducible ((repeat apply xc_seq); apply xcR)
   refine xo_loadN T_ rfl rfl rfl (by repeat first | exact mH | apply mT | apply mA) rfl rfl ?_
   refine xo_store T_ rfl rfl rfl rfl (by repeat first | exact mH | apply mT | apply mA) rfl rfl rfl rfl (by repeat first | exact Upd.head | apply Upd.tail | apply Upd.app) rfl ?_
   with_reducible (apply xo_nil; (repeat first | apply xqT | apply xqB | apply xqS); (repeat apply xc_seq); apply xc_ret; (repeat (first | apply xq_thenR | apply xq_blockR | apply xq_scopeR)))
   exact xq_retC T_ rfl rfl rfl (by repeat first | exact mH | apply mT | apply mA) rfl fun w' hw => ⟨by rw [if_neg (by omega), if_neg (by omega), if_neg (by omega), if_neg (by omega), if_pos hk, if_neg hx]; rfl, hw.kx.below⟩
  ·refine xc_slots [(2, .slice (some ad) n cd), (3, .pointer (some ⟨b3, 0, none⟩)), (4, .pointer (some ⟨b4, 0, none⟩)), (6, .pointer (some ⟨b6, 0, none⟩)), (7, .pointer (some ⟨b7, 0, none⟩)), (8, .pointer (some ⟨b8, 0, none⟩)), (9, .int .i64 x), (10, .bool false), (23, .int .u8 6)] ⟨rfl, rfl, rfl, rfl, rfl, rfl, rfl, rfl, congrArg (fun q => some (Value.int .u8 q)) hk, trivial⟩ ?_
   with_reducible ((repeat apply xc_seq); apply xcR)
   refine xo_eql rfl rfl rfl rfl ?_
   refine xoA ?_
   with_reducible (apply xo_nil; (repeat first | apply xqT | apply xqB | apply xqS); (repeat apply xc_seq))
   refine xc_condF rfl ?_
   with_reducible ((repeat apply xc_seq); apply xcR)
   refine xo_eql rfl rfl rfl rfl ?_
   refine xoA ?_
   with_reducible (apply xo_nil; (repeat first | apply xqT | apply xqB | apply xqS); (repeat apply xc_seq))
   refine xc_condF rfl ?_
   with_reducible ((repeat apply xc_seq); apply xcR)
   refine xo_eql rfl rfl rfl rfl ?_
   refine xoA ?_
   with_reducible (apply xo_nil; (repeat first | apply xqT | apply xqB | apply xqS); (repeat apply xc_seq))
   refine xc_condF rfl ?_
   with_reducible ((repeat apply xc_seq); apply xcR)
   refine xo_eql rfl rfl rfl rfl ?_
   refine xoA ?_
   with_reducible (apply xo_nil; (repeat first | apply xqT | apply xqB | apply xqS); (repeat apply xc_seq))
   refine xc_condF rfl ?_
   with_reducible ((repeat apply xc_seq); apply xcR)
   refine xo_eql rfl rfl rfl rfl ?_
   refine xoA ?_
   with_reducible (apply xo_nil; (repeat first | apply xqT | apply xqB | apply xqS); (repeat apply xc_seq))
   refine xc_condF rfl ?_
   with_reducible ((repeat apply xc_seq); apply xcR)
   refine xo_eql rfl rfl rfl rfl ?_
   refine xoA ?_
   with_reducible (apply xo_nil; (repeat first | apply xqT | apply xqB | apply xqS); (repeat apply xc_seq))
   refine xc_condT rfl ?_
   with_reducible ((repeat apply xc_seq); apply xcR)
   refine xoM ?_
   refine xoM ?_
   (first | refine xoN ?_ | refine xoM ?_)
   (first | refine xoN ?_ | refine xoM ?_)
   (first | refine xoN ?_ | refine xo_fa T_ rfl rfl rfl rfl rfl ?_)
   (first | refine xoN ?_ | refine xo_load0 T_ rfl rfl rfl (by repeat first | exact mH | apply mT | apply mA) rfl rfl ?_)
   (first | refine xoN ?_ | refine xo_ia T_ rfl rfl rfl rfl rfl ⟨by omega, by omega⟩ rfl ?_)
   (first | refine xoN ?_ | refine xo_loadR0 T_ rfl rfl rfl (by first | assumption | exact RO.fld (by assumption) rfl) rfl ?_)
   (first | refine xoN ?_ | refine xo_lss rfl rfl rfl rfl ?_)
   first | refine xo_pickT rfl rfl rfl rfl ?_ | refine xo_pickF rfl rfl rfl rfl ?_
   with_reducible (apply xo_nil; (repeat first | apply xqT | apply xqB | apply xqS); (repeat apply xc_seq))
   refine xc_condF rfl ?_
   with_reducible (apply xc_skip; (repeat first | apply xqT | apply xqB | apply xqS); (repeat apply xc_seq); apply xcR)
   refine xo_loadN T_ rfl rfl rfl (by repeat first | exact mH | apply mT | apply mA) rfl rfl ?_
   refine xo_store T_ rfl rfl rfl rfl (by repeat first | exact mH | apply mT | apply mA) rfl rfl rfl rfl (by repeat first | exact Upd.head | apply Upd.tail | apply Upd.app) rfl ?_
   with_reducible (apply xo_nil; (repeat first | apply xqT | apply xqB | apply xqS); (repeat apply xc_seq); apply xc_ret; (repeat (first | apply xq_thenR | apply xq_blockR | apply xq_scopeR)))
   exact xq_retC T_ rfl rfl rfl (by repeat first | exact mH | apply mT | apply mA) rfl fun w' hw => ⟨by rw [if_neg (by omega), if_neg (by omega), if_neg (by omega), if_neg (by omega), if_neg (by omega), if_pos hk, if_neg (fun q => hx q.1)]; rfl, hw.kx.below⟩
 ·have hx : x < 1000000 := of_decide_eq_true hc
  with_reducible ((repeat apply xc_seq); apply xcR)
  refine xoM ?_
  refine xo_lss rfl rfl rfl rfl ?_
  refine xoA ?_
  refine xo_as (i := 10) rfl (congrArg Value.bool hc) ?_
  with_reducible (apply xo_nil; (repeat first | apply xqT | apply xqB | apply xqS); (repeat apply xc_seq); apply xcR)
  refine xo_fa T_ rfl rfl rfl rfl rfl ?_
  refine xo_load0 T_ rfl rfl rfl (by repeat first | exact mH | apply mT | apply mA) rfl rfl ?_
  with_reducible (apply xo_nil; (repeat first | apply xqT | apply xqB | apply xqS); (repeat apply xc_seq); apply xc_block)
  rcases hcase with hk | hk | hk | hk | hk | hk
  ·refine xc_slots [(2, .slice (some ad) n cd), (3, .pointer (some ⟨b3, 0, none⟩)), (4, .pointer (some ⟨b4, 0, none⟩)), (6, .pointer (some ⟨b6, 0, none⟩)), (7, .pointer (some ⟨b7, 0, none⟩)), (8, .pointer (some ⟨b8, 0, none⟩)), (9, .int .i64 x), (10, .bool true), (23, .int .u8 1)] ⟨rfl, rfl, rfl, rfl, rfl, rfl, rfl, rfl, congrArg (fun q => some (Value.int .u8 q)) hk, trivial⟩ ?_
   with_reducible ((repeat apply xc_seq); apply xcR)
   refine xo_eql rfl rfl rfl rfl ?_
   refine xoA ?_
   with_reducible (apply xo_nil; (repeat first | apply xqT | apply xqB | apply xqS); (repeat apply xc_seq))
   refine xc_condT rfl ?_
   with_reducible ((repeat apply xc_seq); apply xcR)
   refine xoM ?_
   with_reducible (apply xo_nil; (repeat first | apply xqT | apply xqB | apply xqS); (repeat apply xc_seq))
   refine xc_condT rfl ?_
   with_reducible ((repeat apply xc_seq); apply xcR)
   refine xo_fa T_ rfl rfl rfl rfl rfl ?_
   refine xo_fa T_ rfl rfl rfl rfl rfl ?_
   refine xo_load0 T_ rfl rfl rfl (by repeat first | exact mH | apply mT | apply mA) rfl rfl ?_
   refine xoM ?_
   refine xo_sub rfl rfl rfl (by omega) rfl ?_
   refine xo_fa T_ rfl rfl rfl rfl rfl ?_
   refine xo_fa T_ rfl rfl rfl rfl rfl ?_
   refine xo_load0 T_ rfl rfl rfl (by repeat first | exact mH | apply mT | apply mA) rfl rfl ?_
   refine xoM ?_
   refine xo_sub rfl rfl rfl (by omega) rfl ?_
   refine xo_build TB_ rfl rfl rfl rfl rfl ?_
   refine xo_store T_ rfl rfl rfl rfl (by repeat first | exact mH | apply mT | apply mA) rfl rfl rfl rfl (by repeat first | exact Upd.head | apply Upd.tail | apply Upd.app) rfl ?_
   with_reducible (apply xo_nil; (repeat first | apply xqT | apply xqB | apply xqS); (repeat apply xc_seq); apply xc_ret; (repeat (first | apply xq_thenR | apply xq_blockR | apply xq_scopeR)))
   exact xq_retC T_ rfl rfl rfl (by repeat first | exact mH | apply mT | apply mA) rfl fun w' hw => ⟨by rw [if_pos hk, if_pos hx]; rfl, hw.kx.below⟩
  ·refine xc_slots [(2, .slice (some ad) n cd), (3, .pointer (some ⟨b3, 0, none⟩)), (4, .pointer (some ⟨b4, 0, none⟩)), (6, .pointer (some ⟨b6, 0, none⟩)), (7, .pointer (some ⟨b7, 0, none⟩)), (8, .pointer (some ⟨b8, 0, none⟩)), (9, .int .i64 x), (10, .bool true), (23, .int .u8 2)] ⟨rfl, rfl, rfl, rfl, rfl, rfl, rfl, rfl, congrArg (fun q => some (Value.int .u8 q)) hk, trivial⟩ ?_
   with_reducible ((repeat apply xc_seq); apply xcR)
   refine xo_eql rfl rfl rfl rfl ?_
   refine xoA ?_
   with_reducible (apply xo_nil; (repeat first | apply xqT | apply xqB | apply xqS); (repeat apply xc_seq))
   refine xc_condF rfl ?_
   with_reducible ((repeat apply xc_seq); apply xcR)
   refine xo_eql rfl rfl rfl rfl ?_
   refine xoA ?_
   with_reducible (apply xo_nil; (repeat first | apply xqT | apply xqB | apply xqS); (repeat apply xc_seq))
   refine xc_condT rfl ?_
   with_reducible ((repeat apply xc_seq); apply xcR)
   refine xoM ?_
   refine xo_notOp rfl rfl rfl ?_
   with_reducible (apply xo_nil; (repeat first | apply xqT | apply xqB | apply xqS); (repeat apply xc_seq))
   refine xc_condF rfl ?_
   with_reducible (apply xc_skip; (repeat first | apply xqT | apply xqB | apply xqS); (repeat apply xc_seq); apply xcR)
   refine xo_fa T_ rfl rfl rfl rfl rfl ?_
   refine xo_fa T_ rfl rfl rfl rfl rfl ?_
   refine xo_load0 T_ rfl rfl rfl (by repeat first | exact mH | apply mT | apply mA) rfl rfl ?_
   refine xo_add rfl rfl rfl (by omega) rfl ?_
   refine xoM ?_
   refine xo_sub rfl rfl rfl (by omega) rfl ?_
   refine xo_fa T_ rfl rfl rfl rfl rfl ?_
   refine xo_load0 T_ rfl rfl rfl (by repeat first | exact mH | apply mT | apply mA) rfl rfl ?_
   refine xo_build TB_ rfl rfl rfl rfl rfl ?_
   refine xo_store T_ rfl rfl rfl rfl (by repeat first | exact mH | apply mT | apply mA) rfl rfl rfl rfl (by repeat first | exact Upd.head | apply Upd.tail | apply Upd.app) rfl ?_
   with_reducible (apply xo_nil; (repeat first | apply xqT | apply xqB | apply xqS); (repeat apply xc_seq); apply xc_ret; (repeat (first | apply xq_thenR | apply xq_blockR | apply xq_scopeR)))
   exact xq_retC T_ rfl rfl rfl (by repeat first | exact mH | apply mT | apply mA) rfl fun w' hw => ⟨by rw [if_neg (by omega), if_pos hk, if_pos hx]; rfl, hw.kx.below⟩
  ·refine xc_slots [(2, .slice (some ad) n cd), (3, .pointer (some ⟨b3, 0, none⟩)), (4, .pointer (some ⟨b4, 0, none⟩)), (6, .pointer (some ⟨b6, 0, none⟩)), (7, .pointer (some ⟨b7, 0, none⟩)), (8, .pointer (some ⟨b8, 0, none⟩)), (9, .int .i64 x), (10, .bool true), (23, .int .u8 3)] ⟨rfl, rfl, rfl, rfl, rfl, rfl, rfl, rfl, congrArg (fun q => some (Value.int .u8 q)) hk, trivial⟩ ?_
   with_reducible ((repeat apply xc_seq); apply xcR)
   refine xo_eql rfl rfl rfl rfl ?_
   refine xoA ?_
   with_reducible (apply xo_nil; (repeat first | apply xqT | apply xqB | apply xqS); (repeat apply xc_seq))
   refine xc_condF rfl ?_
   with_reducible ((repeat apply xc_seq); apply xcR)
   refine xo_eql rfl rfl rfl rfl ?_
   refine xoA ?_
   with_reducible (apply xo_nil; (repeat first | apply xqT | apply xqB | apply xqS); (repeat apply xc_seq))
   refine xc_condF rfl ?_
   with_reducible ((repeat apply xc_seq); apply xcR)
   refine xo_eql rfl rfl rfl rfl ?_
   refine xoA ?_
   with_reducible (apply xo_nil; (repeat first | apply xqT | apply xqB | apply xqS); (repeat apply xc_seq))
   refine xc_condT rfl ?_
   with_reducible ((repeat apply xc_seq); apply xcR)
   refine xoM ?_
   with_reducible (apply xo_nil; (repeat first | apply xqT | apply xqB | apply xqS); (repeat apply xc_seq))
   refine xc_condT rfl ?_
   with_reducible ((repeat apply xc_seq); apply xcR)
   refine xo_fa T_ rfl rfl rfl rfl rfl ?_
   refine xo_fa T_ rfl rfl rfl rfl rfl ?_
   refine xo_load0 T_ rfl rfl rfl (by repeat first | exact mH | apply mT | apply mA) rfl rfl ?_
   refine xoM ?_
   refine xo_sub rfl rfl rfl (by omega) rfl ?_
   refine xo_build TB_ rfl rfl rfl rfl rfl ?_
   refine xo_store T_ rfl rfl rfl rfl (by repeat first | exact mH | apply mT | apply mA) rfl rfl rfl rfl (by repeat first | exact Upd.head | apply Upd.tail | apply Upd.app) rfl ?_
   with_reducible (apply xo_nil; (repeat first | apply xqT | apply xqB | apply xqS); (repeat apply xc_seq); apply xc_ret; (repeat (first | apply xq_thenR | apply xq_blockR | apply xq_scopeR)))
   exact xq_retC T_ rfl rfl rfl (by repeat first | exact mH | apply mT | apply mA) rfl fun w' hw => ⟨by rw [if_neg (by omega), if_neg (by omega), if_pos hk, if_pos hx]; rfl, hw.kx.below⟩
  ·refine xc_slots [(2, .slice (some ad) n cd), (3, .pointer (some ⟨b3, 0, none⟩)), (4, .pointer (some ⟨b4, 0, none⟩)), (6, .pointer (some ⟨b6, 0, none⟩)), (7, .pointer (some ⟨b7, 0, none⟩)), (8, .pointer (some ⟨b8, 0, none⟩)), (9, .int .i64 x), (10, .bool true), (23, .int .u8 4)] ⟨rfl, rfl, rfl, rfl, rfl, rfl, rfl, rfl, congrArg (fun q => some (Value.int .u8 q)) hk, trivial⟩ ?_
   with_reducible ((repeat apply xc_seq); apply xcR)
   refine xo_eql rfl rfl rfl rfl ?_
   refine xoA ?_
   with_reducible (apply xo_nil; (repeat first | apply xqT | apply xqB | apply xqS); (repeat apply xc_seq))
   refine xc_condF rfl ?_
   with_reducible ((repeat apply xc_seq); apply xcR)
   refine xo_eql rfl rfl rfl rfl ?_
   refine xoA ?_
   with_reducible (apply xo_nil; (repeat first | apply xqT | apply xqB | apply xqS); (repeat apply xc_seq))
   refine xc_condF rfl ?_
   with_reducible ((repeat apply xc_seq); apply xcR)
   refine xo_eql rfl rfl rfl rfl ?_
   refine xoA ?_
   with_reducible (apply xo_nil; (repeat first | apply xqT | apply xqB | apply xqS); (repeat apply xc_seq))
   refine xc_condF rfl ?_
   with_reducible ((repeat apply xc_seq); apply xcR)
   refine xo_eql rfl rfl rfl rfl ?_
   refine xoA ?_
   with_reducible (apply xo_nil; (repeat first | apply xqT | apply xqB | apply xqS); (repeat apply xc_seq))
   refine xc_condT rfl ?_
   with_reducible ((repeat apply xc_seq); apply xcR)
   refine xoM ?_
   with_reducible (apply xo_nil; (repeat first | apply xqT | apply xqB | apply xqS); (repeat apply xc_seq))
   refine xc_condT rfl ?_
   with_reducible ((repeat apply xc_seq); apply xcR)
   refine xo_fa T_ rfl rfl rfl rfl rfl ?_
   refine xo_load0 T_ rfl rfl rfl (by repeat first | exact mH | apply mT | apply mA) rfl rfl ?_
   refine xo_fa T_ rfl rfl rfl rfl rfl ?_
   refine xo_load0 T_ rfl rfl rfl (by repeat first | exact mH | apply mT | apply mA) rfl rfl ?_
   refine xo_sub rfl rfl rfl (by omega) rfl ?_
   refine xoM ?_
   refine xo_sub rfl rfl rfl (by omega) rfl ?_
   refine xo_build TB_ rfl rfl rfl rfl rfl ?_
   refine xo_store T_ rfl rfl rfl rfl (by repeat first | exact mH | apply mT | apply mA) rfl rfl rfl rfl (by repeat first | exact Upd.head | apply Upd.tail | apply Upd.app) rfl ?_
   with_reducible (apply xo_nil; (repeat first | apply xqT | apply xqB | apply xqS); (repeat apply xc_seq); apply xc_ret; (repeat (first | apply xq_thenR | apply xq_blockR | apply xq_scopeR)))
   exact xq_retC T_ rfl rfl rfl (by repeat first | exact mH | apply mT | apply mA) rfl fun w' hw => ⟨by rw [if_neg (by omega), if_neg (by omega), if_neg (by omega), if_pos hk, if_pos hx]; rfl, hw.kx.below⟩
  ·refine xc_slots [(2, .slice (some ad) n cd), (3, .pointer (some ⟨b3, 0, none⟩)), (4, .pointer (some ⟨b4, 0, none⟩)), (6, .pointer (some ⟨b6, 0, none⟩)), (7, .pointer (some ⟨b7, 0, none⟩)), (8, .pointer (some ⟨b8, 0, none⟩)), (9, .int .i64 x), (10, .bool true), (23, .int .u8 5)] ⟨rfl, rfl, rfl, rfl, rfl, rfl, rfl, rfl, congrArg (fun q => some (Value.int .u8 q)) hk, trivial⟩ ?_
   with_reducible ((repeat apply xc_seq); apply xcR)
   refine xo_eql rfl rfl rfl rfl ?_
   refine xoA ?_
   with_reducible (apply xo_nil; (repeat first | apply xqT | apply xqB | apply xqS); (repeat apply xc_seq))
   refine xc_condF rfl ?_
   with_reducible ((repeat apply xc_seq); apply xcR)
   refine xo_eql rfl rfl rfl rfl ?_
   refine xoA ?_
   with_reducible (apply xo_nil; (repeat first | apply xqT | apply xqB | apply xqS); (repeat apply xc_seq))
   refine xc_condF rfl ?_
   with_reducible ((repeat apply xc_seq); apply xcR)
   refine xo_eql rfl rfl rfl rfl ?_
   refine xoA ?_
   with_reducible (apply xo_nil; (repeat first | apply xqT | apply xqB | apply xqS); (repeat apply xc_seq))
   refine xc_condF rfl ?_
   with_reducible ((repeat apply xc_seq); apply xcR)
   refine xo_eql rfl rfl rfl rfl ?_
   refine xoA ?_
   with_reducible (apply xo_nil; (repeat first | apply xqT | apply xqB | apply xqS); (repeat apply xc_seq))
   refine xc_condF rfl ?_
   with_reducible ((repeat apply xc_seq); apply xcR)
   refine xo_eql rfl rfl rfl rfl ?_
   refine xoA ?_
   with_reducible (apply xo_nil; (repeat first | apply xqT | apply xqB | apply xqS); (repeat apply xc_seq))
   refine xc_condT rfl ?_
   with_reducible ((repeat apply xc_seq); apply xcR)
   refine xoM ?_
   refine xo_notOp rfl rfl rfl ?_
   with_reducible (apply xo_nil; (repeat first | apply xqT | apply xqB | apply xqS); (repeat apply xc_seq))
   refine xc_condF rfl ?_
   with_reducible (apply xc_skip; (repeat first | apply xqT | apply xqB | apply xqS); (repeat apply xc_seq); apply xcR)
   refine xo_fa T_ rfl rfl rfl rfl rfl ?_
   refine xo_load0 T_ rfl rfl rfl (by repeat first | exact mH | apply mT | apply mA) rfl rfl ?_
   refine xo_fa T_ rfl rfl rfl rfl rfl ?_
   refine xo_load0 T_ rfl rfl rfl (by repeat first | exact mH | apply mT | apply mA) rfl rfl ?_
   refine xo_sub rfl rfl rfl (by omega) rfl ?_
   refine xo_add rfl rfl rfl (by omega) rfl ?_
   refine xoM ?_
   refine xo_sub rfl rfl rfl (by omega) rfl ?_
   refine xo_fa T_ rfl rfl rfl rfl rfl ?_
   refine xo_load0 T_ rfl rfl rfl (by repeat first | exact mH | apply mT | apply mA) rfl rfl ?_
   refine xo_build TB_ rfl rfl rfl rfl rfl ?_
   refine xo_store T_ rfl rfl rfl rfl (by repeat first | exact mH | apply mT | apply mA) rfl rfl rfl rfl (by repeat first | exact Upd.head | apply Upd.tail | apply Upd.app) rfl ?_
   with_reducible (apply xo_nil; (repeat first | apply xqT | apply xqB | apply xqS); (repeat apply xc_seq); apply xc_ret; (repeat (first | apply xq_thenR | apply xq_blockR | apply xq_scopeR)))
   exact xq_retC T_ rfl rfl rfl (by repeat first | exact mH | apply mT | apply mA) rfl fun w' hw => ⟨by rw [if_neg (by omega), if_neg (by omega), if_neg (by omega), if_neg (by omega), if_pos hk, if_pos hx]; rfl, hw.kx.below⟩
  ·refine xc_slots [(2, .slice (some ad) n cd), (3, .pointer (some ⟨b3, 0, none⟩)), (4, .pointer (some ⟨b4, 0, none⟩)), (6, .pointer (some ⟨b6, 0, none⟩)), (7, .pointer (some ⟨b7, 0, none⟩)), (8, .pointer (some ⟨b8, 0, none⟩)), (9, .int .i64 x), (10, .bool true), (23, .int .u8 6)] ⟨rfl, rfl, rfl, rfl, rfl, rfl, rfl, rfl, congrArg (fun q => some (Value.int .u8 q)) hk, trivial⟩ ?_
   with_reducible ((repeat apply xc_seq); apply xcR)
   refine xo_eql rfl rfl rfl rfl ?_
   refine xoA ?_
   with_reducible (apply xo_nil; (repeat first | apply xqT | apply xqB | apply xqS); (repeat apply xc_seq))
   refine xc_condF rfl ?_
   with_reducible ((repeat apply xc_seq); apply xcR)
   refine xo_eql rfl rfl rfl rfl ?_
   refine xoA ?_
   with_reducible (apply xo_nil; (repeat first | apply xqT | apply xqB | apply xqS); (repeat apply xc_seq))
   refine xc_condF rfl ?_
   with_reducible ((repeat apply xc_seq); apply xcR)
   refine xo_eql rfl rfl rfl rfl ?_
   refine xoA ?_
   with_reducible (apply xo_nil; (repeat first | apply xqT | apply xqB | apply xqS); (repeat apply xc_seq))
   refine xc_condF rfl ?_
   with_reducible ((repeat apply xc_seq); apply xcR)
   refine xo_eql rfl rfl rfl rfl ?_
   refine xoA ?_
   with_reducible (apply xo_nil; (repeat first | apply xqT | apply xqB | apply xqS); (repeat apply xc_seq))
   refine xc_condF rfl ?_
   with_reducible ((repeat apply xc_seq); apply xcR)
   refine xo_eql rfl rfl rfl rfl ?_
   refine xoA ?_
   with_reducible (apply xo_nil; (repeat first | apply xqT | apply xqB | apply xqS); (repeat apply xc_seq))
   refine xc_condF rfl ?_
   with_reducible ((repeat apply xc_seq); apply xcR)
   refine xo_eql rfl rfl rfl rfl ?_
   refine xoA ?_
   with_reducible (apply xo_nil; (repeat first | apply xqT | apply xqB | apply xqS); (repeat apply xc_seq))
   refine xc_condT rfl ?_
   cases hy : decide (x < y)
   ·with_reducible repeat apply xc_seq
    with_reducible apply xcR
    refine xoM ?_
    refine xoM ?_
    (first | refine xoN ?_ | refine xoM ?_)
    (first | refine xoN ?_ | refine xoM ?_)
    (first | refine xoN ?_ | refine xo_fa T_ rfl rfl rfl rfl rfl ?_)
    (first | refine xoN ?_ | refine xo_load0 T_ rfl rfl rfl (by repeat first | exact mH | apply mT | apply mA) rfl rfl ?_)
    (first | refine xoN ?_ | refine xo_ia T_ (i := m.f3) rfl rfl rfl rfl rfl ⟨by omega, by omega⟩ rfl ?_)
    (first | refine xoN ?_ | refine xo_loadR0 T_ rfl rfl rfl q2 rfl ?_)
    (first | refine xoN ?_ | refine xo_lss rfl rfl rfl rfl ?_)
    first | refine xo_pickT rfl rfl rfl rfl ?_ | refine xo_pickF rfl rfl rfl rfl ?_
    refine xo_as (i := 99) rfl (congrArg Value.bool hy) ?_
    with_reducible (apply xo_nil; (repeat first | apply xqT | apply xqB | apply xqS); (repeat apply xc_seq))
    refine xc_condF rfl ?_
    with_reducible (apply xc_skip; (repeat first | apply xqT | apply xqB | apply xqS); (repeat apply xc_seq); apply xcR)
    refine xo_loadN T_ rfl rfl rfl (by repeat first | exact mH | apply mT | apply mA) rfl rfl ?_
    refine xo_store T_ rfl rfl rfl rfl (by repeat first | exact mH | apply mT | apply mA) rfl rfl rfl rfl (by repeat first | exact Upd.head | apply Upd.tail | apply Upd.app) rfl ?_
    with_reducible (apply xo_nil; (repeat first | apply xqT | apply xqB | apply xqS); (repeat apply xc_seq); apply xc_ret; (repeat (first | apply xq_thenR | apply xq_blockR | apply xq_scopeR)))
    exact xq_retC T_ rfl rfl rfl (by repeat first | exact mH | apply mT | apply mA) rfl fun w' hw => ⟨by rw [if_neg (by omega), if_neg (by omega), if_neg (by omega), if_neg (by omega), if_neg (by omega), if_pos hk, if_neg (fun q => of_decide_eq_false hy q.2)]; rfl, hw.kx.below⟩
   ·with_reducible repeat apply xc_seq
    with_reducible apply xcR
    refine xoM ?_
    refine xoM ?_
    (first | refine xoN ?_ | refine xoM ?_)
    (first | refine xoN ?_ | refine xoM ?_)
    (first | refine xoN ?_ | refine xo_fa T_ rfl rfl rfl rfl rfl ?_)
    (first | refine xoN ?_ | refine xo_load0 T_ rfl rfl rfl (by repeat first | exact mH | apply mT | apply mA) rfl rfl ?_)
    (first | refine xoN ?_ | refine xo_ia T_ (i := m.f3) rfl rfl rfl rfl rfl ⟨by omega, by omega⟩ rfl ?_)
    (first | refine xoN ?_ | refine xo_loadR0 T_ rfl rfl rfl q2 rfl ?_)
    (first | refine xoN ?_ | refine xo_lss rfl rfl rfl rfl ?_)
    first | refine xo_pickT rfl rfl rfl rfl ?_ | refine xo_pickF rfl rfl rfl rfl ?_
    refine xo_as (i := 99) rfl (congrArg Value.bool hy) ?_
    with_reducible (apply xo_nil; (repeat first | apply xqT | apply xqB | apply xqS); (repeat apply xc_seq))
    refine xc_condT rfl ?_
    with_reducible ((repeat apply xc_seq); apply xcR)
    refine xo_loadN T_ rfl rfl rfl (by repeat first | exact mH | apply mT | apply mA) rfl rfl ?_
    refine xo_store T_ rfl rfl rfl rfl (by repeat first | exact mH | apply mT | apply mA) rfl rfl rfl rfl (by repeat first | exact Upd.head | apply Upd.tail | apply Upd.app) rfl ?_
    with_reducible (apply xo_nil; (repeat first | apply xqT | apply xqB | apply xqS); (repeat apply xc_seq); apply xc_ret; (repeat (first | apply xq_thenR | apply xq_blockR | apply xq_scopeR)))
    exact xq_retC T_ rfl rfl rfl (by repeat first | exact mH | apply mT | apply mA) rfl fun w' hw => ⟨by rw [if_neg (by omega), if_neg (by omega), if_neg (by omega), if_neg (by omega), if_neg (by omega), if_pos hk, if_pos ⟨hx, of_decide_eq_true hy⟩]; rfl, hw.kx.below⟩
theorem window_enters : ∀ args w, (callFunc 61 args).run Tryd.prog w = .ok (.enter 61 args) w := enters_of Tryd.func61 (by kernel_rfl) rfl
def winR (E : Int) (d : Nat → Int) (l : List MarT) : SpaT := l.foldl (fun s m => comF s (windowF E d m)) ⟨0, E⟩
theorem winR_in (E : Int) (d : Nat → Int) (l : List MarT) : 0 ≤ (winR E d l).f0 ∧ (winR E d l).f1 ≤ E := by
 have key : ∀ (l : List MarT) (s : SpaT), s.f0 ≤ (l.foldl (fun s m => comF s (windowF E d m)) s).f0 ∧ (l.foldl (fun s m => comF s (windowF E d m)) s).f1 ≤ s.f1 := by
  intro l
  induction l with
  | nil => intro s; exact ⟨Int.le_refl _, Int.le_refl _⟩
  | cons m l ih =>
   intro s
   have h1 := ih (comF s (windowF E d m))
   have h2 := comF_in s (windowF E d m)
   exact ⟨Int.le_trans h2.1 h1.1, Int.le_trans h1.2 h2.2⟩
 exact key l ⟨0, E⟩
set_option maxHeartbeats 8000000 in
theorem both_calls (n : Nat) (E : Int) (A B D : Option Addr) (ng c c2 cd : Nat) (d : Nat → Int) (ms : List MarT) (s : Nat) (w : World) (hn : 1 ≤ n ∧ n ≤ 6) (hE : 0 ≤ E ∧ E ≤ 600) (hm8 : ms.length ≤ 8) (hmk : ∀ m ∈ ms, MarkR n m) (hM : RowOf marV 7 zMar w B ms) (hs8 : s ≤ 256) (hd : InN d) (hD : IntsD w D n d) :
  Calls Tryd.prog 41 #[.agg (scnV n A ng c E B ms.length c2).toArray, .int .i64 (s : Int), .slice D n cd] w fun e w' => e = .returned (.agg (spaV (winR E d (setOf ms s))).toArray) ∧ Below w.heap.size w w' := by
 refine x_calls (X := XNone) Tryd.func41 rfl rfl rfl ?_
 with_reducible ((repeat apply xc_seq); apply xcR)
 refine xo_box rfl rfl rfl rfl (fun b3 => ?_)
 refine xo_alloc T_ rfl rfl rfl rfl (fun b6 => ?_)
 with_reducible (apply xo_nil; (repeat first | apply xqT | apply xqB | apply xqS); (repeat apply xc_seq); apply xcR)
 refine xo_fa T_ rfl rfl rfl rfl rfl ?_
 refine xo_load0 T_ rfl rfl rfl (by repeat first | exact mH | apply mT | apply mA) rfl rfl ?_
 refine xo_build TB_ rfl rfl rfl rfl rfl ?_
 refine xo_alloc T_ rfl rfl rfl rfl (fun b7 => ?_)
 refine xo_store T_ rfl rfl rfl rfl (by repeat first | exact mH | apply mT | apply mA) rfl rfl rfl rfl (by repeat first | exact Upd.head | apply Upd.tail | apply Upd.app) rfl ?_
 with_reducible (apply xo_nil; (repeat first | apply xqT | apply xqB | apply xqS); (repeat apply xc_seq); apply xcR)
 refine xoA ?_
 with_reducible (apply xo_nil; (repeat first | apply xqT | apply xqB | apply xqS); (repeat apply xc_seq); apply xc_block)
 refine xc_loop (γ := Nat) (fun k => k ≤ ms.length) (fun k => [(1, .int .i64 (s : Int)), (2, .slice D n cd), (3, .pointer (some ⟨b3, 0, none⟩)), (6, .pointer (some ⟨b6, 0, none⟩)), (7, .pointer (some ⟨b7, 0, none⟩)), (8, .int .i64 (k : Int))])
  (fun k => [(b7, true, cel (spaV (winR E d (chosenL s ms k))) 55), (b6, true, cel [.int .i64 0, .int .i64 0] 55), (b3, true, cel (scnV n A ng c E B ms.length c2) 25)]) (fun k => ms.length - k) 0 (Nat.zero_le _) ⟨rfl, rfl, rfl, rfl, rfl, rfl, trivial⟩ (List.Sublist.refl _) ?_
 intro k hk
 with_reducible ((repeat apply xc_seq); apply xcR)
 refine xoM ?_
 refine xo_fa T_ rfl rfl rfl rfl rfl ?_
 refine xo_load0 T_ rfl rfl rfl (by repeat first | exact mH | apply mT | apply mA) rfl rfl ?_
 refine xo_len T_ rfl rfl rfl rfl ?_
 refine xo_lss rfl rfl rfl rfl ?_
 with_reducible (apply xo_nil; (repeat first | apply xqT | apply xqB | apply xqS); (repeat apply xc_seq))
 refine xc_cond rfl (fun h => ?_) (fun h => ?_)
 ·have hlt : k < ms.length := by have := of_decide_eq_true h; omega
  obtain ⟨ad, rfl, q1⟩ := hM k hlt
  have hmk1 := hmk _ (getD_mem ms zMar k hlt)
  have hst : winR E d (chosenL s ms (k + 1)) = if bitN s k = true then comF (winR E d (chosenL s ms k)) (windowF E d (ms.getD k zMar)) else winR E d (chosenL s ms k) := by
   rw [chosenL]
   split
   ·unfold winR
    rw [List.foldl_append]
    rfl
   ·rfl
  generalize winR E d (chosenL s ms k) = cur at hst ⊢
  generalize ms.getD k zMar = m at q1 hmk1 hst
  with_reducible (apply xc_skip; (repeat first | apply xqT | apply xqB | apply xqS); (repeat apply xc_seq); apply xc_block)
  cases hb : bitN s k
  ·rw [hb, if_neg Bool.false_ne_true] at hst
   with_reducible ((repeat apply xc_seq); apply xcR)
   refine xoM ?_
   refine xoM ?_
   refine xo_shr rfl rfl rfl (by omega) rfl ?_
   refine xo_and1 rfl rfl rfl (Nat.lt_of_le_of_lt (Nat.div_le_self _ _) (by omega)) rfl ?_
   refine xo_eql rfl rfl rfl rfl ?_
   refine xo_as (i := 24) rfl (congrArg Value.bool hb) ?_
   with_reducible (apply xo_nil; (repeat first | apply xqT | apply xqB | apply xqS); (repeat apply xc_seq))
   refine xc_condF rfl ?_
   with_reducible (apply xc_skip; (repeat first | apply xqT | apply xqB | apply xqS); (repeat apply xc_seq); apply xcR)
   refine xoM ?_
   refine xo_add rfl rfl rfl (by omega) rfl ?_
   refine xoA ?_
   with_reducible (apply xo_nil; (repeat first | apply xqT | apply xqB | apply xqS))
   exact xq_again _ _ _ _ _ (k + 1) (by omega) (by omega) ⟨rfl, rfl, rfl, rfl, rfl, rfl, trivial⟩ (by rw [hst]; exact List.Sublist.refl _)
  rw [hb, if_pos rfl] at hst
  with_reducible ((repeat apply xc_seq); apply xcR)
  refine xoM ?_
  refine xoM ?_
  refine xo_shr rfl rfl rfl (by omega) rfl ?_
  refine xo_and1 rfl rfl rfl (Nat.lt_of_le_of_lt (Nat.div_le_self _ _) (by omega)) rfl ?_
  refine xo_eql rfl rfl rfl rfl ?_
  refine xo_as (i := 24) rfl (congrArg Value.bool hb) ?_
  with_reducible (apply xo_nil; (repeat first | apply xqT | apply xqB | apply xqS); (repeat apply xc_seq))
  refine xc_condT rfl ?_
  refine xc_slots [(1, .int .i64 (s : Int)), (2, .slice D n cd), (3, .pointer (some ⟨b3, 0, none⟩)), (6, .pointer (some ⟨b6, 0, none⟩)), (7, .pointer (some ⟨b7, 0, none⟩)), (8, .int .i64 (k : Int))] ⟨rfl, rfl, rfl, rfl, rfl, rfl, trivial⟩ ?_
  with_reducible (repeat apply xc_seq)
  apply xc_drawE (fun g => [(8, .pointer (some ⟨(g.getD 0 gv0).b, 0, none⟩))]) (fun (η0 : Hp) g => match g with | [] => (η0) | a0 :: [] => ((a0.b, true, cel [.int .i64 0, .int .i64 0] 55) :: η0) | a0 :: a1 :: _ => ((a0.b, true, cel (spaV (windowF E d m)) 55) :: [(b7, true, cel (spaV cur) 55), (b6, true, cel [.int .i64 0, .int .i64 0] 55), (b3, true, cel (scnV n A ng c E (some ad) ms.length c2) 25)])) (fun _ => True) [0, 0, 0, 0, 0, 0, 0, 0, 1, 2] [8, 9] [[], [8, 7, 7, 0, 1, 2, 3, 4, 5, 6, 7, 8]] (by trivial)
  apply SameLen.cons
  apply SameLen.cons
  apply SameLen.cons
  apply SameLen.cons
  apply SameLen.cons
  apply SameLen.cons
  apply SameLen.cons
  apply SameLen.cons
  apply SameLen.cons (c := undef)
  apply SameLen.cons
  exact SameLen.nil
  rotate_left 9
  case hH0 => rfl
  case hmix => exact T_.mixed
  case hbind => rfl
  case hdeps => rfl
  case hdist => rfl
  case hfresh => rfl
  case hE => rfl
  case hEn => decide
  ·refine DrawE.pure 0 1 rfl (.inr (by decide)) (fun L g hg hd => Nat.zero_le _) (fun g hlo hhi hF τ => ?_) ?_
   ·rcases g with _ | ⟨a0, _ | ⟨a1, _ | ⟨a2, g⟩⟩⟩ <;> first | (simp only [lenC, lenN] at hlo hhi; omega) | (refine ⟨_, rfl, ?_⟩; refine xo_loadN T_ rfl rfl rfl (by repeat first | exact mH | apply mT | apply mA) rfl rfl ?_; exact xo_fin rfl)
   refine DrawE.pure 0 1 rfl (.inr (by decide)) (fun L g hg hd => Nat.zero_le _) (fun g hlo hhi hF τ => ?_) ?_
   ·rcases g with _ | ⟨a0, _ | ⟨a1, _ | ⟨a2, g⟩⟩⟩ <;> first | (simp only [lenC, lenN] at hlo hhi; omega) | (refine ⟨_, rfl, ?_⟩; refine xo_fa T_ rfl rfl rfl rfl rfl ?_; exact xo_fin rfl)
   refine DrawE.pure 0 1 rfl (.inr (by decide)) (fun L g hg hd => Nat.zero_le _) (fun g hlo hhi hF τ => ?_) ?_
   ·rcases g with _ | ⟨a0, _ | ⟨a1, _ | ⟨a2, g⟩⟩⟩ <;> first | (simp only [lenC, lenN] at hlo hhi; omega) | (refine ⟨_, rfl, ?_⟩; refine xo_load0 T_ rfl rfl rfl (by repeat first | exact mH | apply mT | apply mA) rfl rfl ?_; exact xo_fin rfl)
   refine DrawE.pure 0 1 rfl (.inr (by decide)) (fun L g hg hd => Nat.zero_le _) (fun g hlo hhi hF τ => ?_) ?_
   ·rcases g with _ | ⟨a0, _ | ⟨a1, _ | ⟨a2, g⟩⟩⟩ <;> first | (simp only [lenC, lenN] at hlo hhi; omega) | (refine ⟨_, rfl, ?_⟩; refine xoM ?_; exact xo_fin rfl)
   refine DrawE.pure 0 1 rfl (.inr (by decide)) (fun L g hg hd => Nat.zero_le _) (fun g hlo hhi hF τ => ?_) ?_
   ·rcases g with _ | ⟨a0, _ | ⟨a1, _ | ⟨a2, g⟩⟩⟩ <;> first | (simp only [lenC, lenN] at hlo hhi; omega) | (refine ⟨_, rfl, ?_⟩; refine xo_ia T_ rfl rfl rfl rfl rfl ⟨by omega, by omega⟩ rfl ?_; exact xo_fin rfl)
   refine DrawE.pure 0 1 rfl (.inr (by decide)) (fun L g hg hd => Nat.zero_le _) (fun g hlo hhi hF τ => ?_) ?_
   ·rcases g with _ | ⟨a0, _ | ⟨a1, _ | ⟨a2, g⟩⟩⟩ <;> first | (simp only [lenC, lenN] at hlo hhi; omega) | (refine ⟨_, rfl, ?_⟩; refine xo_loadRN T_ rfl rfl rfl q1 rfl rfl ?_; exact xo_fin rfl)
   refine DrawE.pure 0 1 rfl (.inr (by decide)) (fun L g hg hd => Nat.zero_le _) (fun g hlo hhi hF τ => ?_) ?_
   ·rcases g with _ | ⟨a0, _ | ⟨a1, _ | ⟨a2, g⟩⟩⟩ <;> first | (simp only [lenC, lenN] at hlo hhi; omega) | (refine ⟨_, rfl, ?_⟩; refine xoM ?_; exact xo_fin rfl)
   refine DrawE.pure 0 1 rfl (.inr (by decide)) (fun L g hg hd => Nat.zero_le _) (fun g hlo hhi hF τ => ?_) ?_
   ·rcases g with _ | ⟨a0, _ | ⟨a1, _ | ⟨a2, g⟩⟩⟩ <;> first | (simp only [lenC, lenN] at hlo hhi; omega) | (refine ⟨_, rfl, ?_⟩; refine xo_callB (fs := []) (cs := []) rfl rfl rfl window_enters rfl (fun w1 hw1 => window_calls n E A (some ad) D ng c ms.length c2 cd d m w1 hn hE hmk1 hd (hD.below hw1.kx.below)) ?_; exact xo_fin rfl)
   refine DrawE.eff 0 rfl (by decide) rfl (fun j hj => hj) (fun j g a hj => ?_) (fun L g hg hd => Nat.zero_le _) (fun g hgl hF τ => ?_) ?_
   ·rcases j with _ | _ | _ | _ | _ | _ | _ | _ | _ | _ | j
    all_goals first | rfl | (rcases g with _ | ⟨a0, _ | ⟨a1, _ | ⟨a2, g⟩⟩⟩ <;> first | rfl | exact absurd hj (by decide) | exact absurd hj (by simp [List.getD]))
   ·obtain rfl : g = [] := by
     rcases g with _ | ⟨a0, g⟩ <;> first | rfl | (exfalso; simp only [List.length_cons, List.length_nil] at hgl; omega)
    refine xo_alloc T_ rfl rfl rfl rfl (fun b9 => ?_)
    exact xo_finE ⟨b9, 0, none⟩ rfl trivial
   refine DrawE.eff 1 rfl (by decide) rfl (fun j hj => hj) (fun j g a hj => ?_) (fun L g hg hd => hg.2.1 8 (hd 8 (by decide))) (fun g hgl hF τ => ?_) ?_
   ·rcases j with _ | _ | _ | _ | _ | _ | _ | _ | _ | _ | j
    all_goals first | rfl | (rcases g with _ | ⟨a0, _ | ⟨a1, _ | ⟨a2, g⟩⟩⟩ <;> first | rfl | exact absurd hj (by decide) | exact absurd hj (by simp [List.getD]))
   ·obtain ⟨a0, rfl⟩ : ∃ a0, g = [a0] := by
     rcases g with _ | ⟨a0, _ | ⟨a1, _ | ⟨a2, g⟩⟩⟩ <;> first | exact ⟨_, rfl⟩ | rfl | (exfalso; simp only [List.length_cons, List.length_nil] at hgl; omega)
    refine xo_store T_ rfl rfl rfl rfl (by repeat first | exact mH | apply mT | apply mA) rfl rfl rfl rfl (by repeat first | exact Upd.head | apply Upd.tail | apply Upd.app) rfl ?_
    exact xo_finE ⟨0, 0, none⟩ rfl trivial
   exact DrawE.nil
  intro g hgl hF
  obtain ⟨a0, a1, rfl⟩ : ∃ a0 a1, g = [a0, a1] := by
   rcases g with _ | ⟨a0, _ | ⟨a1, _ | ⟨a2, g⟩⟩⟩ <;> first | exact ⟨_, _, rfl⟩ | (exfalso; simp only [List.length_cons, List.length_nil] at hgl; omega)
  with_reducible (repeat first | apply xqT | apply xqB | apply xqS)
  refine xc_slots [(1, .int .i64 (s : Int)), (2, .slice D n cd), (3, .pointer (some ⟨b3, 0, none⟩)), (6, .pointer (some ⟨b6, 0, none⟩)), (7, .pointer (some ⟨b7, 0, none⟩)), (8, .int .i64 (k : Int)), (9, .pointer (some ⟨a0.b, 0, none⟩))] ⟨rfl, rfl, rfl, rfl, rfl, rfl, rfl, trivial⟩ ?_
  with_reducible ((repeat apply xc_seq); apply xcR)
  refine xo_fa T_ rfl rfl rfl rfl rfl ?_
  refine xo_load0 T_ rfl rfl rfl (by repeat first | exact mH | apply mT | apply mA) rfl rfl ?_
  refine xo_fa T_ rfl rfl rfl rfl rfl ?_
  refine xo_load0 T_ rfl rfl rfl (by repeat first | exact mH | apply mT | apply mA) rfl rfl ?_
  refine xo_max rfl rfl rfl rfl ?_
  refine xo_fa T_ rfl rfl rfl rfl rfl ?_
  refine xo_load0 T_ rfl rfl rfl (by repeat first | exact mH | apply mT | apply mA) rfl rfl ?_
  refine xo_fa T_ rfl rfl rfl rfl rfl ?_
  refine xo_load0 T_ rfl rfl rfl (by repeat first | exact mH | apply mT | apply mA) rfl rfl ?_
  refine xo_min rfl rfl rfl rfl ?_
  refine xo_build TB_ rfl rfl rfl rfl rfl ?_
  refine xo_store T_ rfl rfl rfl rfl (by repeat first | exact mH | apply mT | apply mA) rfl rfl rfl rfl (by repeat first | exact Upd.head | apply Upd.tail | apply Upd.app) rfl ?_
  with_reducible (apply xo_nil; (repeat first | apply xqT | apply xqB | apply xqS); (repeat apply xc_seq); apply xcR)
  refine xoM ?_
  refine xo_add rfl rfl rfl (by omega) rfl ?_
  refine xoA ?_
  with_reducible (apply xo_nil; (repeat first | apply xqT | apply xqB | apply xqS))
  exact xq_again _ _ _ _ _ (k + 1) (by omega) (by omega) ⟨rfl, rfl, rfl, rfl, rfl, rfl, trivial⟩ (by rw [hst]; exact (by repeat (first | exact List.Sublist.refl _ | apply List.Sublist.cons_cons | apply List.Sublist.cons | exact List.nil_sublist _)))
 have hge : k = ms.length := by have := of_decide_eq_false h; omega
 subst hge
 with_reducible (apply xc_exit; (repeat (first | apply xq_blockX | apply xq_thenE | refine xq_blockE rfl ?_ | apply xq_scopeE)); (repeat first | apply xqT | apply xqB | apply xqS); (repeat apply xc_seq); apply xcR)
 refine xo_loadN T_ rfl rfl rfl (by repeat first | exact mH | apply mT | apply mA) rfl rfl ?_
 refine xo_store T_ rfl rfl rfl rfl (by repeat first | exact mH | apply mT | apply mA) rfl rfl rfl rfl (by repeat first | exact Upd.head | apply Upd.tail | apply Upd.app) rfl ?_
 with_reducible (apply xo_nil; (repeat first | apply xqT | apply xqB | apply xqS); (repeat apply xc_seq); apply xc_ret; (repeat (first | apply xq_thenR | apply xq_blockR | apply xq_scopeR)))
 exact xq_retC T_ rfl rfl rfl (by repeat first | exact mH | apply mT | apply mA) rfl fun w' hw => ⟨rfl, hw.kx.below⟩
theorem both_enters : ∀ args w, (callFunc 41 args).run Tryd.prog w = .ok (.enter 41 args) w := enters_of Tryd.func41 (by kernel_rfl) rfl
inductive FG where
 | f0
 | fr (r : Nat)
 | fc (c : Nat)
 | fb (r c : Nat)
 | fs (r c : Nat)
def FG.r : FG → Nat
 | .fr r => r
 | .fb r _ => r
 | .fs r _ => r
 | _ => 0
def FG.c : FG → Nat
 | .fc c => c
 | .fb _ c => c
 | .fs _ c => c
 | _ => 0
def okF (f a s : Nat) : List Nat → FG → Prop
 | L, .f0 => f ∉ L ∧ a ∉ L ∧ s ∉ L
 | L, .fr _ => f ∈ L ∧ a ∉ L ∧ s ∉ L
 | L, .fc _ => f ∉ L ∧ a ∈ L ∧ s ∉ L
 | L, .fb _ _ => f ∈ L ∧ a ∈ L ∧ s ∉ L
 | L, .fs _ _ => f ∈ L ∧ a ∈ L ∧ s ∈ L
def hF (win row : List Value) (η1 : Hp) : FG → Hp
 | .f0 => η1
 | .fr r => (r, true, cel row 3) :: η1
 | .fc c => (c, true, cel [.int .i64 0, .int .i64 0] 55) :: η1
 | .fb r c => (c, true, cel [.int .i64 0, .int .i64 0] 55) :: (r, true, cel row 3) :: η1
 | .fs r c => (c, true, cel win 55) :: (r, true, cel row 3) :: η1
def BlIn (ζ : Hp) (w : World) : Prop := ∀ e ∈ ζ, ∃ o, w.heap[e.1]? = some o ∧ e.2.2 o
theorem WOK.bl_of {w0 : World} {X : Nat → Prop} {ζ η : Hp} {w : World} (h : WOK w0 X η w) (hs : ∀ e ∈ ζ, e ∈ η) : BlIn ζ w := fun e he => h.bl e (hs e he)
theorem intsD_cel {w : World} {r n : Nat} {d : Nat → Int} (h : BlIn [(r, true, cel (rowD n d) 3)] w) : IntsD w (some ⟨r, 0, none⟩) n d := by
 obtain ⟨o, h1, h2⟩ := h _ List.mem_cons_self
 rw [show o = _ from h2] at h1
 intro k hk
 rw [List.length_map, List.length_range] at hk
 refine ⟨_, rfl, ro1 ?_⟩
 rw [Addr.add_lit, cell_of_row w r _ _ _ _ h1]
 have := rowD_at d hk
 rw [show ((List.range n).map d).getD k 0 = d k by simp [List.getD_eq_getElem?_getD, hk]]
 simpa using this
theorem intsAt_orow {w : World} {b n cap : Nat} {xs : List Int} {o : Obj} (h : w.heap[b]? = some o) (hr : orow 3 1 n cap (xs.map (.int .i64)) o) (hn : xs.length = n) : IntsAt w (some ⟨b, 0, none⟩) xs := by
 obtain ⟨cur, rfl, h5, h6, h7, h8⟩ := hr
 intro k hk
 refine ⟨_, rfl, ro1 ?_⟩
 rw [Addr.add_lit, show 0 + (k : Int).toNat * szN 0 = k by rw [show szN 0 = 1 from rfl, Int.toNat_natCast]; omega, cell_of_row w b k _ _ _ h, ← Array.getElem?_toList]
 have hx : (xs.map (Value.int .i64))[k]? = some (.int .i64 (xs.getD k 0)) := by
  rw [List.getElem?_map, List.getElem?_eq_getElem hk]
  simp [List.getD_eq_getElem?_getD, List.getElem?_eq_getElem hk]
 rw [← h8, List.getElem?_take] at hx
 split at hx
 ·exact hx
 ·cases hx
theorem intsAt_hp {w : World} {r : RowR} {n : Nat} {xs : List Int} {η1 : Hp} (h : BlIn (hpR 3 1 r n (xs.map (.int .i64)) ++ η1) w) (hn : xs.length = n) (h0 : r = none → n = 0) : IntsAt w (valA r) xs := by
 cases r with
 | none => intro k hk; have := h0 rfl; omega
 | some p =>
  obtain ⟨o, h1, h2⟩ := h (p.1, true, orow 3 1 n p.2 (xs.map (.int .i64))) (List.Mem.head _)
  exact intsAt_orow h1 h2 hn
theorem far_callsG (n : Nat) (E : Int) (A B Dl : Option Addr) (c m c2 cd : Nat) (gs : List GatT) (l : List Int) (room : Nat) (w : World) (hn : 1 ≤ n ∧ n ≤ 6) (hG : GatesR n gs) (hl : okD gs l) (hA : RowOf gatV 4 zGat w A gs) (hD : IntsAt w Dl l) (hr : room < n) :
  Calls Tryd.prog 42 #[.agg (scnV n A gs.length c E B m c2).toArray, .slice Dl gs.length cd, .int .i64 (room : Int)] w fun e w' => ∃ b, e = .returned (.slice (some ⟨b, 0, none⟩) n n) ∧ WOK w XNone [(b, true, cel (rowD n (roundsB (edgesL gs l) (startB 1000000 room) n)) 3)] w' := by
 have := far_calls n E A B Dl c m c2 cd gs l room w hn hG hl hA hD hr
 rw [okD_len hl] at this
 exact this
abbrev dR (n : Nat) (gs : List GatT) (room : Nat) (l : List Int) : Nat → Int := roundsB (edgesL gs l) (startB 1000000 room) n
def holdsR (n : Nat) (E : Int) (gs : List GatT) (room : Nat) (ls : List MarT) (l : List Int) : Bool := decide ((winR E (dR n gs room l) ls).f0 ≤ (winR E (dR n gs room l) ls).f1)
def someR (n : Nat) (E : Int) (gs : List GatT) (room : Nat) (ls : List MarT) : Bool := (allD gs).any (holdsR n E gs room ls)
theorem next_nil {gs : List GatT} (h : gs = []) (R E : Int) (A B : Option Addr) (c m c2 : Nat) (w : World) :
  Calls Tryd.prog 40 #[.agg (scnV R A gs.length c E B m c2).toArray, .slice none 0 0] w fun e w' => e = .returned (.bool false) ∧ Below w.heap.size w w' := by
 subst h
 refine x_calls (X := XNone) Tryd.func40 rfl rfl rfl ?_
 with_reducible ((repeat apply xc_seq); apply xcR)
 refine xo_box rfl rfl rfl rfl (fun b2 => ?_)
 refine xoA ?_
 with_reducible (apply xo_nil; (repeat first | apply xqT | apply xqB | apply xqS); (repeat apply xc_seq); apply xcR)
 refine xoM ?_
 refine xo_len T_ rfl rfl rfl rfl ?_
 refine xo_sub rfl rfl rfl (by omega) rfl ?_
 refine xoA ?_
 with_reducible (apply xo_nil; (repeat first | apply xqT | apply xqB | apply xqS); (repeat apply xc_seq); apply xc_block)
 refine xc_loop (γ := Unit) (fun _ => True) (fun _ => [(5, .int .i64 (-1))]) (fun _ => []) (fun _ => 0) () trivial ⟨rfl, trivial⟩ (List.nil_sublist _) ?_
 rintro _ -
 with_reducible ((repeat apply xc_seq); apply xcR)
 refine xoM ?_
 refine xo_geq rfl rfl rfl rfl ?_
 with_reducible (apply xo_nil; (repeat first | apply xqT | apply xqB | apply xqS); (repeat apply xc_seq))
 refine xc_condF rfl ?_
 with_reducible (apply xc_exit; (repeat (first | apply xq_blockX | apply xq_thenE | refine xq_blockE rfl ?_ | apply xq_scopeE)); (repeat first | apply xqT | apply xqB | apply xqS); (repeat apply xc_seq); apply xcR)
 refine xoA ?_
 with_reducible (apply xo_nil; (repeat first | apply xqT | apply xqB | apply xqS); (repeat apply xc_seq); apply xc_ret; (repeat (first | apply xq_thenR | apply xq_blockR | apply xq_scopeR)))
 exact xq_ret1 rfl rfl fun w' hw => ⟨rfl, hw.kx.below⟩
def restD (gs : List GatT) : Option (List Int) → List (List Int)
 | some now => tailD gs now
 | none => []
def rowN (gs : List GatT) (q : Option (List Int)) : List Int := q.getD (leastD gs)
theorem okD_60 {n : Nat} {gs : List GatT} (hG : GatesR n gs) {now : List Int} (h : okD gs now) : ∀ x ∈ now, 0 ≤ x ∧ x ≤ 1000 := by
 intro x hx
 obtain ⟨i, hi, rfl⟩ := List.getElem_of_mem hx
 have hl := okD_len h
 have h1 := okD_at h i (by omega)
 have h2 := hG.ok _ (getD_mem gs zGat i (by omega))
 rw [show now.getD i 0 = now[i] by simp [List.getD_eq_getElem?_getD, List.getElem?_eq_getElem hi]] at h1
 omega
theorem next_row (n : Nat) (E : Int) (A B : Option Addr) (c m c2 : Nat) (gs : List GatT) (rd : RowR) (now : List Int) {w0 : World} {η1 : Hp} {w : World} (hG : GatesR n gs) (hA : RowOf gatV 4 zGat w A gs) (hAlt : 0 < gs.length → ∀ ad, A = some ad → ad.block < w0.heap.size) (hok : okD gs now) (hrd : rd = none → gs.length = 0)
  (hw : WOK w0 XNone (hpR 3 1 rd gs.length (now.map (.int .i64)) ++ η1) w) :
  Calls Tryd.prog 40 #[.agg (scnV n A gs.length c E B m c2).toArray, .slice (valA rd) gs.length (valC rd)] w fun e w' => e = .returned (.bool (nextD gs now).isSome) ∧ WOK w0 XNone (hpR 3 1 rd gs.length ((rowN gs (nextD gs now)).map (.int .i64)) ++ η1) w' := by
 cases rd with
 | none =>
  have h0 : gs = [] := List.eq_nil_of_length_eq_zero (hrd rfl)
  subst h0
  refine (next_nil rfl n E A B c m c2 w).mono ?_
  rintro e w' ⟨rfl, hb⟩
  cases now with
  | nil => exact ⟨rfl, hw.below hb⟩
  | cons x xs => exact hok.elim
 | some p =>
  obtain ⟨o, h1, h2⟩ := hw.bl (p.1, true, orow 3 1 gs.length p.2 (now.map (.int .i64))) (List.Mem.head _)
  have hown : w0.heap.size ≤ p.1 := hw.own (List.Mem.head _)
  refine (next_calls n E A B c m c2 gs p.1 p.2 now w o hA hG.len (fun h0 ad e q => by have := hAlt h0 ad e; omega) h1 h2 (okD_len hok) (okD_60 hG hok)).mono ?_
  rintro e w' ⟨rfl, hk, o', h3, h4⟩
  exact ⟨rfl, hw.updK (φ' := orow 3 1 gs.length p.2 ((rowN gs (nextD gs now)).map (.int .i64))) Upd.head hk h3 h4⟩
theorem tail_next {gs : List GatT} (hg : ∀ g ∈ gs, g.f2.f0 ≤ g.f2.f1) {now : List Int} (h : okD gs now) : tailD gs now = now :: restD gs (nextD gs now) := by
 rw [tailD_step hg h]
 cases nextD gs now <;> rfl
theorem next_okD {gs : List GatT} (hg : ∀ g ∈ gs, g.f2.f0 ≤ g.f2.f1) {now : List Int} (h : okD gs now) : ∀ l, nextD gs now = some l → okD gs l := fun l e => next_ok hg h e
structure SceneR (w : World) (n : Nat) (E : Int) (A B : Option Addr) (gs : List GatT) (ms : List MarT) : Prop where
 n6 : 1 ≤ n ∧ n ≤ 6
 E6 : 0 ≤ E ∧ E ≤ 600
 G : GatesR n gs
 m8 : ms.length ≤ 8
 mks : ∀ m ∈ ms, MarkR n m
 gates : RowOf gatV 4 zGat w A gs
 marks : RowOf marV 7 zMar w B ms
theorem SceneR.below {w w' : World} {n : Nat} {E : Int} {A B : Option Addr} {gs : List GatT} {ms : List MarT} (h : SceneR w n E A B gs ms) (hb : Below w.heap.size w w') : SceneR w' n E A B gs ms := ⟨h.n6, h.E6, h.G, h.m8, h.mks, h.gates.below hb, h.marks.below hb⟩
theorem gatV_0 (x : GatT) : ∃ v, (gatV x)[0]? = some v := ⟨_, rfl⟩
set_option maxHeartbeats 40000000 in
theorem some_calls (n : Nat) (E : Int) (A B : Option Addr) (c c2 : Nat) (gs : List GatT) (ms : List MarT) (s room : Nat) (w : World) (hs : SceneR w n E A B gs ms) (hs8 : s ≤ 256) (hr : room < n) :
  Calls Tryd.prog 58 #[.agg (scnV n A gs.length c E B ms.length c2).toArray, .int .i64 (s : Int), .int .i64 (room : Int)] w fun e w' => e = .returned (.bool (someR n E gs room (setOf ms s))) ∧ Below w.heap.size w w' := by
 obtain ⟨hn, hE, hG, hm8, hmk, hA, hM⟩ := hs
 have hle : ∀ g ∈ gs, g.f2.f0 ≤ g.f2.f1 := fun g hg => (hG.ok g hg).2.2.2.2.1
 have hAlt := hA.lt gatV_0
 refine x_calls (X := XNone) Tryd.func58 rfl rfl rfl ?_
 with_reducible ((repeat apply xc_seq); apply xcR)
 refine xo_box rfl rfl rfl rfl (fun b3 => ?_)
 refine xoA ?_
 with_reducible (apply xo_nil; (repeat first | apply xqT | apply xqB | apply xqS); (repeat apply xc_seq); apply xcR)
 refine xo_loadN T_ rfl rfl rfl (by repeat first | exact mH | apply mT | apply mA) rfl rfl ?_
 refine xo_call (fs := []) (cs := []) rfl rfl rfl least_enters rfl (fun w1 hw1 => (least_calls n E A B c ms.length c2 gs w1 (hA.below hw1.kx.below) hG.len).mono ?_)
 rintro e w2 ⟨rd, rfl, hrw, hb⟩
 have h11 := hrw.1
 refine ⟨_, _, rfl, hw1.row hb hrw, ?_⟩
 clear hrw hb hw1
 refine xoA ?_
 with_reducible (apply xo_nil; (repeat first | apply xqT | apply xqB | apply xqS))
 have hll : (leastD gs).length = gs.length := by simp [leastD]
 have hrd : rd = none → gs.length = 0 := fun q => by rw [← hll, h11 q]; rfl
 rw [hll]
 with_reducible ((repeat apply xc_seq); apply xcR)
 refine xoA ?_
 with_reducible (apply xo_nil; (repeat first | apply xqT | apply xqB | apply xqS))
 refine xc_slots [(1, .int .i64 (s : Int)), (2, .int .i64 (room : Int)), (3, .pointer (some ⟨b3, 0, none⟩)), (7, .slice (valA rd) gs.length (valC rd)), (8, .bool true)] ⟨rfl, rfl, rfl, congrArg some (valR_eq hrd), rfl, trivial⟩ ?_
 with_reducible ((repeat apply xc_seq); apply xc_block)
 refine xc_loop (γ := Option (List Int)) (fun q => (∀ l, q = some l → okD gs l) ∧ someR n E gs room (setOf ms s) = (restD gs q).any (holdsR n E gs room (setOf ms s))) (fun q => [(1, .int .i64 (s : Int)), (2, .int .i64 (room : Int)), (3, .pointer (some ⟨b3, 0, none⟩)), (7, .slice (valA rd) gs.length (valC rd)), (8, .bool q.isSome)])
  (fun q => hpR 3 1 rd gs.length ((rowN gs q).map (.int .i64)) ++ [(b3, true, cel (scnV n A gs.length c E B ms.length c2) 25)]) (fun q => (restD gs q).length) (some (leastD gs)) ⟨fun l e => by cases e; exact least_ok hle, by rw [restD, tailD_least hle]; rfl⟩ ⟨rfl, rfl, rfl, rfl, rfl, trivial⟩ (List.Sublist.refl _) ?_
 rintro (_ | now) ⟨hq, hall⟩
 ·with_reducible repeat apply xc_seq
  with_reducible apply xcR
  refine xoM ?_
  with_reducible (apply xo_nil; (repeat first | apply xqT | apply xqB | apply xqS); (repeat apply xc_seq))
  refine xc_condF rfl ?_
  with_reducible (apply xc_exit; (repeat (first | apply xq_blockX | apply xq_thenE | refine xq_blockE rfl ?_ | apply xq_scopeE)); (repeat first | apply xqT | apply xqB | apply xqS); (repeat apply xc_seq); apply xcR)
  refine xoA ?_
  with_reducible (apply xo_nil; (repeat first | apply xqT | apply xqB | apply xqS); (repeat apply xc_seq); apply xc_ret; (repeat (first | apply xq_thenR | apply xq_blockR | apply xq_scopeR)))
  exact xq_ret1 rfl rfl fun w' hw => ⟨by rw [hall]; rfl, hw.kx.below⟩
 have hok := hq now rfl
 have hnl := okD_len hok
 have hdd : InN (dR n gs room now) := (InN.start room).rounds (okD_pos hok fun g hg => (hG.ok g hg).2.2.2.1) n
 have hstep : someR n E gs room (setOf ms s) = (holdsR n E gs room (setOf ms s) now || (restD gs (nextD gs now)).any (holdsR n E gs room (setOf ms s))) := by
  rw [hall, restD, tail_next hle hok, List.any_cons]
 have hlen : (restD gs (nextD gs now)).length < (restD gs (some now)).length := by
  rw [show restD gs (some now) = tailD gs now from rfl, tail_next hle hok, List.length_cons]
  omega
 have hnok := next_okD hle hok
 clear hq hall
 unfold holdsR at hstep
 with_reducible ((repeat apply xc_seq); apply xcR)
 refine xoM ?_
 with_reducible (apply xo_nil; (repeat first | apply xqT | apply xqB | apply xqS); (repeat apply xc_seq))
 refine xc_condT rfl ?_
 with_reducible (apply xc_skip; (repeat first | apply xqT | apply xqB | apply xqS); (repeat apply xc_seq); apply xc_block)
 show XC _ _ _ _ _ _ _ _ _ (hpR 3 1 rd gs.length (now.map (.int .i64)) ++ [(b3, true, cel (scnV n A gs.length c E B ms.length c2) 25)]) _
 have hints : ∀ w1, BlIn (hpR 3 1 rd gs.length (now.map (.int .i64)) ++ [(b3, true, cel (scnV n A gs.length c E B ms.length c2) 25)]) w1 → IntsAt w1 (valA rd) now := fun w1 h => intsAt_hp h hnl hrd
 have hb3 : (b3, true, cel (scnV n A gs.length c E B ms.length c2) 25) ∈ hpR 3 1 rd gs.length (now.map (.int .i64)) ++ [(b3, true, cel (scnV n A gs.length c E B ms.length c2) 25)] := List.mem_append_right _ (List.Mem.head _)
 have hfin : ∀ w1, WOK w XNone (hpR 3 1 rd gs.length (now.map (.int .i64)) ++ [(b3, true, cel (scnV n A gs.length c E B ms.length c2) 25)]) w1 → WOK w XNone (hpR 3 1 rd gs.length (now.map (.int .i64)) ++ [(b3, true, cel (scnV n A gs.length c E B ms.length c2) 25)]) w1 := fun w1 h => h
 generalize hη : hpR 3 1 rd gs.length (now.map (.int .i64)) ++ [(b3, true, cel (scnV n A gs.length c E B ms.length c2) 25)] = η1 at hints hb3 ⊢
 refine xc_slots [(1, .int .i64 (s : Int)), (2, .int .i64 (room : Int)), (3, .pointer (some ⟨b3, 0, none⟩)), (7, .slice (valA rd) gs.length (valC rd))] ⟨rfl, rfl, rfl, rfl, trivial⟩ ?_
 with_reducible (repeat apply xc_seq)
 refine xc_drawG (fun g : FG => [.agg (scnV n A gs.length c E B ms.length c2).toArray, .int .i64 (s : Int), .agg (scnV n A gs.length c E B ms.length c2).toArray, .slice (valA rd) gs.length (valC rd), .int .i64 (room : Int), .slice (some ⟨g.r, 0, none⟩) n n, .agg (spaV (winR E (dR n gs room now) (setOf ms s))).toArray, .pointer (some ⟨g.c, 0, none⟩), undef]) (hF (spaV (winR E (dR n gs room now) (setOf ms s))) (rowD n (dR n gs room now)) η1) (okF 5 7 8) .f0 ?_ rfl (fun g => rfl) T_.mixed rfl rfl rfl rfl ?_ ?_
 ·simp [okF]
 ·apply DrawG.pure (fun L g h => by cases g <;> simpa [okF] using h)
  ·intro L g hg hi hd τ
   cases g
   all_goals first
    | exact absurd (hg 0 (by decide)) hi
    | (refine ⟨_, rfl, ?_⟩; refine xo_loadN T_ (cs := scnV n A gs.length c E B ms.length c2) rfl rfl rfl (by first | exact hb3 | exact List.mem_cons_of_mem _ hb3 | exact List.mem_cons_of_mem _ (List.mem_cons_of_mem _ hb3)) rfl rfl ?_; exact xo_fin rfl)
  apply DrawG.pure (fun L g h => by cases g <;> simpa [okF] using h)
  ·intro L g hg hi hd τ
   cases g
   all_goals first
    | exact absurd (hg 1 (by decide)) hi
    | (refine ⟨_, rfl, ?_⟩; refine xoM ?_; exact xo_fin rfl)
  apply DrawG.pure (fun L g h => by cases g <;> simpa [okF] using h)
  ·intro L g hg hi hd τ
   cases g
   all_goals first
    | exact absurd (hg 2 (by decide)) hi
    | (refine ⟨_, rfl, ?_⟩; refine xo_loadN T_ (cs := scnV n A gs.length c E B ms.length c2) rfl rfl rfl (by first | exact hb3 | exact List.mem_cons_of_mem _ hb3 | exact List.mem_cons_of_mem _ (List.mem_cons_of_mem _ hb3)) rfl rfl ?_; exact xo_fin rfl)
  apply DrawG.pure (fun L g h => by cases g <;> simpa [okF] using h)
  ·intro L g hg hi hd τ
   cases g
   all_goals first
    | exact absurd (hg 3 (by decide)) hi
    | (refine ⟨_, rfl, ?_⟩; refine xoM ?_; exact xo_fin rfl)
  apply DrawG.pure (fun L g h => by cases g <;> simpa [okF] using h)
  ·intro L g hg hi hd τ
   cases g
   all_goals first
    | exact absurd (hg 4 (by decide)) hi
    | (refine ⟨_, rfl, ?_⟩; refine xoM ?_; exact xo_fin rfl)
  apply DrawG.cons
  ·intro L g hg hi hd τ
   have hdn : True := trivial
   rcases g with _ | r9 | c9 | ⟨r9, c9⟩ | ⟨r9, c9⟩
   ·refine xo_call (fs := []) (cs := []) rfl rfl rfl far_enters rfl (fun w1 hw1 => (far_callsG n E A B (valA rd) c ms.length c2 (valC rd) gs now room w1 hn hG hok (hA.below hw1.kx.below) (hints w1 (hw1.bl_of fun e he => he)) hr).mono ?_)
    rintro e w2 ⟨b9, rfl, hz⟩
    refine ⟨_, _, rfl, hw1.join hz (fun e he => by rw [List.mem_singleton.1 he]), ?_⟩
    clear hz hw1
    exact xo_nil fun a w1 ha hw1 => ⟨.fr b9, ⟨List.mem_cons_self, by simpa using hg.2.1, by simpa using hg.2.2⟩, (fun k hk => by rcases k with _ | _ | _ | _ | _ | _ | _ | _ | _ | k <;> first | rfl | exact absurd hk hg.1), ⟨_, rfl, ha⟩, hw1⟩
   ·exact absurd hg.1 hi
   ·refine xo_call (fs := []) (cs := []) rfl rfl rfl far_enters rfl (fun w1 hw1 => (far_callsG n E A B (valA rd) c ms.length c2 (valC rd) gs now room w1 hn hG hok (hA.below hw1.kx.below) (hints w1 (hw1.bl_of fun e he => List.mem_cons_of_mem _ he)) hr).mono ?_)
    rintro e w2 ⟨b9, rfl, hz⟩
    refine ⟨_, _, rfl, hw1.join hz (fun e he => by rw [List.mem_singleton.1 he]), ?_⟩
    clear hz hw1
    exact xo_nil fun a w1 ha hw1 => ⟨.fb b9 c9, ⟨List.mem_cons_self, List.mem_cons_of_mem _ hg.2.1, by simpa using hg.2.2⟩, (fun k hk => by rcases k with _ | _ | _ | _ | _ | _ | _ | _ | _ | k <;> first | rfl | exact absurd hk hg.1), ⟨_, rfl, ha⟩, hw1.perm (List.Perm.swap _ _ _)⟩
   ·exact absurd hg.1 hi
   ·exact absurd hg.1 hi
  apply DrawG.cons
  ·intro L g hg hi hd τ
   rcases g with _ | r9 | c9 | ⟨r9, c9⟩ | ⟨r9, c9⟩
   ·exact absurd (hd 5 (by decide)) hg.1
   ·refine xo_callB (fs := []) (cs := []) rfl rfl rfl both_enters rfl (fun w1 hw1 => both_calls n E A B (some ⟨r9, 0, none⟩) gs.length c c2 n (dR n gs room now) ms s w1 hn hE hm8 hmk (hM.below hw1.kx.below) hs8 hdd (intsD_cel (hw1.bl_of (fun e he => by rw [List.mem_singleton.1 he]; exact List.Mem.head _)))) ?_
    exact xo_nil fun a w1 ha hw1 => ⟨.fr r9, by simpa [okF] using hg, fun _ _ => rfl, ⟨_, rfl, ha⟩, hw1⟩
   ·exact absurd (hd 5 (by decide)) hg.1
   ·refine xo_callB (fs := []) (cs := []) rfl rfl rfl both_enters rfl (fun w1 hw1 => both_calls n E A B (some ⟨r9, 0, none⟩) gs.length c c2 n (dR n gs room now) ms s w1 hn hE hm8 hmk (hM.below hw1.kx.below) hs8 hdd (intsD_cel (hw1.bl_of (fun e he => by rw [List.mem_singleton.1 he]; exact List.Mem.tail _ (List.Mem.head _))))) ?_
    exact xo_nil fun a w1 ha hw1 => ⟨.fb r9 c9, by simpa [okF] using hg, fun _ _ => rfl, ⟨_, rfl, ha⟩, hw1⟩
   ·refine xo_callB (fs := []) (cs := []) rfl rfl rfl both_enters rfl (fun w1 hw1 => both_calls n E A B (some ⟨r9, 0, none⟩) gs.length c c2 n (dR n gs room now) ms s w1 hn hE hm8 hmk (hM.below hw1.kx.below) hs8 hdd (intsD_cel (hw1.bl_of (fun e he => by rw [List.mem_singleton.1 he]; exact List.Mem.tail _ (List.Mem.head _))))) ?_
    exact xo_nil fun a w1 ha hw1 => ⟨.fs r9 c9, by simpa [okF] using hg, fun _ _ => rfl, ⟨_, rfl, ha⟩, hw1⟩
  apply DrawG.cons
  ·intro L g hg hi hd τ
   rcases g with _ | r9 | c9 | ⟨r9, c9⟩ | ⟨r9, c9⟩
   ·refine xo_alloc T_ rfl rfl rfl rfl (fun b9 => ?_)
    exact xo_nil fun a w1 ha hw1 => ⟨.fc b9, ⟨by simpa using hg.1, List.mem_cons_self, by simpa using hg.2.2⟩, (fun k hk => by rcases k with _ | _ | _ | _ | _ | _ | _ | _ | _ | k <;> first | rfl | exact absurd hk hg.2.1), ⟨_, rfl, ha⟩, hw1⟩
   ·refine xo_alloc T_ rfl rfl rfl rfl (fun b9 => ?_)
    exact xo_nil fun a w1 ha hw1 => ⟨.fb r9 b9, ⟨List.mem_cons_of_mem _ hg.1, List.mem_cons_self, by simpa using hg.2.2⟩, (fun k hk => by rcases k with _ | _ | _ | _ | _ | _ | _ | _ | _ | k <;> first | rfl | exact absurd hk hg.2.1), ⟨_, rfl, ha⟩, hw1⟩
   ·exact absurd hg.2.1 hi
   ·exact absurd hg.2.1 hi
   ·exact absurd hg.2.1 hi
  apply DrawG.cons
  ·intro L g hg hi hd τ
   rcases g with _ | r9 | c9 | ⟨r9, c9⟩ | ⟨r9, c9⟩
   ·exact absurd (hd 5 (by decide)) hg.1
   ·exact absurd (hd 7 (by decide)) hg.2.1
   ·exact absurd (hd 5 (by decide)) hg.1
   ·refine xo_store T_ (cs := [.int .i64 0, .int .i64 0]) (cs' := spaV (winR E (dR n gs room now) (setOf ms s))) (vs := spaV (winR E (dR n gs room now) (setOf ms s))) rfl rfl rfl rfl (List.Mem.head _) rfl rfl rfl rfl Upd.head rfl ?_
    exact xo_nil fun a w1 ha hw1 => ⟨.fs r9 c9, ⟨List.mem_cons_of_mem _ hg.1, List.mem_cons_of_mem _ hg.2.1, List.mem_cons_self⟩, fun _ _ => rfl, ⟨_, rfl, ha⟩, hw1⟩
   ·exact absurd hg.2.2 hi
  exact DrawG.nil
 intro L g hg hall
 obtain ⟨r9, c9, rfl⟩ : ∃ r c, g = .fs r c := by
  have h9 := hall 8 (by decide)
  rcases g with _ | r9 | c9 | ⟨r9, c9⟩ | ⟨r9, c9⟩
  ·exact absurd h9 hg.2.2
  ·exact absurd h9 hg.2.2
  ·exact absurd h9 hg.2.2
  ·exact absurd h9 hg.2.2
  ·exact ⟨r9, c9, rfl⟩
 with_reducible (repeat first | apply xqT | apply xqB | apply xqS)
 refine xc_slots [(1, .int .i64 (s : Int)), (2, .int .i64 (room : Int)), (3, .pointer (some ⟨b3, 0, none⟩)), (7, .slice (valA rd) gs.length (valC rd)), (9, .pointer (some ⟨c9, 0, none⟩))] ⟨rfl, rfl, rfl, rfl, rfl, trivial⟩ ?_
 cases hh : decide ((winR E (dR n gs room now) (setOf ms s)).f0 ≤ (winR E (dR n gs room now) (setOf ms s)).f1)
 ·rw [hh, Bool.false_or] at hstep
  with_reducible ((repeat apply xc_seq); apply xcR)
  refine xo_fa T_ rfl rfl rfl rfl rfl ?_
  refine xo_load0 T_ (cs := spaV (winR E (dR n gs room now) (setOf ms s))) rfl rfl rfl (List.Mem.head _) rfl rfl ?_
  refine xo_fa T_ rfl rfl rfl rfl rfl ?_
  refine xo_load0 T_ (cs := spaV (winR E (dR n gs room now) (setOf ms s))) rfl rfl rfl (List.Mem.head _) rfl rfl ?_
  refine xo_leq rfl rfl rfl rfl ?_
  refine xo_as (i := 27) rfl (congrArg Value.bool hh) ?_
  with_reducible (apply xo_nil; (repeat first | apply xqT | apply xqB | apply xqS); (repeat apply xc_seq))
  refine xc_condF rfl ?_
  with_reducible (apply xc_skip; (repeat first | apply xqT | apply xqB | apply xqS))
  subst hη
  with_reducible ((repeat apply xc_seq); apply xcR)
  refine xo_loadN T_ (cs := scnV n A gs.length c E B ms.length c2) rfl rfl rfl (List.mem_cons_of_mem _ (List.mem_cons_of_mem _ hb3)) rfl rfl ?_
  refine xoM ?_
  refine xo_call (fs := []) (cs := []) rfl rfl rfl next_enters rfl (fun w1 hw1 => (next_row n E A B c ms.length c2 gs rd now (w0 := w) hG (hA.below hw1.kx.below) hAlt hok hrd (hw1.sub (List.Sublist.cons _ (List.sublist_cons_self _ _)))).mono ?_)
  rintro e w2 ⟨rfl, hz⟩
  refine ⟨_, _, rfl, hz, ?_⟩
  clear hz hw1
  refine xoA ?_
  with_reducible (apply xo_nil; (repeat first | apply xqT | apply xqB | apply xqS))
  exact xq_again _ _ _ _ _ (nextD gs now) ⟨hnok, hstep⟩ hlen ⟨rfl, rfl, rfl, rfl, rfl, trivial⟩ (List.Sublist.refl _)
 ·rw [hh, Bool.true_or] at hstep
  rw [hstep]
  with_reducible ((repeat apply xc_seq); apply xcR)
  refine xo_fa T_ rfl rfl rfl rfl rfl ?_
  refine xo_load0 T_ (cs := spaV (winR E (dR n gs room now) (setOf ms s))) rfl rfl rfl (List.Mem.head _) rfl rfl ?_
  refine xo_fa T_ rfl rfl rfl rfl rfl ?_
  refine xo_load0 T_ (cs := spaV (winR E (dR n gs room now) (setOf ms s))) rfl rfl rfl (List.Mem.head _) rfl rfl ?_
  refine xo_leq rfl rfl rfl rfl ?_
  refine xo_as (i := 27) rfl (congrArg Value.bool hh) ?_
  with_reducible (apply xo_nil; (repeat first | apply xqT | apply xqB | apply xqS); (repeat apply xc_seq))
  refine xc_condT rfl ?_
  with_reducible ((repeat apply xc_seq); apply xcR)
  refine xoA ?_
  with_reducible (apply xo_nil; (repeat first | apply xqT | apply xqB | apply xqS); (repeat apply xc_seq); apply xc_ret; (repeat (first | apply xq_thenR | apply xq_blockR | apply xq_scopeR)))
  exact xq_ret1 rfl rfl fun w' hw => ⟨rfl, hw.kx.below⟩
theorem some_enters : ∀ args w, (callFunc 58 args).run Tryd.prog w = .ok (.enter 58 args) w := enters_of Tryd.func58 (by kernel_rfl) rfl
def roomsRef (n : Nat) (E : Int) (gs : List GatT) (ls : List MarT) (k : Nat) : List Nat := (List.range k).filter fun r => someR n E gs r ls
theorem rrooms_calls (n : Nat) (E : Int) (A B : Option Addr) (c c2 : Nat) (gs : List GatT) (ms : List MarT) (s : Nat) (w : World) (hs : SceneR w n E A B gs ms) (hs8 : s ≤ 256) :
  Calls Tryd.prog 37 #[.agg (scnV n A gs.length c E B ms.length c2).toArray, .int .i64 (s : Int)] w fun e w' => ∃ rr : RowR, e = .returned (valR rr (roomsRef n E gs (setOf ms s) n).length) ∧ RowAt 3 w.heap.size w' rr (intsN (roomsRef n E gs (setOf ms s) n)) ∧ Below w.heap.size w w' := by
 have hn := hs.n6
 refine x_calls (X := XNone) Tryd.func37 rfl rfl rfl ?_
 with_reducible ((repeat apply xc_seq); apply xcR)
 refine xo_box rfl rfl rfl rfl (fun b2 => ?_)
 refine xoA ?_
 with_reducible (apply xo_nil; (repeat first | apply xqT | apply xqB | apply xqS); (repeat apply xc_seq); apply xcR)
 refine xoA ?_
 with_reducible (apply xo_nil; (repeat first | apply xqT | apply xqB | apply xqS); (repeat apply xc_seq); apply xcR)
 refine xoA ?_
 with_reducible (apply xo_nil; (repeat first | apply xqT | apply xqB | apply xqS); (repeat apply xc_seq); apply xc_block)
 refine xc_loop (γ := Nat × RowR) (fun q => q.1 ≤ n ∧ (q.2 = none → (intsN (roomsRef n E gs (setOf ms s) q.1)).length = 0)) (fun q => [(1, .int .i64 (s : Int)), (2, .pointer (some ⟨b2, 0, none⟩)), (5, valR q.2 (intsN (roomsRef n E gs (setOf ms s) q.1)).length), (6, .int .i64 (q.1 : Int))])
  (fun q => hpR 3 1 q.2 (intsN (roomsRef n E gs (setOf ms s) q.1)).length ((intsN (roomsRef n E gs (setOf ms s) q.1)).map (.int .i64)) ++ [(b2, true, cel (scnV n A gs.length c E B ms.length c2) 25)]) (fun q => n - q.1) (0, none) ⟨Nat.zero_le _, fun _ => rfl⟩ ⟨rfl, rfl, rfl, rfl, trivial⟩ (by repeat (first | exact List.Sublist.refl _ | apply List.Sublist.cons_cons | apply List.Sublist.cons | exact List.nil_sublist _)) ?_
 rintro ⟨k, rr⟩ ⟨hk, hrr⟩
 simp only at hk hrr
 with_reducible ((repeat apply xc_seq); apply xcR)
 refine xoM ?_
 refine xo_fa T_ rfl rfl rfl rfl rfl ?_
 refine xo_load0 T_ (b := b2) (wr := true) (cs := scnV n A gs.length c E B ms.length c2) (te := 25) rfl rfl rfl (by repeat first | exact mH | apply mT | apply mA) rfl rfl ?_
 refine xo_lss rfl rfl rfl rfl ?_
 with_reducible (apply xo_nil; (repeat first | apply xqT | apply xqB | apply xqS); (repeat apply xc_seq))
 refine xc_cond rfl (fun h => ?_) (fun h => ?_)
 ·have hlt : k < n := by have := of_decide_eq_true h; omega
  have hst : intsN (roomsRef n E gs (setOf ms s) (k + 1)) = if someR n E gs k (setOf ms s) = true then intsN (roomsRef n E gs (setOf ms s) k) ++ [(k : Int)] else intsN (roomsRef n E gs (setOf ms s) k) := by
   unfold roomsRef intsN
   rw [List.range_succ, List.filter_append, List.filter_cons, List.filter_nil]
   cases h : someR n E gs k (setOf ms s) <;> simp
  have hlen : (intsN (roomsRef n E gs (setOf ms s) k)).length ≤ k := by
   have := List.length_filter_le (fun r => someR n E gs r (setOf ms s)) (List.range k)
   rw [List.length_range] at this
   simpa [intsN, roomsRef] using this
  generalize intsN (roomsRef n E gs (setOf ms s) k) = L at hrr hst hlen
  with_reducible (apply xc_skip; (repeat first | apply xqT | apply xqB | apply xqS); (repeat apply xc_seq); apply xc_block)
  cases hb : someR n E gs k (setOf ms s)
  ·rw [hb, if_neg Bool.false_ne_true] at hst
   with_reducible ((repeat apply xc_seq); apply xcR)
   refine xo_loadN T_ (b := b2) (wr := true) (cs := scnV n A gs.length c E B ms.length c2) (te := 25) rfl rfl rfl (by repeat first | exact mH | apply mT | apply mA) rfl rfl ?_
   refine xoM ?_
   refine xoM ?_
   refine xo_callB (fs := []) (cs := []) rfl rfl rfl some_enters rfl (fun w1 hw1 => some_calls n E A B c c2 gs ms s k w1 (hs.below hw1.kx.below) hs8 hlt) ?_
   refine xo_as (i := 16) rfl (congrArg Value.bool hb) ?_
   with_reducible (apply xo_nil; (repeat first | apply xqT | apply xqB | apply xqS); (repeat apply xc_seq))
   refine xc_condF rfl ?_
   with_reducible (apply xc_skip; (repeat first | apply xqT | apply xqB | apply xqS); (repeat apply xc_seq); apply xcR)
   refine xoM ?_
   refine xo_add rfl rfl rfl (by omega) rfl ?_
   refine xoA ?_
   with_reducible (apply xo_nil; (repeat first | apply xqT | apply xqB | apply xqS))
   exact xq_again _ _ _ _ _ (k + 1, rr) ⟨hlt, fun q => by rw [hst]; exact hrr q⟩ (by simp only; omega) ⟨rfl, rfl, by rw [hst]; rfl, rfl, trivial⟩ (by rw [hst]; exact List.Sublist.refl _)
  ·rw [hb, if_pos rfl] at hst
   with_reducible ((repeat apply xc_seq); apply xcR)
   refine xo_loadN T_ (b := b2) (wr := true) (cs := scnV n A gs.length c E B ms.length c2) (te := 25) rfl rfl rfl (by repeat first | exact mH | apply mT | apply mA) rfl rfl ?_
   refine xoM ?_
   refine xoM ?_
   refine xo_callB (fs := []) (cs := []) rfl rfl rfl some_enters rfl (fun w1 hw1 => some_calls n E A B c c2 gs ms s k w1 (hs.below hw1.kx.below) hs8 hlt) ?_
   refine xo_as (i := 16) rfl (congrArg Value.bool hb) ?_
   with_reducible (apply xo_nil; (repeat first | apply xqT | apply xqB | apply xqS); (repeat apply xc_seq))
   refine xc_condT rfl ?_
   with_reducible ((repeat apply xc_seq); apply xcR)
   refine xoM ?_
   refine xoM ?_
   refine xo_bs1 T_ rfl rfl rfl rfl rfl rfl rfl rfl (fun b19 => ?_)
   refine xo_app TR_ rfl rfl rfl rfl rfl rfl rfl rfl (by rw [List.length_map, Nat.mul_one]) rfl rfl hrr (by omega) rfl rfl (fun r' hr' => ?_)
   refine xoA ?_
   with_reducible (apply xo_nil; (repeat first | apply xqT | apply xqB | apply xqS); (repeat apply xc_seq); apply xcR)
   refine xoM ?_
   refine xo_add rfl rfl rfl (by omega) rfl ?_
   refine xoA ?_
   with_reducible (apply xo_nil; (repeat first | apply xqT | apply xqB | apply xqS))
   exact xq_again _ _ _ _ _ (k + 1, r') ⟨hlt, fun q => absurd q hr'⟩ (by simp only; omega) ⟨rfl, rfl, by rw [hst, List.length_append]; rfl, rfl, trivial⟩ (by rw [hst, List.length_append, List.map_append]; exact List.Sublist.refl _)
 have hge : k = n := by have := of_decide_eq_false h; omega
 subst hge
 have hil : (intsN (roomsRef k E gs (setOf ms s) k)).length = (roomsRef k E gs (setOf ms s) k).length := by simp [intsN]
 with_reducible (apply xc_exit; (repeat (first | apply xq_blockX | apply xq_thenE | refine xq_blockE rfl ?_ | apply xq_scopeE)); (repeat first | apply xqT | apply xqB | apply xqS); (repeat apply xc_seq); apply xcR)
 refine xoM ?_
 refine xoA ?_
 with_reducible (apply xo_nil; (repeat first | apply xqT | apply xqB | apply xqS); (repeat apply xc_seq); apply xc_ret; (repeat (first | apply xq_thenR | apply xq_blockR | apply xq_scopeR)))
 exact xq_ret1 rfl rfl fun w' hw => ⟨rr, by rw [hil], RowAt.of hw (fun q => List.eq_nil_of_length_eq_zero (hrr q)), hw.kx.below⟩
theorem rrooms_enters : ∀ args w, (callFunc 37 args).run Tryd.prog w = .ok (.enter 37 args) w := enters_of Tryd.func37 (by kernel_rfl) rfl
theorem intsAt_row {w : World} {r : RowR} {xs : List Int} (h : BlIn (hpR 3 1 r xs.length (xs.map (.int .i64))) w) (h0 : r = none → xs.length = 0) : IntsAt w (valA r) xs := intsAt_hp (η1 := []) (by rw [List.append_nil]; exact h) rfl h0
theorem markR_of {n : Nat} {E : Int} {gs : List GatT} {ms : List MarT} (h : sceneF n E gs ms = true) : ∀ m ∈ ms, MarkR n m := by
 obtain ⟨hR6, hE6, hG, hm8, hmk⟩ := sceneF_ok h
 intro m hm
 have h1 := marks_ok hR6 hmk m hm
 have h2 : ∀ {ms : List MarT} {last : Int}, marksF n last ms = true → ∀ m ∈ ms, (0 ≤ m.f2 ∧ m.f2 < n) ∧ (0 ≤ m.f3 ∧ m.f3 < n) := by
  intro ms
  induction ms with
  | nil => intro last _ m hm; cases hm
  | cons x ms ih =>
   intro last h m hm
   simp only [marksF, Bool.and_eq_true] at h
   obtain ⟨⟨⟨⟨q1, q2⟩, q3⟩, q4⟩, q5⟩ := h
   rcases List.mem_cons.1 hm with rfl | hm
   ·have k2 := inF_iff.1 q2
    refine ⟨by omega, ?_⟩
    unfold kindF at q4
    split at q4
    ·simp only [timedF, Bool.and_eq_true, decide_eq_true_eq] at q4
     omega
    ·split at q4
     ·simp only [lastingF, Bool.and_eq_true, decide_eq_true_eq] at q4
      omega
     ·simp only [beforeF, Bool.and_eq_true] at q4
      have := inF_iff.1 q4.1.1.1
      omega
   ·exact ih q5 m hm
 exact ⟨h1, (h2 hmk m hm).1, (h2 hmk m hm).2⟩
theorem sceneR_of {w : World} {n : Nat} {E : Int} {A B : Option Addr} {gs : List GatT} {ms : List MarT} (h : sceneF n E gs ms = true) (hA : RowOf gatV 4 zGat w A gs) (hM : RowOf marV 7 zMar w B ms) : SceneR w n E A B gs ms := by
 obtain ⟨hR6, hE6, hG, hm8, hmk⟩ := sceneF_ok h
 exact ⟨by omega, hE6, hG, hm8, markR_of h, hA, hM⟩
def rowB (n : Nat) (f : Nat → Bool) : List Value := (List.range n).map fun v => Value.bool (f v)
theorem rowB_len (n : Nat) (f : Nat → Bool) : (rowB n f).length = n := by simp [rowB]
theorem rowB_at {n : Nat} (f : Nat → Bool) {v : Nat} (hv : v < n) : (rowB n f)[0 + (v : Int).toNat * szN 0]? = some (.bool (f v)) := by
 rw [show 0 + (v : Int).toNat * szN 0 = v by rw [show szN 0 = 1 from rfl, Int.toNat_natCast]; omega]
 simp [rowB, hv]
theorem rowB_set {n : Nat} (f : Nat → Bool) (a : Nat) (x : Bool) : (rowB n f).set (0 + (a : Int).toNat * szN 0) (.bool x) = rowB n (fun v => if v = a then x else f v) := by
 rw [show 0 + (a : Int).toNat * szN 0 = a by rw [show szN 0 = 1 from rfl, Int.toNat_natCast]; omega]
 apply List.ext_getElem?
 intro i
 rw [List.getElem?_set]
 simp only [rowB, List.getElem?_map, List.length_map, List.length_range]
 by_cases hi : i < n
 ·rw [List.getElem?_range hi]
  by_cases e : a = i
  ·subst e
   simp [hi]
  ·rw [if_neg e]
   simp [show ¬ i = a from fun q => e q.symm]
 ·rw [List.getElem?_eq_none (by simpa using hi)]
  by_cases e : a = i
  ·subst e
   simp [hi]
  ·rw [if_neg e]
   rfl
theorem rowB_congr {n : Nat} {f g : Nat → Bool} (h : ∀ v, v < n → f v = g v) : rowB n f = rowB n g := List.map_congr_left fun v hv => by rw [h v (List.mem_range.1 hv)]
theorem rowB_zero (n : Nat) : List.replicate n (Value.bool false) = rowB n fun _ => false := by
 apply List.ext_getElem
 ·simp [rowB]
 ·intro i h1 h2
  simp [rowB]
def hitR (n : Nat) (E : Int) (gs : List GatT) (room : Nat) (ls : List MarT) (m : Int) (l : List Int) : Bool := inF (winR E (dR n gs room l) ls).f0 (winR E (dR n gs room l) ls).f1 m
def canB (n : Nat) (E : Int) (gs : List GatT) (room : Nat) (ls : List MarT) (m : Nat) : Bool := (allD gs).any (hitR n E gs room ls m)
theorem hitK {lo k : Nat} (f : Nat → Bool) (hk : lo ≤ k) (v : Nat) : (if v = k then true else f v || (decide (lo ≤ v) && decide (v < k))) = (f v || (decide (lo ≤ v) && decide (v < k + 1))) := by
 by_cases h : v = k
 ·subst h
  simp [hk]
 ·rw [if_neg h]
  congr 2
  exact decide_eq_decide.2 ⟨fun q => by omega, fun q => by omega⟩
set_option maxHeartbeats 40000000 in
theorem rcan_calls (n N : Nat) (E : Int) (A B : Option Addr) (c c2 : Nat) (gs : List GatT) (ms : List MarT) (s room : Nat) (w : World) (hEN : E = N) (hs : SceneR w n E A B gs ms) (hs8 : s ≤ 256) (hr : room < n) :
  Calls Tryd.prog 33 #[.agg (scnV n A gs.length c E B ms.length c2).toArray, .int .i64 (s : Int), .int .i64 (room : Int)] w fun e w' => ∃ b, e = .returned (.slice (some ⟨b, 0, none⟩) (N + 1) (N + 1)) ∧ WOK w XNone [(b, true, cel (rowB (N + 1) (canB n E gs room (setOf ms s))) 4)] w' := by
 obtain ⟨hn, hE, hG, hm8, hmk, hA, hM⟩ := hs
 have hle : ∀ g ∈ gs, g.f2.f0 ≤ g.f2.f1 := fun g hg => (hG.ok g hg).2.2.2.2.1
 have hAlt := hA.lt gatV_0
 have hmk15 : some (Value.int .i64 (E + 1)) = some (Value.int .i64 ((N + 1 : Nat) : Int)) := congrArg (fun z => some (Value.int .i64 z)) (by omega)
 refine x_calls (X := XNone) Tryd.func33 rfl rfl rfl ?_
 with_reducible ((repeat apply xc_seq); apply xcR)
 refine xo_box rfl rfl rfl rfl (fun b3 => ?_)
 refine xoA ?_
 with_reducible (apply xo_nil; (repeat first | apply xqT | apply xqB | apply xqS); (repeat apply xc_seq); apply xcR)
 refine xo_fa T_ rfl rfl rfl rfl rfl ?_
 refine xo_load0 T_ rfl rfl rfl (by repeat first | exact mH | apply mT | apply mA) rfl rfl ?_
 refine xo_add rfl rfl rfl (by omega) rfl ?_
 refine xo_mks TR_ (m := N + 1) rfl rfl rfl rfl hmk15 hmk15 (by omega) (by omega) rfl (fun b15 => ?_)
 refine xoA ?_
 with_reducible (apply xo_nil; (repeat first | apply xqT | apply xqB | apply xqS))
 rw [rowB_zero]
 with_reducible ((repeat apply xc_seq); apply xcR)
 refine xo_loadN T_ rfl rfl rfl (by repeat first | exact mH | apply mT | apply mA) rfl rfl ?_
 refine xo_call (fs := []) (cs := []) rfl rfl rfl least_enters rfl (fun w1 hw1 => (least_calls n E A B c ms.length c2 gs w1 (hA.below hw1.kx.below) hG.len).mono ?_)
 rintro e w2 ⟨rd, rfl, hrw, hb⟩
 have h11 := hrw.1
 refine ⟨_, _, rfl, hw1.row hb hrw, ?_⟩
 clear hrw hb hw1
 refine xoA ?_
 with_reducible (apply xo_nil; (repeat first | apply xqT | apply xqB | apply xqS))
 have hll : (leastD gs).length = gs.length := by simp [leastD]
 have hrd : rd = none → gs.length = 0 := fun q => by rw [← hll, h11 q]; rfl
 rw [hll]
 with_reducible ((repeat apply xc_seq); apply xcR)
 refine xoA ?_
 with_reducible (apply xo_nil; (repeat first | apply xqT | apply xqB | apply xqS))
 refine xc_slots [(1, .int .i64 (s : Int)), (2, .int .i64 (room : Int)), (3, .pointer (some ⟨b3, 0, none⟩)), (7, .slice (some ⟨b15, 0, none⟩) (N + 1) (N + 1)), (8, .slice (valA rd) gs.length (valC rd)), (9, .bool true)] ⟨rfl, rfl, rfl, rfl, congrArg some (valR_eq hrd), rfl, trivial⟩ ?_
 with_reducible ((repeat apply xc_seq); apply xc_block)
 refine xc_loop (γ := Option (List Int) × (Nat → Bool)) (fun q => (∀ l, q.1 = some l → okD gs l) ∧ ∀ m, canB n E gs room (setOf ms s) m = (q.2 m || (restD gs q.1).any (hitR n E gs room (setOf ms s) m))) (fun q => [(1, .int .i64 (s : Int)), (2, .int .i64 (room : Int)), (3, .pointer (some ⟨b3, 0, none⟩)), (7, .slice (some ⟨b15, 0, none⟩) (N + 1) (N + 1)), (8, .slice (valA rd) gs.length (valC rd)), (9, .bool q.1.isSome)])
  (fun q => hpR 3 1 rd gs.length ((rowN gs q.1).map (.int .i64)) ++ [(b15, true, cel (rowB (N + 1) q.2) 4), (b3, true, cel (scnV n A gs.length c E B ms.length c2) 25)]) (fun q => (restD gs q.1).length) (some (leastD gs), fun _ => false) ⟨fun l e => by cases e; exact least_ok hle, fun m => by rw [Bool.false_or, restD, tailD_least hle]; rfl⟩ ⟨rfl, rfl, rfl, rfl, rfl, rfl, trivial⟩ (List.Sublist.refl _) ?_
 rintro ⟨_ | now, f⟩ ⟨hq, hall⟩
 ·simp only [restD, List.any_nil, Bool.or_false] at hall
  with_reducible ((repeat apply xc_seq); apply xcR)
  refine xoM ?_
  with_reducible (apply xo_nil; (repeat first | apply xqT | apply xqB | apply xqS); (repeat apply xc_seq))
  refine xc_condF rfl ?_
  with_reducible (apply xc_exit; (repeat (first | apply xq_blockX | apply xq_thenE | refine xq_blockE rfl ?_ | apply xq_scopeE)); (repeat first | apply xqT | apply xqB | apply xqS); (repeat apply xc_seq); apply xcR)
  refine xoM ?_
  refine xoA ?_
  with_reducible (apply xo_nil; (repeat first | apply xqT | apply xqB | apply xqS); (repeat apply xc_seq); apply xc_ret; (repeat (first | apply xq_thenR | apply xq_blockR | apply xq_scopeR)))
  rw [rowB_congr (g := canB n E gs room (setOf ms s)) (fun v _ => (hall v).symm)]
  exact xq_ret1 rfl rfl fun w' hw => ⟨b15, rfl, hw.sub ((List.Sublist.cons_cons _ (List.nil_sublist _)).trans (List.sublist_append_right _ _))⟩
 have hok := hq now rfl
 have hnl := okD_len hok
 have hdd : InN (dR n gs room now) := (InN.start room).rounds (okD_pos hok fun g hg => (hG.ok g hg).2.2.2.1) n
 have hstep : ∀ m : Nat, canB n E gs room (setOf ms s) m = ((f m || inF (winR E (dR n gs room now) (setOf ms s)).f0 (winR E (dR n gs room now) (setOf ms s)).f1 m) || (restD gs (nextD gs now)).any (hitR n E gs room (setOf ms s) m)) := fun m => by
  rw [hall m, Bool.or_assoc]
  congr 1
  show (tailD gs now).any _ = _
  rw [tail_next hle hok, List.any_cons]
  rfl
 have hlen : (restD gs (nextD gs now)).length < (restD gs (some now)).length := by
  rw [show restD gs (some now) = tailD gs now from rfl, tail_next hle hok, List.length_cons]
  omega
 have hnok := next_okD hle hok
 have hwin := winR_in E (dR n gs room now) (setOf ms s)
 clear hq hall
 with_reducible ((repeat apply xc_seq); apply xcR)
 refine xoM ?_
 with_reducible (apply xo_nil; (repeat first | apply xqT | apply xqB | apply xqS); (repeat apply xc_seq))
 refine xc_condT rfl ?_
 with_reducible (apply xc_skip; (repeat first | apply xqT | apply xqB | apply xqS); (repeat apply xc_seq); apply xc_block)
 show XC _ _ _ _ _ _ _ _ _ (hpR 3 1 rd gs.length (now.map (.int .i64)) ++ [(b15, true, cel (rowB (N + 1) f) 4), (b3, true, cel (scnV n A gs.length c E B ms.length c2) 25)]) _
 have hints : ∀ w1, BlIn (hpR 3 1 rd gs.length (now.map (.int .i64)) ++ [(b15, true, cel (rowB (N + 1) f) 4), (b3, true, cel (scnV n A gs.length c E B ms.length c2) 25)]) w1 → IntsAt w1 (valA rd) now := fun w1 h => intsAt_hp h hnl hrd
 have hb3 : (b3, true, cel (scnV n A gs.length c E B ms.length c2) 25) ∈ hpR 3 1 rd gs.length (now.map (.int .i64)) ++ [(b15, true, cel (rowB (N + 1) f) 4), (b3, true, cel (scnV n A gs.length c E B ms.length c2) 25)] := List.mem_append_right _ (List.Mem.tail _ (List.Mem.head _))
 generalize hη : hpR 3 1 rd gs.length (now.map (.int .i64)) ++ [(b15, true, cel (rowB (N + 1) f) 4), (b3, true, cel (scnV n A gs.length c E B ms.length c2) 25)] = η1 at hints hb3 ⊢
 refine xc_slots [(1, .int .i64 (s : Int)), (2, .int .i64 (room : Int)), (3, .pointer (some ⟨b3, 0, none⟩)), (7, .slice (some ⟨b15, 0, none⟩) (N + 1) (N + 1)), (8, .slice (valA rd) gs.length (valC rd))] ⟨rfl, rfl, rfl, rfl, rfl, trivial⟩ ?_
 with_reducible (repeat apply xc_seq)
 refine xc_drawG (fun g : FG => [.agg (scnV n A gs.length c E B ms.length c2).toArray, .int .i64 (s : Int), .agg (scnV n A gs.length c E B ms.length c2).toArray, .slice (valA rd) gs.length (valC rd), .int .i64 (room : Int), .slice (some ⟨g.r, 0, none⟩) n n, .agg (spaV (winR E (dR n gs room now) (setOf ms s))).toArray, .pointer (some ⟨g.c, 0, none⟩), undef]) (hF (spaV (winR E (dR n gs room now) (setOf ms s))) (rowD n (dR n gs room now)) η1) (okF 5 7 8) .f0 ?_ rfl (fun g => rfl) T_.mixed rfl rfl rfl rfl ?_ ?_
 ·simp [okF]
 ·apply DrawG.pure (fun L g h => by cases g <;> simpa [okF] using h)
  ·intro L g hg hi hd τ
   cases g
   all_goals first
    | exact absurd (hg 0 (by decide)) hi
    | (refine ⟨_, rfl, ?_⟩; refine xo_loadN T_ (cs := scnV n A gs.length c E B ms.length c2) rfl rfl rfl (by first | exact hb3 | exact List.mem_cons_of_mem _ hb3 | exact List.mem_cons_of_mem _ (List.mem_cons_of_mem _ hb3)) rfl rfl ?_; exact xo_fin rfl)
  apply DrawG.pure (fun L g h => by cases g <;> simpa [okF] using h)
  ·intro L g hg hi hd τ
   cases g
   all_goals first
    | exact absurd (hg 1 (by decide)) hi
    | (refine ⟨_, rfl, ?_⟩; refine xoM ?_; exact xo_fin rfl)
  apply DrawG.pure (fun L g h => by cases g <;> simpa [okF] using h)
  ·intro L g hg hi hd τ
   cases g
   all_goals first
    | exact absurd (hg 2 (by decide)) hi
    | (refine ⟨_, rfl, ?_⟩; refine xo_loadN T_ (cs := scnV n A gs.length c E B ms.length c2) rfl rfl rfl (by first | exact hb3 | exact List.mem_cons_of_mem _ hb3 | exact List.mem_cons_of_mem _ (List.mem_cons_of_mem _ hb3)) rfl rfl ?_; exact xo_fin rfl)
  apply DrawG.pure (fun L g h => by cases g <;> simpa [okF] using h)
  ·intro L g hg hi hd τ
   cases g
   all_goals first
    | exact absurd (hg 3 (by decide)) hi
    | (refine ⟨_, rfl, ?_⟩; refine xoM ?_; exact xo_fin rfl)
  apply DrawG.pure (fun L g h => by cases g <;> simpa [okF] using h)
  ·intro L g hg hi hd τ
   cases g
   all_goals first
    | exact absurd (hg 4 (by decide)) hi
    | (refine ⟨_, rfl, ?_⟩; refine xoM ?_; exact xo_fin rfl)
  apply DrawG.cons
  ·intro L g hg hi hd τ
   have hdn : True := trivial
   rcases g with _ | r9 | c9 | ⟨r9, c9⟩ | ⟨r9, c9⟩
   ·refine xo_call (fs := []) (cs := []) rfl rfl rfl far_enters rfl (fun w1 hw1 => (far_callsG n E A B (valA rd) c ms.length c2 (valC rd) gs now room w1 hn hG hok (hA.below hw1.kx.below) (hints w1 (hw1.bl_of fun e he => he)) hr).mono ?_)
    rintro e w2 ⟨b9, rfl, hz⟩
    refine ⟨_, _, rfl, hw1.join hz (fun e he => by rw [List.mem_singleton.1 he]), ?_⟩
    clear hz hw1
    exact xo_nil fun a w1 ha hw1 => ⟨.fr b9, ⟨List.mem_cons_self, by simpa using hg.2.1, by simpa using hg.2.2⟩, (fun k hk => by rcases k with _ | _ | _ | _ | _ | _ | _ | _ | _ | k <;> first | rfl | exact absurd hk hg.1), ⟨_, rfl, ha⟩, hw1⟩
   ·exact absurd hg.1 hi
   ·refine xo_call (fs := []) (cs := []) rfl rfl rfl far_enters rfl (fun w1 hw1 => (far_callsG n E A B (valA rd) c ms.length c2 (valC rd) gs now room w1 hn hG hok (hA.below hw1.kx.below) (hints w1 (hw1.bl_of fun e he => List.mem_cons_of_mem _ he)) hr).mono ?_)
    rintro e w2 ⟨b9, rfl, hz⟩
    refine ⟨_, _, rfl, hw1.join hz (fun e he => by rw [List.mem_singleton.1 he]), ?_⟩
    clear hz hw1
    exact xo_nil fun a w1 ha hw1 => ⟨.fb b9 c9, ⟨List.mem_cons_self, List.mem_cons_of_mem _ hg.2.1, by simpa using hg.2.2⟩, (fun k hk => by rcases k with _ | _ | _ | _ | _ | _ | _ | _ | _ | k <;> first | rfl | exact absurd hk hg.1), ⟨_, rfl, ha⟩, hw1.perm (List.Perm.swap _ _ _)⟩
   ·exact absurd hg.1 hi
   ·exact absurd hg.1 hi
  apply DrawG.cons
  ·intro L g hg hi hd τ
   rcases g with _ | r9 | c9 | ⟨r9, c9⟩ | ⟨r9, c9⟩
   ·exact absurd (hd 5 (by decide)) hg.1
   ·refine xo_callB (fs := []) (cs := []) rfl rfl rfl both_enters rfl (fun w1 hw1 => both_calls n E A B (some ⟨r9, 0, none⟩) gs.length c c2 n (dR n gs room now) ms s w1 hn hE hm8 hmk (hM.below hw1.kx.below) hs8 hdd (intsD_cel (hw1.bl_of (fun e he => by rw [List.mem_singleton.1 he]; exact List.Mem.head _)))) ?_
    exact xo_nil fun a w1 ha hw1 => ⟨.fr r9, by simpa [okF] using hg, fun _ _ => rfl, ⟨_, rfl, ha⟩, hw1⟩
   ·exact absurd (hd 5 (by decide)) hg.1
   ·refine xo_callB (fs := []) (cs := []) rfl rfl rfl both_enters rfl (fun w1 hw1 => both_calls n E A B (some ⟨r9, 0, none⟩) gs.length c c2 n (dR n gs room now) ms s w1 hn hE hm8 hmk (hM.below hw1.kx.below) hs8 hdd (intsD_cel (hw1.bl_of (fun e he => by rw [List.mem_singleton.1 he]; exact List.Mem.tail _ (List.Mem.head _))))) ?_
    exact xo_nil fun a w1 ha hw1 => ⟨.fb r9 c9, by simpa [okF] using hg, fun _ _ => rfl, ⟨_, rfl, ha⟩, hw1⟩
   ·refine xo_callB (fs := []) (cs := []) rfl rfl rfl both_enters rfl (fun w1 hw1 => both_calls n E A B (some ⟨r9, 0, none⟩) gs.length c c2 n (dR n gs room now) ms s w1 hn hE hm8 hmk (hM.below hw1.kx.below) hs8 hdd (intsD_cel (hw1.bl_of (fun e he => by rw [List.mem_singleton.1 he]; exact List.Mem.tail _ (List.Mem.head _))))) ?_
    exact xo_nil fun a w1 ha hw1 => ⟨.fs r9 c9, by simpa [okF] using hg, fun _ _ => rfl, ⟨_, rfl, ha⟩, hw1⟩
  apply DrawG.cons
  ·intro L g hg hi hd τ
   rcases g with _ | r9 | c9 | ⟨r9, c9⟩ | ⟨r9, c9⟩
   ·refine xo_alloc T_ rfl rfl rfl rfl (fun b9 => ?_)
    exact xo_nil fun a w1 ha hw1 => ⟨.fc b9, ⟨by simpa using hg.1, List.mem_cons_self, by simpa using hg.2.2⟩, (fun k hk => by rcases k with _ | _ | _ | _ | _ | _ | _ | _ | _ | k <;> first | rfl | exact absurd hk hg.2.1), ⟨_, rfl, ha⟩, hw1⟩
   ·refine xo_alloc T_ rfl rfl rfl rfl (fun b9 => ?_)
    exact xo_nil fun a w1 ha hw1 => ⟨.fb r9 b9, ⟨List.mem_cons_of_mem _ hg.1, List.mem_cons_self, by simpa using hg.2.2⟩, (fun k hk => by rcases k with _ | _ | _ | _ | _ | _ | _ | _ | _ | k <;> first | rfl | exact absurd hk hg.2.1), ⟨_, rfl, ha⟩, hw1⟩
   ·exact absurd hg.2.1 hi
   ·exact absurd hg.2.1 hi
   ·exact absurd hg.2.1 hi
  apply DrawG.cons
  ·intro L g hg hi hd τ
   rcases g with _ | r9 | c9 | ⟨r9, c9⟩ | ⟨r9, c9⟩
   ·exact absurd (hd 5 (by decide)) hg.1
   ·exact absurd (hd 7 (by decide)) hg.2.1
   ·exact absurd (hd 5 (by decide)) hg.1
   ·refine xo_store T_ (cs := [.int .i64 0, .int .i64 0]) (cs' := spaV (winR E (dR n gs room now) (setOf ms s))) (vs := spaV (winR E (dR n gs room now) (setOf ms s))) rfl rfl rfl rfl (List.Mem.head _) rfl rfl rfl rfl Upd.head rfl ?_
    exact xo_nil fun a w1 ha hw1 => ⟨.fs r9 c9, ⟨List.mem_cons_of_mem _ hg.1, List.mem_cons_of_mem _ hg.2.1, List.mem_cons_self⟩, fun _ _ => rfl, ⟨_, rfl, ha⟩, hw1⟩
   ·exact absurd hg.2.2 hi
  exact DrawG.nil
 intro L g hg hall
 obtain ⟨r9, c9, rfl⟩ : ∃ r c, g = .fs r c := by
  have h9 := hall 8 (by decide)
  rcases g with _ | r9 | c9 | ⟨r9, c9⟩ | ⟨r9, c9⟩
  ·exact absurd h9 hg.2.2
  ·exact absurd h9 hg.2.2
  ·exact absurd h9 hg.2.2
  ·exact absurd h9 hg.2.2
  ·exact ⟨r9, c9, rfl⟩
 with_reducible (repeat first | apply xqT | apply xqB | apply xqS)
 subst hη
 refine xc_sub (η' := (c9, true, cel (spaV (winR E (dR n gs room now) (setOf ms s))) 55) :: (hpR 3 1 rd gs.length (now.map (.int .i64)) ++ [(b15, true, cel (rowB (N + 1) f) 4), (b3, true, cel (scnV n A gs.length c E B ms.length c2) 25)])) (List.Sublist.cons_cons _ (List.sublist_cons_self _ _)) ?_
 refine xc_perm (η' := (b15, true, cel (rowB (N + 1) f) 4) :: (c9, true, cel (spaV (winR E (dR n gs room now) (setOf ms s))) 55) :: (hpR 3 1 rd gs.length (now.map (.int .i64)) ++ [(b3, true, cel (scnV n A gs.length c E B ms.length c2) 25)])) ((List.Perm.cons _ List.perm_middle).trans (List.Perm.swap _ _ _)) ?_
 obtain ⟨lo, hlo⟩ : ∃ lo : Nat, (winR E (dR n gs room now) (setOf ms s)).f0 = lo := ⟨(winR E (dR n gs room now) (setOf ms s)).f0.toNat, by omega⟩
 generalize (winR E (dR n gs room now) (setOf ms s)) = win_ at hstep hwin hlo ⊢
 refine xc_slots [(1, .int .i64 (s : Int)), (2, .int .i64 (room : Int)), (3, .pointer (some ⟨b3, 0, none⟩)), (7, .slice (some ⟨b15, 0, none⟩) (N + 1) (N + 1)), (8, .slice (valA rd) gs.length (valC rd)), (10, .pointer (some ⟨c9, 0, none⟩))] ⟨rfl, rfl, rfl, rfl, rfl, rfl, trivial⟩ ?_
 with_reducible ((repeat apply xc_seq); apply xcR)
 refine xo_fa T_ rfl rfl rfl rfl rfl ?_
 refine xo_load0 T_ (cs := spaV win_) rfl rfl rfl (List.Mem.tail _ (List.Mem.head _)) rfl rfl ?_
 refine xoA ?_
 with_reducible (apply xo_nil; (repeat first | apply xqT | apply xqB | apply xqS))
 refine xc_slots [(1, .int .i64 (s : Int)), (2, .int .i64 (room : Int)), (3, .pointer (some ⟨b3, 0, none⟩)), (7, .slice (some ⟨b15, 0, none⟩) (N + 1) (N + 1)), (8, .slice (valA rd) gs.length (valC rd)), (10, .pointer (some ⟨c9, 0, none⟩)), (11, .int .i64 (lo : Int))] ⟨rfl, rfl, rfl, rfl, rfl, rfl, congrArg (fun z => some (Value.int .i64 z)) hlo, trivial⟩ ?_
 with_reducible ((repeat apply xc_seq); apply xc_block)
 refine xc_loop (γ := Nat) (fun k => lo ≤ k ∧ ((k : Int) ≤ win_.f1 + 1 ∨ k = lo)) (fun k => [(1, .int .i64 (s : Int)), (2, .int .i64 (room : Int)), (3, .pointer (some ⟨b3, 0, none⟩)), (7, .slice (some ⟨b15, 0, none⟩) (N + 1) (N + 1)), (8, .slice (valA rd) gs.length (valC rd)), (10, .pointer (some ⟨c9, 0, none⟩)), (11, .int .i64 (k : Int))])
  (fun k => (b15, true, cel (rowB (N + 1) (fun v => f v || (decide (lo ≤ v) && decide (v < k)))) 4) :: (c9, true, cel (spaV win_) 55) :: (hpR 3 1 rd gs.length (now.map (.int .i64)) ++ [(b3, true, cel (scnV n A gs.length c E B ms.length c2) 25)])) (fun k => (win_.f1 + 1 - k).toNat) lo ⟨Nat.le_refl _, .inr rfl⟩ ⟨rfl, rfl, rfl, rfl, rfl, rfl, rfl, trivial⟩ (by rw [rowB_congr (g := f) (fun v _ => by simp; omega)]; exact List.Sublist.refl _) ?_
 rintro k ⟨hk1, hk2⟩
 with_reducible ((repeat apply xc_seq); apply xcR)
 refine xoM ?_
 refine xo_fa T_ rfl rfl rfl rfl rfl ?_
 refine xo_load0 T_ (cs := spaV win_) rfl rfl rfl (List.Mem.tail _ (List.Mem.head _)) rfl rfl ?_
 refine xo_leq rfl rfl rfl rfl ?_
 with_reducible (apply xo_nil; (repeat first | apply xqT | apply xqB | apply xqS); (repeat apply xc_seq))
 refine xc_cond rfl (fun h => ?_) (fun h => ?_)
 ·have hlt : (k : Int) ≤ win_.f1 := of_decide_eq_true h
  with_reducible (apply xc_skip; (repeat first | apply xqT | apply xqB | apply xqS); (repeat apply xc_seq); apply xc_block; (repeat apply xc_seq); apply xcR)
  refine xoM ?_
  refine xoM ?_
  refine xo_ia T_ (i := (k : Int)) rfl rfl rfl rfl rfl ⟨by omega, by omega⟩ rfl ?_
  refine xo_storeI T_ (o := 0) (k := (k : Int).toNat * szN 0) (η' := (b15, true, cel (rowB (N + 1) (fun v => f v || (decide (lo ≤ v) && decide (v < k + 1)))) 4) :: (c9, true, cel (spaV win_) 55) :: (hpR 3 1 rd gs.length (now.map (.int .i64)) ++ [(b3, true, cel (scnV n A gs.length c E B ms.length c2) 25)])) rfl rfl rfl rfl (List.Mem.head _) rfl rfl (by rw [rowB_len, show szN 0 = 1 from rfl, Int.toNat_natCast]; omega) (upd_set (by rw [rowB_set]; exact rowB_congr fun v hv => hitK f hk1 v)) rfl ?_
  with_reducible (apply xo_nil; (repeat first | apply xqT | apply xqB | apply xqS); (repeat apply xc_seq); apply xcR)
  refine xoM ?_
  refine xo_add rfl rfl rfl (by omega) rfl ?_
  refine xoA ?_
  with_reducible (apply xo_nil; (repeat first | apply xqT | apply xqB | apply xqS))
  exact xq_again _ _ _ _ _ (k + 1) ⟨by omega, .inl (by omega)⟩ (by omega) ⟨rfl, rfl, rfl, rfl, rfl, rfl, rfl, trivial⟩ (List.Sublist.refl _)
 have hge : ¬ (k : Int) ≤ win_.f1 := of_decide_eq_false h
 with_reducible (apply xc_exit; (repeat (first | apply xq_blockX | apply xq_thenE | refine xq_blockE rfl ?_ | apply xq_scopeE)); (repeat first | apply xqT | apply xqB | apply xqS))
 refine xc_sub (η' := (b15, true, cel (rowB (N + 1) (fun v => f v || (decide (lo ≤ v) && decide (v < k)))) 4) :: (hpR 3 1 rd gs.length (now.map (.int .i64)) ++ [(b3, true, cel (scnV n A gs.length c E B ms.length c2) 25)])) (List.Sublist.cons_cons _ (List.sublist_cons_self _ _)) ?_
 refine xc_perm (η' := hpR 3 1 rd gs.length (now.map (.int .i64)) ++ [(b15, true, cel (rowB (N + 1) (fun v => f v || (decide (lo ≤ v) && decide (v < k)))) 4), (b3, true, cel (scnV n A gs.length c E B ms.length c2) 25)]) List.perm_middle.symm ?_
 with_reducible ((repeat apply xc_seq); apply xcR)
 refine xo_loadN T_ (cs := scnV n A gs.length c E B ms.length c2) rfl rfl rfl (List.mem_append_right _ (List.Mem.tail _ (List.Mem.head _))) rfl rfl ?_
 refine xoM ?_
 refine xo_call (fs := []) (cs := []) rfl rfl rfl next_enters rfl (fun w1 hw1 => (next_row n E A B c ms.length c2 gs rd now (w0 := w) hG (hA.below hw1.kx.below) hAlt hok hrd hw1).mono ?_)
 rintro e w2 ⟨rfl, hz⟩
 refine ⟨_, _, rfl, hz, ?_⟩
 clear hz hw1
 refine xoA ?_
 with_reducible (apply xo_nil; (repeat first | apply xqT | apply xqB | apply xqS))
 exact xq_again _ _ _ _ _ (nextD gs now, fun v => f v || (decide (lo ≤ v) && decide (v < k))) ⟨hnok, fun m => by rw [hstep m]; congr 2; unfold inF; rw [hlo]; rcases hk2 with q | q <;> (rw [Bool.eq_iff_iff]; simp only [Bool.and_eq_true, decide_eq_true_eq]; omega)⟩ hlen ⟨rfl, rfl, rfl, rfl, rfl, rfl, trivial⟩ (List.Sublist.refl _)
theorem rcan_enters : ∀ args w, (callFunc 33 args).run Tryd.prog w = .ok (.enter 33 args) w := enters_of Tryd.func33 (by kernel_rfl) rfl
def grpL (f : Nat → Bool) (k : Nat) : List SpaT := spansOf (intsN ((List.range k).filter f))
theorem grpL_succ (f : Nat → Bool) (k : Nat) : grpL f (k + 1) = if f k = true then grpS (grpL f k) k else grpL f k := by
 unfold grpL spansOf intsN
 rw [List.range_succ, List.filter_append, List.filter_cons, List.filter_nil]
 split
 ·rw [List.map_append, List.foldl_append]
  rfl
 ·rw [List.append_nil]
theorem grpL_last (f : Nat → Bool) : ∀ k, (0 < (grpL f k).length → ((grpL f k).getD ((grpL f k).length - 1) zSpa).f1 < k) ∧ ((0 < (grpL f k).length ∧ ((grpL f k).getD ((grpL f k).length - 1) zSpa).f1 = (k : Int) - 1) ↔ 0 < k ∧ f (k - 1) = true) ∧ (grpL f k).length ≤ k
 | 0 => by simp [grpL, spansOf, intsN]
 | k + 1 => by
  have ih := grpL_last f k
  rw [grpL_succ]
  cases hf : f k
  ·simp only [Bool.false_eq_true, if_false, Nat.add_sub_cancel, hf, and_false, iff_false]
   refine ⟨fun h => by have := ih.1 h; omega, fun h => ?_, by omega⟩
   have := ih.1 h.1
   omega
  ·simp only [if_true, Nat.add_sub_cancel, hf, and_true]
   have key : ((grpS (grpL f k) k).getD ((grpS (grpL f k) k).length - 1) zSpa).f1 = k ∧ 0 < (grpS (grpL f k) k).length ∧ (grpS (grpL f k) k).length ≤ (grpL f k).length + 1 := by
    unfold grpS
    split
    ·rename_i h
     refine ⟨by rw [List.length_set, List.getD_eq_getElem?_getD, List.getElem?_set_self (by omega)]; rfl, by simpa using h.1, by simp⟩
    ·refine ⟨by simp [List.getD_eq_getElem?_getD], by simp, by simp⟩
   refine ⟨fun _ => by omega, ⟨fun _ => by omega, fun _ => ⟨key.2.1, by omega⟩⟩, by omega⟩
theorem Wk.len {es : List Edge3} (h60 : ∀ e ∈ es, e.2.2 ≤ 60) {b a : Nat} {p : List Nat} {n : Int} (h : Wk es b a p n) : n ≤ 60 * ((p.length : Int) - 1) := by
 induction h with
 | nil => simp
 | @cons a c p n l h _ ih =>
  have h6 : l ≤ 60 := h.elim (fun q => h60 (a, c, l) q) (fun q => h60 (c, a, l) q)
  simp only [List.length_cons]
  omega
theorem far_same {n : Nat} {gs : List GatT} {l : List Int} {room v : Nat} (hn : 1 ≤ n ∧ n ≤ 6) (hG : GatesR n gs) (hl : okD gs l) (hr : room < n) (hv : v < n) :
  (farM n gs l room v = dR n gs room l v ∧ 0 ≤ dR n gs room l v ∧ dR n gs room l v ≤ 300) ∨ (farM n gs l room v = 1073741824 ∧ dR n gs room l v = 1000000) := by
 have hp := okD_pos hl fun g hg => (hG.ok g hg).2.2.2.1
 have h60 : ∀ e ∈ edgesL gs l, e.2.2 ≤ 60 := fun e he => by
  obtain ⟨i, hi, rfl⟩ := List.getElem_of_mem he
  have hll := okD_len hl
  rw [edges_len hll] at hi
  have h1 := edges_at hll i hi
  rw [List.getElem?_eq_getElem (by rw [edges_len hll]; exact hi)] at h1
  rw [Option.some.inj h1]
  have h2 := okD_at hl i hi
  have h3 := hG.ok _ (getD_mem gs zGat i hi)
  simp only [edgeL]
  omega
 have hF : Fine (edgesL gs l) n := fun e he => by
  obtain ⟨g, hg, h1, h2⟩ := edges_from e he
  have h3 := hG.ok g hg
  exact ⟨by omega, by omega, hp e he⟩
 have hne := edges_ne hG l
 have d1 := fw_dist hF hne (N := nvr) (by decide) hr
 have d2 := rounds_dist hF hne (N := 1000000) (by decide) hr
 have key : ∀ {N : Int} {d : Nat → Int}, Dist (edgesL gs l) n N room d → 300 < N → (d v ≤ 300 ∧ d v < N) ∨ ∀ p m, ¬ Wk (edgesL gs l) room v p m := fun {N d} h hN => by
  by_cases hw : ∃ p m, Wk (edgesL gs l) room v p m
  ·obtain ⟨p, m, hw⟩ := hw
   obtain ⟨q, k, h1, h2, h3⟩ := hw.simple hF
   have h4 := h1.len h60
   have h5 := nodup_le n q h2 (h1.room hF hr)
   have h6 := h.least v hv q k h1
   left
   omega
  ·right
   exact fun p m q => hw ⟨p, m, q⟩
 have k1 := key d1 (by decide)
 have k2 := key d2 (by decide)
 have p2 := d2.pos hF (by decide) hv
 rcases Dist.same d1 d2 hv (k1.imp_left (·.2)) (k2.imp_left (·.2)) with e | ⟨e1, e2⟩
 ·rcases k2 with ⟨q, _⟩ | q
  ·exact .inl ⟨e, p2, q⟩
  ·right
   refine ⟨(d1.is v hv).resolve_right fun ⟨p, w⟩ => q p _ w, (d2.is v hv).resolve_right fun ⟨p, w⟩ => q p _ w⟩
 ·exact .inr ⟨e1, e2⟩
def inS (s : SpaT) (z : Int) : Prop := s.f0 ≤ z ∧ z ≤ s.f1
def Eqv (E : Int) (s t : SpaT) : Prop := (∀ z, inS s z ↔ inS t z) ∧ ∀ z, inS s z → 0 ≤ z ∧ z ≤ E
theorem Eqv.le {E : Int} {s t : SpaT} (h : Eqv E s t) : decide (s.f0 ≤ s.f1) = decide (t.f0 ≤ t.f1) := by
 rw [Bool.eq_iff_iff, decide_eq_true_eq, decide_eq_true_eq]
 have h1 := h.1 s.f0
 have h2 := h.1 t.f0
 unfold inS at h1 h2
 omega
theorem Eqv.eq {E : Int} {s t : SpaT} (h : Eqv E s t) (hle : s.f0 ≤ s.f1) : s = t := by
 have h1 := h.1 s.f0
 have h2 := h.1 s.f1
 have h3 := h.1 t.f0
 have h4 := h.1 t.f1
 unfold inS at h1 h2 h3 h4
 obtain ⟨a, b⟩ := s
 obtain ⟨c, d⟩ := t
 simp only at h1 h2 h3 h4 hle
 have e1 : a = c := by omega
 have e2 : b = d := by omega
 rw [e1, e2]
theorem in_com (x y : SpaT) (z : Int) : inS (comF x y) z ↔ inS x z ∧ inS y z := by
 unfold inS
 rw [show (comF x y).f0 = if x.f0 < y.f0 then y.f0 else x.f0 from rfl, show (comF x y).f1 = if y.f1 < x.f1 then y.f1 else x.f1 from rfl]
 split <;> split <;> omega
theorem Eqv.com {E : Int} {s t x y : SpaT} (h : Eqv E s t) (hx : ∀ z, 0 ≤ z → z ≤ E → (inS x z ↔ inS y z)) : Eqv E (comF s x) (comF t y) := by
 refine ⟨fun z => ?_, fun z hz => h.2 z ((in_com _ _ _).1 hz).1⟩
 rw [in_com, in_com]
 constructor
 ·rintro ⟨h1, h2⟩
  have := h.2 z h1
  exact ⟨(h.1 z).1 h1, (hx z this.1 this.2).1 h2⟩
 ·rintro ⟨h1, h2⟩
  have h1 := (h.1 z).2 h1
  have := h.2 z h1
  exact ⟨h1, (hx z this.1 this.2).2 h2⟩
theorem in_after {n d z : Int} (hz : 0 ≤ z ∧ z ≤ 600) : inS (afterF n d) z ↔ (d = 1073741824 ∨ n + 1 - d ≤ z) := by
 unfold afterF inS
 split
 ·simp only
  omega
 ·simp only
  omega
theorem in_until {n d z : Int} (hz : 0 ≤ z ∧ z ≤ 600) : inS (untilF n d) z ↔ (d ≠ 1073741824 ∧ z ≤ n - d) := by
 unfold untilF nowhereF inS
 split
 ·simp only
  omega
 ·simp only
  omega
theorem in_lit {a b z : Int} : inS ⟨a, b⟩ z ↔ a ≤ z ∧ z ≤ b := Iff.rfl
theorem in_ite {p : Prop} [Decidable p] {s t : SpaT} {z : Int} : inS (if p then s else t) z ↔ (p ∧ inS s z) ∨ (¬ p ∧ inS t z) := by
 by_cases h : p
 ·rw [if_pos h]; simp [h]
 ·rw [if_neg h]; simp [h]
theorem says_same {n : Nat} {E : Int} {D d : Nat → Int} {m : MarT} (hE : 0 ≤ E ∧ E ≤ 600) (hm : MarkR n m) (hd : ∀ v, v < n → (D v = d v ∧ 0 ≤ d v ∧ d v ≤ 300) ∨ (D v = 1073741824 ∧ d v = 1000000)) {s t : SpaT} (h : Eqv E s t) : Eqv E (comF s (saysF E D m)) (comF t (windowF E d m)) := by
 obtain ⟨⟨hk, hb, ho, hlo, hhi, hlong⟩, hroom, hother⟩ := hm
 have h1 := hd m.f2.toNat (by omega)
 have h2 := hd m.f3.toNat (by omega)
 refine h.com fun z hz1 hz2 => ?_
 have hz : 0 ≤ z ∧ z ≤ 600 := by omega
 unfold windowF saysF
 generalize D m.f2.toNat = X at h1 ⊢
 generalize D m.f3.toNat = Y at h2 ⊢
 generalize d m.f2.toNat = x at h1 ⊢
 generalize d m.f3.toNat = y at h2 ⊢
 unfold windowV noneS nowhereF
 have hc : m.f1 = 1 ∨ m.f1 = 2 ∨ m.f1 = 3 ∨ m.f1 = 4 ∨ m.f1 = 5 ∨ m.f1 = 6 := by omega
 rcases hc with hc | hc | hc | hc | hc | hc
 ·rw [if_pos (show m.f1 ≤ 1 by omega), if_pos hc, in_com, in_after hz, in_until hz, in_ite, in_lit, in_lit]
  omega
 ·rw [if_neg (show ¬ m.f1 ≤ 1 by omega), if_pos (show m.f1 ≤ 2 by omega), if_neg (show ¬ m.f1 = 1 by omega), if_pos hc, in_after hz, in_ite, in_lit, in_lit]
  omega
 ·rw [if_neg (show ¬ m.f1 ≤ 1 by omega), if_neg (show ¬ m.f1 ≤ 2 by omega), if_pos (show m.f1 ≤ 3 by omega), if_neg (show ¬ m.f1 = 1 by omega), if_neg (show ¬ m.f1 = 2 by omega), if_pos hc, in_until hz, in_ite, in_lit, in_lit]
  omega
 ·rw [if_neg (show ¬ m.f1 ≤ 1 by omega), if_neg (show ¬ m.f1 ≤ 2 by omega), if_neg (show ¬ m.f1 ≤ 3 by omega), if_pos (show m.f1 ≤ 4 by omega), if_neg (show ¬ m.f1 = 1 by omega), if_neg (show ¬ m.f1 = 2 by omega), if_neg (show ¬ m.f1 = 3 by omega), if_pos hc, in_until hz, in_ite, in_lit, in_lit]
  omega
 ·rw [if_neg (show ¬ m.f1 ≤ 1 by omega), if_neg (show ¬ m.f1 ≤ 2 by omega), if_neg (show ¬ m.f1 ≤ 3 by omega), if_neg (show ¬ m.f1 ≤ 4 by omega), if_pos (show m.f1 ≤ 5 by omega), if_neg (show ¬ m.f1 = 1 by omega), if_neg (show ¬ m.f1 = 2 by omega), if_neg (show ¬ m.f1 = 3 by omega), if_neg (show ¬ m.f1 = 4 by omega), if_pos hc, in_after hz, in_ite, in_lit, in_lit]
  omega
 ·rw [if_neg (show ¬ m.f1 ≤ 1 by omega), if_neg (show ¬ m.f1 ≤ 2 by omega), if_neg (show ¬ m.f1 ≤ 3 by omega), if_neg (show ¬ m.f1 ≤ 4 by omega), if_neg (show ¬ m.f1 ≤ 5 by omega), if_neg (show ¬ m.f1 = 1 by omega), if_neg (show ¬ m.f1 = 2 by omega), if_neg (show ¬ m.f1 = 3 by omega), if_neg (show ¬ m.f1 = 4 by omega), if_neg (show ¬ m.f1 = 5 by omega), if_pos hc, in_ite, in_ite, in_lit, in_lit, in_lit, in_lit]
  omega
theorem win_same {n : Nat} {E : Int} {D d : Nat → Int} (hE : 0 ≤ E ∧ E ≤ 600) (hd : ∀ v, v < n → (D v = d v ∧ 0 ≤ d v ∧ d v ≤ 300) ∨ (D v = 1073741824 ∧ d v = 1000000)) (l : List MarT) (hl : ∀ m ∈ l, MarkR n m) : Eqv E (winF E D l) (winR E d l) := by
 have key : ∀ (l : List MarT) (s t : SpaT), (∀ m ∈ l, MarkR n m) → Eqv E s t → Eqv E (l.foldl (fun s m => comF s (saysF E D m)) s) (l.foldl (fun s m => comF s (windowF E d m)) t) := by
  intro l
  induction l with
  | nil => intro s t _ h; exact h
  | cons m l ih => intro s t hl h; exact ih _ _ (fun q hq => hl q (List.mem_cons_of_mem _ hq)) (says_same hE (hl m List.mem_cons_self) hd h)
 exact key l ⟨0, E⟩ ⟨0, E⟩ hl ⟨fun z => Iff.rfl, fun z hz => hz⟩
structure Sane (n : Nat) (E : Int) (gs : List GatT) : Prop where
 n6 : 1 ≤ n ∧ n ≤ 6
 E6 : 0 ≤ E ∧ E ≤ 600
 G : GatesR n gs
theorem win_at {n : Nat} {E : Int} {gs : List GatT} (h : Sane n E gs) {ls : List MarT} (hm : ∀ m ∈ ls, MarkR n m) {room : Nat} (hr : room < n) {l : List Int} (hl : l ∈ allD gs) : Eqv E (winF E (farM n gs l room) ls) (winR E (dR n gs room l) ls) := win_same h.E6 (fun v hv => far_same h.n6 h.G (allD_ok _ hl) hr hv) ls hm
theorem can_iff {E : Int} {R : Nat} {gs : List GatT} {room : Nat} {ms : List MarT} : canF E R gs room ms = true ↔ ∃ l ∈ allD gs, (winF E (farM R gs l room) ms).f0 ≤ (winF E (farM R gs l room) ms).f1 := by
 unfold canF
 rw [Bool.not_eq_true', List.isEmpty_eq_false_iff_exists_mem]
 constructor
 ·rintro ⟨x, hx⟩
  obtain ⟨h1, h2, h3⟩ := beganL_mem.1 hx
  rw [h2] at h3
  exact ⟨_, getD_mem (allD gs) [] x.1 h1, h3⟩
 ·rintro ⟨l, hl, h⟩
  obtain ⟨i, hi, rfl⟩ := List.getElem_of_mem hl
  have e : (allD gs).getD i [] = (allD gs)[i] := by simp [List.getD_eq_getElem?_getD, List.getElem?_eq_getElem hi]
  exact ⟨(i, winF E (farM R gs (allD gs)[i] room) ms), beganL_mem.2 ⟨hi, by rw [e], h⟩⟩
theorem can_same {n : Nat} {E : Int} {gs : List GatT} (h : Sane n E gs) {ls : List MarT} (hm : ∀ m ∈ ls, MarkR n m) {room : Nat} (hr : room < n) : canF E n gs room ls = someR n E gs room ls := by
 rw [Bool.eq_iff_iff, can_iff]
 unfold someR
 rw [List.any_eq_true]
 constructor
 ·rintro ⟨l, hl, h1⟩
  have := (win_at h hm hr hl).le
  exact ⟨l, hl, by unfold holdsR; rw [← this, decide_eq_true h1]⟩
 ·rintro ⟨l, hl, h1⟩
  have := (win_at h hm hr hl).le
  unfold holdsR at h1
  rw [← this] at h1
  exact ⟨l, hl, of_decide_eq_true h1⟩
theorem rooms_same {n : Nat} {E : Int} {gs : List GatT} (h : Sane n E gs) {ls : List MarT} (hm : ∀ m ∈ ls, MarkR n m) : roomsN E n gs ls = roomsRef n E gs ls n := List.filter_congr fun r hr => can_same h hm (List.mem_range.1 hr)
theorem bitN_full {n i : Nat} (h : i < n) : bitN (2 ^ n - 1) i = true := by
 have := Nat.testBit_two_pow_sub_one n i
 rw [Nat.testBit_eq_decide_div_mod_eq, decide_eq_true h] at this
 unfold bitN
 rw [decide_eq_true_eq]
 have := of_decide_eq_true this
 omega
theorem setOf_full (ms : List MarT) : setOf ms (2 ^ ms.length - 1) = ms := by
 have key : ∀ k, k ≤ ms.length → chosenL (2 ^ ms.length - 1) ms k = ms.take k := by
  intro k
  induction k with
  | zero => intro _; rfl
  | succ k ih =>
   intro hk
   rw [chosenL, if_pos (bitN_full (by omega)), ih (by omega), List.take_add_one, List.getElem?_eq_getElem (by omega)]
   simp [List.getD_eq_getElem?_getD, List.getElem?_eq_getElem (show k < ms.length by omega)]
 unfold setOf
 rw [key _ (Nat.le_refl _), List.take_length]
theorem sane_of {R E : Int} {n : Nat} {gs : List GatT} {ms : List MarT} (hR : R = n) (h : sceneF R E gs ms = true) : Sane n E gs ∧ ∀ m ∈ ms, MarkR n m := by
 subst hR
 obtain ⟨hR6, hE6, hG, hm8, hmk⟩ := sceneF_ok h
 refine ⟨⟨by omega, hE6, hG⟩, ?_⟩
 exact markR_of h
end Go.Proofs.YtommeljlfkmpjaaDoor
