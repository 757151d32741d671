/- origin.Minutes. / origin: sets of marks, the order in which fewest sorts them, the first of which something is so: plain; slices.SortFunc by the shelf's contract. / origin: chosen, first, fewest. / origin.fewest: the numbers of the fewest marks of which something is so. / origin: Why, Against. / SX: all ways through a region with guards meet again (mark #M). No program in sight. / ref09: within, Great, comparisons. -/
import Derived.Test.YtommeljlfkmpjaaGreatDoorPkLawOriginMore8
import Derived.Test.YtommeljlfkmpjaaGreatDoorPkLawOriginMore7
import Derived.Sort.OwnSortedInts
import Derived.Test.YtommeljlfkmpjaaGreatDoorPkLawOriginMore3
import Derived.Test.YtommeljlfkmpjaaGreatDoorPkLawOriginMore4
namespace Go.Proofs.YtommeljlfkmpjaaGreatDoor
open Go.RowKit Go.Proofs.YtommeljlfkmpjaaGreatDoorW.PrintWords
set_option linter.unusedVariables false
set_option linter.unusedSimpArgs false
/-- a row of elements of sz cells that a call has made -/
def RowZ (e : TypeId) (sz n base : Nat) (w : World) (r : RowR) (cells : List Value) : Prop := (r = none → n = 0) ∧ ∀ p, r = some p → base ≤ p.1 ∧ ∃ o, w.heap[p.1]? = some o ∧ orow e sz n p.2 cells o
theorem WOK.rowZ {w0 : World} {X : Nat → Prop} {η : Hp} {w w' : World} (h : WOK w0 X η w) (hb : Below w.heap.size w w') {e : TypeId} {sz n : Nat} {r : RowR} {xs : List Value} (hr : RowZ e sz n w.heap.size w' r xs) : WOK w0 X (hpR e sz r n xs ++ η) w' := by
 cases r with
 | none => exact h.below hb
 | some p =>
   obtain ⟨h1, o, h2, h3⟩ := hr.2 p rfl
   exact h.more hb h1 h2 h3
theorem RowZ.of {w0 : World} {η : Hp} {w : World} {e : TypeId} {sz n : Nat} {r : RowR} {xs : List Value} (h : WOK w0 XNone (hpR e sz r n xs ++ η) w) (h0 : r = none → n = 0) : RowZ e sz n w0.heap.size w r xs := by
 refine ⟨h0, fun p hp => ?_⟩
 subst hp
 exact ⟨h.own (List.Mem.head _), h.bl (p.1, true, orow e sz n p.2 xs) (List.Mem.head _)⟩
def spaL (l : List SpaT) : List Value := (l.map spaV).flatten
theorem spaL_len (l : List SpaT) : (spaL l).length = l.length * 2 := by
 unfold spaL
 rw [flat_len 2 _ (by intro c hc; obtain ⟨x, _, rfl⟩ := List.mem_map.1 hc; rfl), List.length_map]
theorem spaL_app (l : List SpaT) (x : SpaT) : spaL (l ++ [x]) = spaL l ++ spaV x := by simp [spaL]
theorem spaL_at (l : List SpaT) (k : Nat) (hk : k < l.length) (i : Nat) (hi : i < 2) : (spaL l)[k * 2 + i]? = (spaV (l.getD k zSpa))[i]? := by
 unfold spaL
 rw [flat_at 2 _ k i (by intro c hc; obtain ⟨x, _, rfl⟩ := List.mem_map.1 hc; rfl) hi, List.getElem?_map, List.getElem?_eq_getElem hk]
 simp [List.getD_eq_getElem?_getD, List.getElem?_eq_getElem hk]
theorem spaL_set (l : List SpaT) (k : Nat) (hk : k < l.length) (v : Int) : (spaL l).set (k * 2 + 1) (.int .i64 v) = spaL (l.set k ⟨(l.getD k zSpa).f0, v⟩) := by
 unfold spaL
 rw [flat_set 2 (l.map spaV) k 1 (spaV (l.getD k zSpa)) _ (by intro c hc; obtain ⟨x, _, rfl⟩ := List.mem_map.1 hc; rfl) (by rw [List.getElem?_map, List.getElem?_eq_getElem hk]; simp [List.getD_eq_getElem?_getD, List.getElem?_eq_getElem hk]) (by omega)]
 congr 1
 rw [List.map_set]
 rfl
theorem ad_last (b n j : Nat) (h : 0 < n) : Addr.add (Addr.add ⟨b, 0, none⟩ (((n : Int) - 1).toNat * szN 2)) j = ⟨b, (n - 1) * 2 + j, none⟩ := by
 rw [Addr.add_lit, Addr.add_lit]
 congr 1
 rw [show (((n : Int) - 1).toNat) = n - 1 by omega, show szN 2 = 2 from rfl]
 omega
theorem grpS_len (acc : List SpaT) (m : Int) : (grpS acc m).length ≤ acc.length + 1 := by
 unfold grpS
 split <;> simp
theorem told_add (pr : List (Nat × SpaT)) (x : Nat × SpaT) (m : Int) : toldF (pr ++ [x]) m = (toldF pr m || (decide (x.2.f0 ≤ m) && decide (m ≤ x.2.f1))) := by simp [toldF]
def mapH (b9 b8 b26 : Nat) (g : List Int × SpaT) : Hp := [(b9, true, cel (spaV g.2) 45), (b8, true, cel [.map (some b26)] 89), (b26, true, hmap (setV g.1))]
set_option maxHeartbeats 40000000 in
theorem Minutes_calls (R E : Int) (A B : Option Addr) (c c2 : Nat) (gs : List GatT) (ms : List MarT) (room : Int) (w : World) (hs : SceneAt w A B gs ms) :
   Calls Tryz.prog 22 #[.agg (scnV R A gs.length c E B ms.length c2).toArray, .int .i64 room] w fun e w' => ∃ rr : RowR, e = .returned (.tuple #[valR rr (minutesL R E gs ms room).length, .int .i64 (minutesC R E gs ms room)]) ∧ RowZ 45 2 (minutesL R E gs ms room).length w.heap.size w' rr (spaL (minutesL R E gs ms room)) ∧ Below w.heap.size w w' := by
 refine x_callsM (vs := [.agg (scnV R A gs.length c E B ms.length c2).toArray, .int .i64 room]) 1000 Tryz.func22 rfl rfl rfl (WOK.start XNone w) ?_
 with_reducible ((repeat refine xc_seq ?_); refine xcR ?_)
 refine xo_box rfl rfl rfl rfl (fun b2 => ?_)
 refine xo_asg rfl rfl rfl ?_
 refine xo_asg rfl rfl rfl ?_
 with_reducible (refine xo_nil ?_; (repeat (first | refine xqT ?_ | refine xqB ?_ | refine xqS ?_)))
 cases hsc : sceneF R E gs ms
 · have e1 : minutesC R E gs ms room = 90 := by simp [minutesC, hsc]
   have e2 : minutesL R E gs ms room = [] := by rw [minutesL, if_neg (by rw [e1]; decide)]
   with_reducible ((repeat refine xc_seq ?_); refine xcR ?_)
   refine xo_loadN T_ rfl rfl rfl (by repeat first | exact memH | apply memT | apply memA) rfl rfl ?_
   refine xo_mv rfl rfl rfl ?_
   refine xo_callB (fs := []) (cs := []) rfl rfl rfl roomed_enters rfl (fun w1 hw1 => roomed_no R E A B c c2 gs ms room w1 (hs.below hw1.kx.below).gates (hs.below hw1.kx.below).marks hs.bytes hsc) ?_
   refine xo_mv rfl rfl rfl ?_
   refine xo_ext rfl rfl rfl rfl ?_
   refine xo_ext rfl rfl rfl rfl ?_
   refine xo_asg rfl rfl rfl ?_
   refine xo_asg rfl rfl rfl ?_
   with_reducible (refine xo_nil ?_; (repeat (first | refine xqT ?_ | refine xqB ?_ | refine xqS ?_)); (repeat refine xc_seq ?_); refine xcR ?_)
   refine xo_mv rfl rfl rfl ?_
   refine xo_neq rfl rfl rfl rfl ?_
   with_reducible (refine xo_nil ?_; (repeat (first | refine xqT ?_ | refine xqB ?_ | refine xqS ?_)); (repeat refine xc_seq ?_))
   refine xc_condT rfl ?_
   with_reducible ((repeat refine xc_seq ?_); refine xcR ?_)
   refine xo_mv rfl rfl rfl ?_
   refine xo_asg rfl rfl rfl ?_
   refine xo_asg rfl rfl rfl ?_
   with_reducible (refine xo_nil ?_; (repeat (first | refine xqT ?_ | refine xqB ?_ | refine xqS ?_)); (repeat refine xc_seq ?_); refine xc_ret ?_; (repeat (first | refine xq_thenR ?_ | refine xq_blockR ?_ | refine xq_scopeR ?_)))
   exact xq_ofM [] (xq_ret2 rfl rfl rfl fun w' hw => ⟨none, by rw [e1, e2]; rfl, by rw [e2]; exact ⟨fun _ => rfl, fun p hp => by cases hp⟩, hw.kx.below⟩)
 cases hrm : roomOK R room
 · have e1 : minutesC R E gs ms room = 2 := by simp [minutesC, hsc, hrm]
   have e2 : minutesL R E gs ms room = [] := by rw [minutesL, if_neg (by rw [e1]; decide)]
   with_reducible ((repeat refine xc_seq ?_); refine xcR ?_)
   refine xo_loadN T_ rfl rfl rfl (by repeat first | exact memH | apply memT | apply memA) rfl rfl ?_
   refine xo_mv rfl rfl rfl ?_
   refine xo_callB (fs := []) (cs := []) rfl rfl rfl roomed_enters rfl (fun w1 hw1 => roomed_arg R E A B c c2 gs ms room w1 (hs.below hw1.kx.below).gates (hs.below hw1.kx.below).marks hs.bytes hsc hrm) ?_
   refine xo_mv rfl rfl rfl ?_
   refine xo_ext rfl rfl rfl rfl ?_
   refine xo_ext rfl rfl rfl rfl ?_
   refine xo_asg rfl rfl rfl ?_
   refine xo_asg rfl rfl rfl ?_
   with_reducible (refine xo_nil ?_; (repeat (first | refine xqT ?_ | refine xqB ?_ | refine xqS ?_)); (repeat refine xc_seq ?_); refine xcR ?_)
   refine xo_mv rfl rfl rfl ?_
   refine xo_neq rfl rfl rfl rfl ?_
   with_reducible (refine xo_nil ?_; (repeat (first | refine xqT ?_ | refine xqB ?_ | refine xqS ?_)); (repeat refine xc_seq ?_))
   refine xc_condT rfl ?_
   with_reducible ((repeat refine xc_seq ?_); refine xcR ?_)
   refine xo_mv rfl rfl rfl ?_
   refine xo_asg rfl rfl rfl ?_
   refine xo_asg rfl rfl rfl ?_
   with_reducible (refine xo_nil ?_; (repeat (first | refine xqT ?_ | refine xqB ?_ | refine xqS ?_)); (repeat refine xc_seq ?_); refine xc_ret ?_; (repeat (first | refine xq_thenR ?_ | refine xq_blockR ?_ | refine xq_scopeR ?_)))
   exact xq_ofM [] (xq_ret2 rfl rfl rfl fun w' hw => ⟨none, by rw [e1, e2]; rfl, by rw [e2]; exact ⟨fun _ => rfl, fun p hp => by cases hp⟩, hw.kx.below⟩)
 have e1 : minutesC R E gs ms room = 0 := by simp [minutesC, hsc, hrm]
 rw [minutesL, if_pos e1, e1]
 clear e1
 obtain ⟨hR6, hE6, hG, hm8, hmk⟩ := sceneF_ok hsc
 have hmk' := marks_ok hR6 hmk
 clear hmk
 obtain ⟨n, rfl, hn1, hn6⟩ := nat_of hR6
 obtain ⟨r, rfl, hr⟩ := roomOK_nat hn6 hrm
 have en : ((n : Nat) : Int).toNat = n := rfl
 have er : ((r : Nat) : Int).toNat = r := rfl
 rw [en, er]
 with_reducible ((repeat refine xc_seq ?_); refine xcR ?_)
 refine xo_loadN T_ rfl rfl rfl (by repeat first | exact memH | apply memT | apply memA) rfl rfl ?_
 refine xo_mv rfl rfl rfl ?_
 refine xo_call (fs := []) (cs := []) rfl rfl rfl roomed_enters rfl (fun w1 hw1 => (roomed_yes n E A B c c2 gs ms r w1 (hs.below hw1.kx.below).gates (hs.below hw1.kx.below).marks hs.bytes hsc hrm).mono ?_)
 rintro e w2 ⟨bs, pre, fb, fc, wb, wc, rfl, hp, hz⟩
 rw [en] at hz
 refine ⟨_, _, rfl, (hw1.join hz (fun e he => (siteH_own e he).1)).deflag, ?_⟩
 clear hz hw1
 refine xo_mv rfl rfl rfl ?_
 refine xo_ext rfl rfl rfl rfl ?_
 refine xo_ext rfl rfl rfl rfl ?_
 refine xo_asg rfl rfl rfl ?_
 refine xo_asg rfl rfl rfl ?_
 with_reducible (refine xo_nil ?_; (repeat (first | refine xqT ?_ | refine xqB ?_ | refine xqS ?_)); (repeat refine xc_seq ?_); refine xcR ?_)
 refine xo_mv rfl rfl rfl ?_
 refine xo_neq rfl rfl rfl rfl ?_
 with_reducible (refine xo_nil ?_; (repeat (first | refine xqT ?_ | refine xqB ?_ | refine xqS ?_)); (repeat refine xc_seq ?_))
 refine xc_condF rfl ?_
 with_reducible (refine xc_skip ?_; (repeat (first | refine xqT ?_ | refine xqB ?_ | refine xqS ?_)))
 have hsite := siteH_site (bs := bs) (sv := scnV n A gs.length c E B ms.length c2) (R := n) (gs := gs) (pre := pre) (rf := some (fb, fc)) (rw_ := some (wb, wc))
 have hfarS := siteH_far (bs := bs) (sv := scnV n A gs.length c E B ms.length c2) (R := n) (gs := gs) (pre := pre) (fb := fb) (fc := fc) (rw_ := some (wb, wc))
 have hInW : ∀ (w1 : World) (η' : Hp), WOK w XNone η' w1 → (∀ e ∈ siteH bs (scnV n A gs.length c E B ms.length c2) n gs pre (some (fb, fc)) (some (wb, wc)), dfl e ∈ η') → SiteR w1 bs fb fc (scnV n A gs.length c E B ms.length c2) (valR (some (wb, wc)) pre.length) n gs := fun w1 η' h h2 => siteR_of (h.inW h2) hp
 generalize hS0 : siteH bs (scnV n A gs.length c E B ms.length c2) n gs pre (some (fb, fc)) (some (wb, wc)) = S0 at hsite hfarS hInW ⊢
 with_reducible ((repeat refine xc_seq ?_); refine xcR ?_)
 refine xo_mkm rfl rfl (fun b26 => ?_)
 refine xo_alloc T_ rfl rfl rfl rfl (fun b8 => ?_)
 refine xo_store T_ rfl rfl rfl rfl (by repeat first | exact memH | apply memT | apply memA) rfl rfl rfl rfl (by repeat (first | exact Upd.head | apply Upd.tail | apply Upd.app)) rfl ?_
 with_reducible (refine xo_nil ?_; (repeat (first | refine xqT ?_ | refine xqB ?_ | refine xqS ?_)); (repeat refine xc_seq ?_); refine xcR ?_)
 refine xo_build TB_ rfl rfl rfl rfl rfl ?_
 refine xo_alloc T_ rfl rfl rfl rfl (fun b9 => ?_)
 refine xo_store T_ rfl rfl rfl rfl (by repeat first | exact memH | apply memT | apply memA) rfl rfl rfl rfl (by repeat (first | exact Upd.head | apply Upd.tail | apply Upd.app)) rfl ?_
 with_reducible (refine xo_nil ?_; (repeat (first | refine xqT ?_ | refine xqB ?_ | refine xqS ?_)); (repeat refine xc_seq ?_); refine xcR ?_)
 refine xo_mv rfl rfl rfl ?_
 refine xo_mv rfl rfl rfl ?_
 refine xo_fa T_ rfl rfl rfl rfl rfl ?_
 refine xo_load0 T_ (b := b2) (wr := true) (cs := scnV n A gs.length c E B ms.length c2) (te := 25) rfl rfl rfl (by repeat first | exact memH | apply memT | apply memA) rfl rfl ?_
 refine xo_call (fs := []) (cs := []) rfl rfl rfl began_enters rfl (fun w1 hw1 => (began_calls (.pointer (some ⟨bs, 0, none⟩)) (.slice B ms.length c2) r w1 rfl rfl).mono ?_)
 rintro e w2 ⟨x1, x2, x3, rfl, hz⟩
 refine ⟨_, _, rfl, hw1.join hz (fun e he => by simp only [List.mem_cons, List.not_mem_nil, or_false] at he; rcases he with rfl | rfl | rfl <;> rfl), ?_⟩
 clear hz hw1
 with_reducible (refine xo_nil ?_; (repeat (first | refine xqT ?_ | refine xqB ?_ | refine xqS ?_)))
 refine xc_sub (η' := [(x2, true, cel [.slice B ms.length c2] 23), (x3, true, cel [.int .i64 (r : Int)] 3), (x1, true, cel [.pointer (some ⟨bs, 0, none⟩)] 74)] ++ (mapH b9 b8 b26 ([], ⟨1, 0⟩) ++ S0.map dfl)) (List.Sublist.append_left (List.Sublist.append_left (List.sublist_append_left _ _) (mapH b9 b8 b26 ([], ⟨1, 0⟩))) _) ?_
 refine xc_know (φ := ∀ e ∈ [b9, b8, b26], e ≠ x1 ∧ e ≠ x2 ∧ e ≠ x3 ∧ w.heap.size ≤ e ∧ ∀ q ∈ S0, q.1 ≠ e) (fun w1 hw1 => ?_) fun hne => ?_
 · have h1 := hw1.nd
   have q8 := hw1.ow (b9, true, cel (spaV ⟨1, 0⟩) 45) (by repeat first | exact memH | apply memT | apply memA) rfl
   have q7 := hw1.ow (b8, true, cel [.map (some b26)] 89) (by repeat first | exact memH | apply memT | apply memA) rfl
   have q6 := hw1.ow (b26, true, hmap (setV [])) (by repeat first | exact memH | apply memT | apply memA) rfl
   simp only [mapH, List.cons_append, List.nil_append, List.map_cons, List.nodup_cons, List.mem_cons, not_or] at h1
   have hS : ∀ q ∈ S0, q.1 ∈ List.map (fun x => x.1) (S0.map dfl) := fun q hq => List.mem_map.2 ⟨dfl q, List.mem_map.2 ⟨q, hq, rfl⟩, rfl⟩
   obtain ⟨⟨a1, a2, a3, a4, a5, a6⟩, ⟨c1, c2, c3, c4, c5⟩, ⟨d1, d2, d3, d4⟩, ⟨e1, e2, e3⟩, ⟨f1, f2⟩, g1, _⟩ := h1
   intro e he
   simp only [List.mem_cons, List.not_mem_nil, or_false] at he
   rcases he with rfl | rfl | rfl
   · exact ⟨fun q => d1 q.symm, fun q => a3 q.symm, fun q => c2 q.symm, q8.resolve_right fun q => q, fun q hq q2 => e3 (by have q3 := hS q hq; rw [q2] at q3; exact q3)⟩
   · exact ⟨fun q => d2 q.symm, fun q => a4 q.symm, fun q => c3 q.symm, q7.resolve_right fun q => q, fun q hq q2 => f2 (by have q3 := hS q hq; rw [q2] at q3; exact q3)⟩
   · exact ⟨fun q => d3 q.symm, fun q => a5 q.symm, fun q => c4 q.symm, q6.resolve_right fun q => q, fun q hq q2 => g1 (by have q3 := hS q hq; rw [q2] at q3; exact q3)⟩
 with_reducible ((repeat refine xc_seq ?_); refine xc_block ?_)
 have hMl := (mar_row hs.marks).lt marV_0
 have hglt := hs.glob.lt
 have hwin : ∀ x ∈ beganL E n gs r ms, 0 ≤ x.2.f0 ∧ x.2.f1 ≤ E ∧ x.2.f0 ≤ x.2.f1 := fun x hx => by
   obtain ⟨_, h2, h3⟩ := beganL_mem.1 hx
   have := winF_in E (farM n gs ((allD gs).getD x.1 []) r) ms
   rw [← h2] at this
   exact ⟨this.1, this.2, h3⟩
 refine xc_rangeO (α := Nat × SpaT) (β := Nat) (γ := List Int × SpaT) (enc := encG) (HA := fun _ => []) (T := fun pr x => ∃ rest, beganL E n gs r ms = pr ++ x :: rest) (S := fun xs => xs = beganL E n gs r ms) rfl began1_enters rfl (fun x => rfl)
   (fun k => k < w.heap.size ∨ k = x1 ∨ k = x2 ∨ k = x3 ∨ k = bs ∨ k = fb) (fun w1 hw1 k hk => ?_) (fun w1 hw1 => ?_)
   (fun pr g => g.1.Nodup ∧ (∀ m, m ∈ g.1 ↔ toldF pr m = true) ∧ ∀ m, g.2.f0 ≤ m → m ≤ g.2.f1 → toldF pr m = true)
   (fun _ g => mapH b9 b8 b26 g ++ S0.map dfl) ([], ⟨1, 0⟩) ⟨List.nodup_nil, fun m => by simp [toldF], fun m h1 h2 => by simp only at h1 h2; omega⟩ ?_ (fun pr g hC e he => ?_) (fun pr g hC e he hwr hk => ?_)
   (fun _ _ _ => False) (fun _ _ _ => []) (fun c pr g hC e he => by cases he)
   (fun x y => [(8, .pointer (some ⟨b8, 0, none⟩)), (9, .pointer (some ⟨b9, 0, none⟩)), (11, .pointer (some ⟨y, 0, none⟩))]) (fun x y => [(y, true, cel (spaV x.2) 45)]) (fun x y e he => by rw [List.mem_singleton.1 he]; exact ⟨rfl, fun o ho => by rw [show o = _ from ho]; rfl⟩) (fun l x V0 => ?_) (fun l pr x y g W hC hT hw0 => ?_) (fun D xs g hxs hC => ?_) (fun D c pr g hCx => hCx.elim)
 · rcases hk with hk | rfl | rfl | rfl | rfl | rfl
   · exact Nat.lt_of_lt_of_le hk hw1.kx.size
   · exact hw1.lt (e := (k, true, cel [.pointer (some ⟨bs, 0, none⟩)] 74)) (by repeat first | exact memH | apply memT | apply memA)
   · exact hw1.lt (e := (k, true, cel [.slice B ms.length c2] 23)) (by repeat first | exact memH | apply memT | apply memA)
   · exact hw1.lt (e := (k, true, cel [.int .i64 (r : Int)] 3)) (by repeat first | exact memH | apply memT | apply memA)
   · exact ((hInW w1 _ hw1 (fun e he => List.mem_append_right _ (List.mem_append_right _ (List.mem_map.2 ⟨e, he, rfl⟩)))).lts hG).1
   · exact ((hInW w1 _ hw1 (fun e he => List.mem_append_right _ (List.mem_append_right _ (List.mem_map.2 ⟨e, he, rfl⟩)))).lts hG).2
 · have hb := hw1.kx.below
   have hSi := hInW w1 _ hw1 (fun e he => List.mem_append_right _ (List.mem_append_right _ (List.mem_map.2 ⟨e, he, rfl⟩)))
   refine began_seq _ n E A B B c ms.length c2 c2 gs ms r x1 x2 x3 bs fb fc _ _ w1 ⟨hn1, hn6⟩ hE6 hG hm8 hmk' (by omega) (hw1.ro (wr := true) (t := 74) (by repeat first | exact memH | apply memT | apply memA)) (hw1.ro (wr := true) (t := 23) (by repeat first | exact memH | apply memT | apply memA)) (hw1.ro (wr := true) (t := 3) (by repeat first | exact memH | apply memT | apply memA)) hSi ((mar_row hs.marks).below hb) (hs.glob.below hb)
     ?_ (.inr (.inl rfl)) (.inr (.inr (.inl rfl))) (.inr (.inr (.inr (.inl rfl)))) (.inr (.inr (.inr (.inr (.inl rfl))))) (.inr (.inr (.inr (.inr (.inr rfl))))) (.inl hglt) (fun h0 ad e => .inl (hMl h0 ad e))
   intro k hk
   rcases hk with hk | rfl | rfl | rfl | rfl | rfl
   · exact Nat.lt_of_lt_of_le hk hw1.kx.size
   · exact hw1.lt (e := (k, true, cel [.pointer (some ⟨bs, 0, none⟩)] 74)) (by repeat first | exact memH | apply memT | apply memA)
   · exact hw1.lt (e := (k, true, cel [.slice B ms.length c2] 23)) (by repeat first | exact memH | apply memT | apply memA)
   · exact hw1.lt (e := (k, true, cel [.int .i64 (r : Int)] 3)) (by repeat first | exact memH | apply memT | apply memA)
   · exact (hSi.lts hG).1
   · exact (hSi.lts hG).2
 · exact List.sublist_append_right _ _
 · simp only [mapH, List.cons_append, List.nil_append, List.mem_cons] at he
   rcases he with rfl | rfl | rfl | he
   · exact .inr ⟨_, List.mem_append_right _ (List.Mem.head _), rfl⟩
   · exact .inr ⟨_, List.mem_append_right _ (List.Mem.tail _ (List.Mem.head _)), rfl⟩
   · exact .inr ⟨_, List.mem_append_right _ (List.Mem.tail _ (List.Mem.tail _ (List.Mem.head _))), rfl⟩
   · exact .inr ⟨e, List.mem_append_right _ (List.mem_append_right _ he), rfl⟩
 · have key : e.1 ∈ [b9, b8, b26] := by
     simp only [mapH, List.cons_append, List.nil_append, List.mem_cons] at he
     rcases he with rfl | rfl | rfl | he
     · simp
     · simp
     · simp
     · obtain ⟨q, _, rfl⟩ := List.mem_map.1 he
       cases hwr
   obtain ⟨n1, n2, n3, n4, n5⟩ := hne _ key
   rcases hk with hk | hk | hk | hk | hk | hk
   · omega
   · exact n1 hk
   · exact n2 hk
   · exact n3 hk
   · exact n5 _ hsite hk.symm
   · exact n5 _ hfarS hk.symm
 · with_reducible repeat refine xc_seq ?_
   with_reducible refine xcR ?_
   refine xo_alloc T_ rfl rfl rfl rfl (fun b11 => ?_)
   refine xo_store T_ rfl rfl rfl rfl (by repeat first | exact memH | apply memT | apply memA) rfl rfl rfl rfl (by repeat (first | exact Upd.head | apply Upd.tail | apply Upd.app)) rfl ?_
   with_reducible (refine xo_nil ?_; (repeat (first | refine xqT ?_ | refine xqB ?_ | refine xqS ?_)))
   exact fun a w1 ha hw1 => ⟨b11, ha.sub ⟨rfl, rfl, rfl, trivial⟩, hw1⟩
 · obtain ⟨rest, hT⟩ := hT
   have hmem : x ∈ beganL E n gs r ms := by rw [hT]; exact List.mem_append_right _ List.mem_cons_self
   obtain ⟨hx1, hx2, hx3⟩ := hwin x hmem
   obtain ⟨hC1, hC2, hC3⟩ := hC
   obtain ⟨ks, last⟩ := g
   simp only at hC1 hC2 hC3
   with_reducible ((repeat refine xc_seq ?_); refine xc_block ?_)
   cases hq : (decide (x.2.f0 = last.f0) && decide (x.2.f1 = last.f1))
   · with_reducible repeat refine xc_seq ?_
     with_reducible refine xcR ?_
     refine xo_loadN T_ rfl rfl rfl (by repeat first | exact memH | apply memT | apply memA) rfl rfl ?_
     refine xo_loadN T_ rfl rfl rfl (by repeat first | exact memH | apply memT | apply memA) rfl rfl ?_
     refine xo_eqlV rfl rfl rfl (fun w => spa_eq _ _ x.2.f0 x.2.f1 last.f0 last.f1 w) rfl ?_
     refine xo_as (i := 37) rfl (congrArg Value.bool hq) ?_
     with_reducible (refine xo_nil ?_; (repeat (first | refine xqT ?_ | refine xqB ?_ | refine xqS ?_)); (repeat refine xc_seq ?_))
     refine xc_condF rfl ?_
     with_reducible (refine xc_skip ?_; (repeat (first | refine xqT ?_ | refine xqB ?_ | refine xqS ?_)); (repeat refine xc_seq ?_); refine xcR ?_)
     refine xo_fa T_ rfl rfl rfl rfl rfl ?_
     refine xo_load0 T_ rfl rfl rfl (by repeat first | exact memH | apply memT | apply memA) rfl rfl ?_
     refine xo_asg rfl rfl rfl ?_
     with_reducible (refine xo_nil ?_; (repeat (first | refine xqT ?_ | refine xqB ?_ | refine xqS ?_)); (repeat refine xc_seq ?_); refine xc_block ?_)
     refine xc_loop (γ := Nat) (fun k => k ≤ (x.2.f1 - x.2.f0 + 1).toNat) (fun k => [(8, .pointer (some ⟨b8, 0, none⟩)), (9, .pointer (some ⟨b9, 0, none⟩)), (11, .pointer (some ⟨y, 0, none⟩)), (12, .int .i64 (x.2.f0 + k))])
       (fun k => (y, true, cel (spaV x.2) 45) :: (mapH b9 b8 b26 (insR ks x.2.f0 k, last) ++ S0.map dfl)) (fun k => (x.2.f1 - x.2.f0 + 1).toNat - k) 0 (Nat.zero_le _) ⟨rfl, rfl, rfl, by rw [Int.natCast_zero, Int.add_zero]; rfl, trivial⟩ (List.Sublist.refl _) ?_
     intro k hk
     with_reducible ((repeat refine xc_seq ?_); refine xcR ?_)
     refine xo_mv rfl rfl rfl ?_
     refine xo_fa T_ rfl rfl rfl rfl rfl ?_
     refine xo_load0 T_ rfl rfl rfl (by repeat first | exact memH | apply memT | apply memA) rfl rfl ?_
     refine xo_leq rfl rfl rfl rfl ?_
     with_reducible (refine xo_nil ?_; (repeat (first | refine xqT ?_ | refine xqB ?_ | refine xqS ?_)); (repeat refine xc_seq ?_))
     refine xc_cond rfl (fun h => ?_) (fun h => ?_)
     · have hlt : k < (x.2.f1 - x.2.f0 + 1).toNat := by have := of_decide_eq_true h; omega
       have hnx : insN (x.2.f0 + k) (insR ks x.2.f0 k) = insR ks x.2.f0 (k + 1) := rfl
       with_reducible (refine xc_skip ?_; (repeat (first | refine xqT ?_ | refine xqB ?_ | refine xqS ?_)); (repeat refine xc_seq ?_); refine xc_block ?_; (repeat refine xc_seq ?_); refine xcR ?_)
       refine xo_load0 T_ rfl rfl rfl (by repeat first | exact memH | apply memT | apply memA) rfl rfl ?_
       refine xo_mv rfl rfl rfl ?_
       refine xo_sins T_ rfl rfl rfl rfl rfl rfl (by repeat first | exact memH | apply memT | apply memA) (by repeat (first | exact Upd.head | apply Upd.tail | apply Upd.app)) rfl ?_
       with_reducible (refine xo_nil ?_; (repeat (first | refine xqT ?_ | refine xqB ?_ | refine xqS ?_)); (repeat refine xc_seq ?_); refine xcR ?_)
       refine xo_mv rfl rfl rfl ?_
       refine xo_add rfl rfl rfl (by omega) rfl ?_
       refine xo_asg rfl rfl rfl ?_
       with_reducible (refine xo_nil ?_; (repeat (first | refine xqT ?_ | refine xqB ?_ | refine xqS ?_)))
       exact xq_again _ _ _ _ _ (k + 1) (by omega) (by omega) ⟨rfl, rfl, rfl, by rw [show x.2.f0 + ((k + 1 : Nat) : Int) = x.2.f0 + k + 1 by omega]; rfl, trivial⟩ (List.Sublist.refl _)
     have hge : k = (x.2.f1 - x.2.f0 + 1).toNat := by have := of_decide_eq_false h; omega
     subst hge
     with_reducible (refine xc_exit ?_; (repeat (first | refine xq_blockX ?_ | refine xq_thenE ?_ | refine xq_blockE rfl ?_ | refine xq_scopeE ?_)); (repeat (first | refine xqT ?_ | refine xqB ?_ | refine xqS ?_)); (repeat refine xc_seq ?_); refine xcR ?_)
     refine xo_loadN T_ rfl rfl rfl (by repeat first | exact memH | apply memT | apply memA) rfl rfl ?_
     refine xo_store T_ rfl rfl rfl rfl (by repeat first | exact memH | apply memT | apply memA) rfl rfl rfl rfl (by repeat (first | exact Upd.head | apply Upd.tail | apply Upd.app)) rfl ?_
     with_reducible (refine xo_nil ?_; (repeat (first | refine xqT ?_ | refine xqB ?_ | refine xqS ?_)))
     intro a w1 ha hw1
     refine ⟨(insR ks x.2.f0 (x.2.f1 - x.2.f0 + 1).toNat, x.2), ⟨insR_nodup _ hC1 _, fun m => ?_, fun m h1 h2 => ?_⟩, hw1.sub (List.sublist_cons_self _ _)⟩
     · rw [mem_insR, hC2 m, told_add, Bool.or_eq_true, Bool.and_eq_true, decide_eq_true_eq, decide_eq_true_eq]
       constructor
       · rintro (h | h)
         · exact .inl h
         · exact .inr (by omega)
       · rintro (h | h)
         · exact .inl h
         · exact .inr (by omega)
     · rw [told_add, Bool.or_eq_true, Bool.and_eq_true, decide_eq_true_eq, decide_eq_true_eq]
       exact .inr ⟨h1, h2⟩
   · have hq' := hq
     rw [Bool.and_eq_true, decide_eq_true_eq, decide_eq_true_eq] at hq'
     with_reducible ((repeat refine xc_seq ?_); refine xcR ?_)
     refine xo_loadN T_ rfl rfl rfl (by repeat first | exact memH | apply memT | apply memA) rfl rfl ?_
     refine xo_loadN T_ rfl rfl rfl (by repeat first | exact memH | apply memT | apply memA) rfl rfl ?_
     refine xo_eqlV rfl rfl rfl (fun w => spa_eq _ _ x.2.f0 x.2.f1 last.f0 last.f1 w) rfl ?_
     refine xo_as (i := 37) rfl (congrArg Value.bool hq) ?_
     with_reducible (refine xo_nil ?_; (repeat (first | refine xqT ?_ | refine xqB ?_ | refine xqS ?_)); (repeat refine xc_seq ?_))
     refine xc_condT rfl ?_
     with_reducible (refine xc_exit ?_; (repeat (first | refine xq_blockX ?_ | refine xq_thenE ?_ | refine xq_blockE rfl ?_ | refine xq_scopeE ?_)))
     intro a w1 ha hw1
     have hold : ∀ m, toldF (pr ++ [x]) m = toldF pr m := fun m => by
       rw [told_add]
       cases ht : toldF pr m
       · rw [Bool.false_or, Bool.and_eq_false_iff, decide_eq_false_iff_not, decide_eq_false_iff_not]
         by_cases h1 : x.2.f0 ≤ m
         · right
           intro h2
           have := hC3 m (by omega) (by omega)
           rw [ht] at this
           cases this
         · exact .inl h1
       · rfl
     exact ⟨(ks, last), ⟨hC1, fun m => by rw [hold]; exact hC2 m, fun m h1 h2 => by rw [hold]; exact hC3 m h1 h2⟩, hw1.sub (List.sublist_cons_self _ _)⟩
 · obtain ⟨hC1, hC2, _⟩ := hC
   obtain ⟨ks, last⟩ := g
   simp only at hC1 hC2
   subst hxs
   have hperm := told_perm hE6.1 hC1 hC2 (fun x hx => ⟨(hwin x hx).1, (hwin x hx).2.1⟩)
   have hsort := sort_told hperm
   have hLl := toldL_len E (beganL E n gs r ms)
   have hLb : ∀ m ∈ toldL E (beganL E n gs r ms), m ≤ 600 := fun m hm => by
     have := List.mem_range.1 (List.mem_filter.1 hm).1
     omega
   have hpl := hperm.length_eq
   generalize toldL E (beganL E n gs r ms) = L at hperm hsort hLl hLb hpl ⊢
   have hil : (intsN L).length = L.length := by simp [intsN]
   with_reducible ((repeat (first | refine xqT ?_ | refine xqB ?_ | refine xqS ?_)); (repeat refine xc_seq ?_); refine xcR ?_)
   refine xo_asg rfl rfl rfl ?_
   with_reducible (refine xo_nil ?_; (repeat (first | refine xqT ?_ | refine xqB ?_ | refine xqS ?_)); (repeat refine xc_seq ?_); refine xcR ?_)
   refine xo_load0 T_ rfl rfl rfl (by repeat first | exact memH | apply memT | apply memA) rfl rfl ?_
   refine xo_call (fs := []) (cs := []) rfl rfl rfl keys_enters rfl (fun w1 hw1 => (keys_calls b26 w1).mono ?_)
   rintro e w2 ⟨BK, rfl, hB1, hB2, hb⟩
   refine ⟨_, _, rfl, hw1.more (φ := cel [.map (some b26)] 89) hb hB1 hB2 rfl, ?_⟩
   clear hB1 hB2 hb hw1
   refine xo_call (fs := []) (cs := []) rfl rfl rfl sorted_enters rfl (fun w1 hw1 => (sorted_calls 77 [.pointer (some ⟨BK, 0, none⟩)] keysIter_enters (fun k => k = BK ∨ k = b26) ks ks.length w1 (iter_keys ks b26 BK w1 (hw1.obj (wr := true) (cs := [.map (some b26)]) (by repeat first | exact memH | apply memT | apply memA)) (hw1.imap (wr := true) (by repeat first | exact memH | apply memT | apply memA))) (fun k hk => hk.elim (fun e => e ▸ hw1.lt (e := (BK, true, cel [.map (some b26)] 89)) (by repeat first | exact memH | apply memT | apply memA)) (fun e => e ▸ hw1.lt (e := (b26, true, hmap (setV ks))) (by repeat first | exact memH | apply memT | apply memA))) (by omega) (by omega)).mono ?_)
   rintro e w2 ⟨r11, rfl, hrw, hb⟩
   rw [hsort] at hrw ⊢
   have h11 := hrw.1
   refine ⟨_, _, rfl, hw1.row hb hrw, ?_⟩
   clear hrw hb hw1
   refine xo_len T_ rfl (show _ = some (Value.slice (valA r11) (intsN L).length (valC r11)) from congrArg some (valR_eq (fun q => by rw [h11 q]; rfl))) rfl rfl ?_
   refine xo_mv rfl rfl rfl ?_
   with_reducible (refine xo_nil ?_; (repeat (first | refine xqT ?_ | refine xqB ?_ | refine xqS ?_)))
   have hr11 : r11 = none → L = [] := fun q => by have := h11 q; simpa [intsN] using this
   refine xc_sub (η' := hpR 3 1 r11 (intsN L).length ((intsN L).map (.int .i64)) ++ [(D, true, hdef)]) (List.Sublist.append_left (List.Sublist.cons _ (List.Sublist.cons_cons _ (List.nil_sublist _))) _) ?_
   rw [hil]
   refine xc_slots [(13, .slice none 0 0), (51, .slice (valA r11) L.length (valC r11)), (52, .int .i64 (L.length : Int)), (53, .int .i64 0)] ⟨rfl, congrArg some (valR_eq (fun q => by rw [hr11 q]; rfl)), rfl, rfl, trivial⟩ ?_
   with_reducible ((repeat refine xc_seq ?_); refine xc_block ?_)
   refine xc_loop (γ := Nat × RowR) (fun g => g.1 ≤ L.length ∧ (g.2 = none → (spansOf (intsN (L.take g.1))).length = 0) ∧ (spansOf (intsN (L.take g.1))).length ≤ g.1) (fun g => [(13, valR g.2 (spansOf (intsN (L.take g.1))).length), (51, .slice (valA r11) L.length (valC r11)), (52, .int .i64 (L.length : Int)), (53, .int .i64 (g.1 : Int))])
     (fun g => hpR 45 2 g.2 (spansOf (intsN (L.take g.1))).length (spaL (spansOf (intsN (L.take g.1)))) ++ (hpR 3 1 r11 L.length ((intsN L).map (.int .i64)) ++ [(D, true, hdef)])) (fun g => L.length - g.1) (0, none) ⟨Nat.zero_le _, fun _ => rfl, Nat.le_refl _⟩ ⟨rfl, rfl, rfl, rfl, trivial⟩ (List.Sublist.refl _) ?_
   rintro ⟨k, rr⟩ ⟨hk, hC1, hC2⟩
   simp only at hk hC1 hC2
   with_reducible ((repeat refine xc_seq ?_); refine xcR ?_)
   refine xo_lss rfl rfl rfl rfl ?_
   with_reducible (refine xo_nil ?_; (repeat (first | refine xqT ?_ | refine xqB ?_ | refine xqS ?_)); (repeat refine xc_seq ?_))
   refine xc_cond rfl (fun h => ?_) (fun h => ?_)
   · have hlt : k < L.length := by have := of_decide_eq_true h; omega
     have hstep : spansOf (intsN (L.take (k + 1))) = grpS (spansOf (intsN (L.take k))) ((L.getD k 0 : Nat) : Int) := by
       unfold spansOf intsN
       have e1 : L.getD k 0 = L[k] := by simp [List.getD_eq_getElem?_getD, List.getElem?_eq_getElem hlt]
       rw [e1, List.take_add_one, List.getElem?_eq_getElem hlt, List.map_append, List.foldl_append]
       rfl
     have hxb := hLb _ (getD_mem L 0 k hlt)
     have hget : ((intsN L).map (Value.int .i64))[k]? = some (.int .i64 ((L.getD k 0 : Nat) : Int)) := by
       have e1 : L.getD k 0 = L[k] := by simp [List.getD_eq_getElem?_getD, List.getElem?_eq_getElem hlt]
       rw [e1]
       unfold intsN
       rw [List.map_map, List.getElem?_map, List.getElem?_eq_getElem hlt]
       rfl
     have hlen1 := grpS_len (spansOf (intsN (L.take k))) ((L.getD k 0 : Nat) : Int)
     rcases r11 with _ | ⟨rb, rcap⟩
     · rw [hr11 rfl] at hlt
       exact absurd hlt (Nat.not_lt_zero _)
     generalize spansOf (intsN (L.take k)) = acc at hC1 hC2 hstep hlen1
     generalize L.getD k 0 = m at hxb hget hstep hlen1
     have hal := spaL_len acc
     with_reducible (refine xc_skip ?_; (repeat (first | refine xqT ?_ | refine xqB ?_ | refine xqS ?_)); (repeat refine xc_seq ?_); refine xc_block ?_; (repeat refine xc_seq ?_); refine xcR ?_)
     refine xo_ia T_ (p := ⟨rb, 0, none⟩) rfl rfl rfl rfl rfl ⟨by omega, by omega⟩ rfl ?_
     refine xo_loadO T_ (k := (k : Int).toNat * szN 0) (v := .int .i64 (m : Int)) rfl rfl rfl (List.mem_append_right _ (List.Mem.head _)) (by rw [show (k : Int).toNat * szN 0 = k by simp [szN]]; exact hget) rfl ?_
     refine xo_asg rfl rfl rfl ?_
     with_reducible (refine xo_nil ?_; (repeat (first | refine xqT ?_ | refine xqB ?_ | refine xqS ?_)))
     cases h0 : decide (0 < (acc.length : Int))
     · have hz : acc.length = 0 := by have := of_decide_eq_false h0; omega
       have hg : grpS acc (m : Int) = acc ++ [⟨m, m⟩] := by rw [grpS, if_neg (by omega)]
       rw [hg] at hstep hlen1
       with_reducible ((repeat refine xc_seq ?_); refine xcR ?_)
       refine xo_mv rfl rfl rfl ?_
       refine xo_len T_ rfl (show _ = some (Value.slice (valA rr) acc.length (valC rr)) from congrArg some (valR_eq hC1)) rfl rfl ?_
       refine xo_asg rfl rfl rfl ?_
       with_reducible (refine xo_nil ?_; (repeat (first | refine xqT ?_ | refine xqB ?_ | refine xqS ?_)); (repeat refine xc_seq ?_); refine xcR ?_)
       refine xo_mv rfl rfl rfl ?_
       refine xo_gtr rfl rfl rfl rfl ?_
       refine xo_as (i := 60) rfl (congrArg Value.bool h0) ?_
       refine xo_mv rfl rfl rfl ?_
       (first | refine xo_not rfl rfl ?_ | (refine xo_mv rfl rfl rfl ?_))
       (first | refine xo_not rfl rfl ?_ | (refine xo_mv rfl rfl rfl ?_))
       (first | refine xo_not rfl rfl ?_ | (refine xo_sub rfl rfl rfl (by omega) rfl ?_))
       (first | refine xo_not rfl rfl ?_ | (refine xo_ia T_ rfl rfl rfl rfl rfl ⟨by omega, by omega⟩ rfl ?_))
       (first | refine xo_not rfl rfl ?_ | (refine xo_faR T_ rfl rfl rfl rfl rfl ?_))
       (first | refine xo_not rfl rfl ?_ | (refine xo_loadR0 T_ rfl rfl rfl (by first | assumption | exact RO.fld (by assumption) rfl) rfl ?_))
       (first | refine xo_not rfl rfl ?_ | (refine xo_mv rfl rfl rfl ?_))
       (first | refine xo_not rfl rfl ?_ | (refine xo_sub rfl rfl rfl (by omega) rfl ?_))
       (first | refine xo_not rfl rfl ?_ | (refine xo_eql rfl rfl rfl rfl ?_))
       first | refine xo_pickT rfl rfl rfl rfl ?_ | refine xo_pickF rfl rfl rfl rfl ?_
       with_reducible (refine xo_nil ?_; (repeat (first | refine xqT ?_ | refine xqB ?_ | refine xqS ?_)); (repeat refine xc_seq ?_))
       refine xc_condF rfl ?_
       with_reducible (refine xc_skip ?_; (repeat (first | refine xqT ?_ | refine xqB ?_ | refine xqS ?_)); (repeat refine xc_seq ?_); refine xcR ?_)
       refine xo_mv rfl rfl rfl ?_
       refine xo_mv rfl rfl rfl ?_
       refine xo_mv rfl rfl rfl ?_
       refine xo_build TB_ rfl rfl rfl rfl rfl ?_
       refine xo_bsG T_ 2 rfl rfl rfl rfl rfl rfl rfl rfl rfl rfl (fun b82 => ?_)
       refine xo_app TR_ (xs := spaL acc) rfl rfl rfl rfl rfl rfl rfl rfl hal rfl rfl hC1 (by omega) rfl rfl (fun r' hr' => ?_)
       refine xo_asg rfl rfl rfl ?_
       with_reducible (refine xo_nil ?_; (repeat (first | refine xqT ?_ | refine xqB ?_ | refine xqS ?_)); (repeat refine xc_seq ?_); refine xcR ?_)
       refine xo_add rfl rfl rfl (by omega) rfl ?_
       refine xo_mv rfl rfl rfl ?_
       with_reducible (refine xo_nil ?_; (repeat (first | refine xqT ?_ | refine xqB ?_ | refine xqS ?_)))
       refine xq_again _ _ _ _ _ (k + 1, r') ⟨hlt, fun q => absurd q hr', by rw [hstep]; simp; omega⟩ (by simp only; omega) ⟨by rw [hstep, List.length_append]; rfl, rfl, rfl, rfl, trivial⟩ (by rw [hstep, List.length_append, spaL_app]; exact List.Sublist.refl _)
     have hz : 0 < acc.length := by have := of_decide_eq_true h0; omega
     rcases rr with _ | ⟨sb, scap⟩
     · have := hC1 rfl
       omega
     have hlast : (spaL acc)[(acc.length - 1) * 2 + 1]? = some (.int .i64 (acc.getD (acc.length - 1) zSpa).f1) := spaL_at acc (acc.length - 1) (by omega) 1 (by omega)
     cases hq : decide ((acc.getD (acc.length - 1) zSpa).f1 = (m : Int) - 1)
     · have hg : grpS acc (m : Int) = acc ++ [⟨m, m⟩] := by rw [grpS, if_neg (fun q => absurd q.2 (of_decide_eq_false hq))]
       rw [hg] at hstep hlen1
       with_reducible ((repeat refine xc_seq ?_); refine xcR ?_)
       refine xo_mv rfl rfl rfl ?_
       refine xo_len T_ rfl rfl rfl rfl ?_
       refine xo_asg rfl rfl rfl ?_
       with_reducible (refine xo_nil ?_; (repeat (first | refine xqT ?_ | refine xqB ?_ | refine xqS ?_)); (repeat refine xc_seq ?_); refine xcR ?_)
       refine xo_mv rfl rfl rfl ?_
       refine xo_gtr rfl rfl rfl rfl ?_
       refine xo_as (i := 60) rfl (congrArg Value.bool h0) ?_
       refine xo_mv rfl rfl rfl ?_
       (first | refine xo_not rfl rfl ?_ | (refine xo_mv rfl rfl rfl ?_))
       (first | refine xo_not rfl rfl ?_ | (refine xo_mv rfl rfl rfl ?_))
       (first | refine xo_not rfl rfl ?_ | (refine xo_sub rfl rfl rfl (by omega) rfl ?_))
       (first | refine xo_not rfl rfl ?_ | (refine xo_ia T_ rfl rfl rfl rfl rfl ⟨by omega, by omega⟩ rfl ?_))
       (first | refine xo_not rfl rfl ?_ | (refine xo_faR T_ rfl rfl rfl rfl rfl ?_))
       (first | refine xo_not rfl rfl ?_ | (refine xo_loadZ T_ (v := .int .i64 (acc.getD (acc.length - 1) zSpa).f1) rfl rfl rfl (ad_last sb acc.length 1 hz) (List.Mem.head _) hlast rfl ?_))
       (first | refine xo_not rfl rfl ?_ | (refine xo_mv rfl rfl rfl ?_))
       (first | refine xo_not rfl rfl ?_ | (refine xo_sub rfl rfl rfl (by omega) rfl ?_))
       (first | refine xo_not rfl rfl ?_ | (refine xo_eql rfl rfl rfl rfl ?_))
       refine xo_as (i := 70) rfl (congrArg Value.bool hq) ?_
       first | refine xo_pickT rfl rfl rfl rfl ?_ | refine xo_pickF rfl rfl rfl rfl ?_
       with_reducible (refine xo_nil ?_; (repeat (first | refine xqT ?_ | refine xqB ?_ | refine xqS ?_)); (repeat refine xc_seq ?_))
       refine xc_condF rfl ?_
       with_reducible (refine xc_skip ?_; (repeat (first | refine xqT ?_ | refine xqB ?_ | refine xqS ?_)); (repeat refine xc_seq ?_); refine xcR ?_)
       refine xo_mv rfl rfl rfl ?_
       refine xo_mv rfl rfl rfl ?_
       refine xo_mv rfl rfl rfl ?_
       refine xo_build TB_ rfl rfl rfl rfl rfl ?_
       refine xo_bsG T_ 2 rfl rfl rfl rfl rfl rfl rfl rfl rfl rfl (fun b82 => ?_)
       refine xo_app TR_ (r := some (sb, scap)) (xs := spaL acc) rfl rfl rfl rfl rfl rfl rfl rfl hal rfl rfl hC1 (by omega) rfl rfl (fun r' hr' => ?_)
       refine xo_asg rfl rfl rfl ?_
       with_reducible (refine xo_nil ?_; (repeat (first | refine xqT ?_ | refine xqB ?_ | refine xqS ?_)); (repeat refine xc_seq ?_); refine xcR ?_)
       refine xo_add rfl rfl rfl (by omega) rfl ?_
       refine xo_mv rfl rfl rfl ?_
       with_reducible (refine xo_nil ?_; (repeat (first | refine xqT ?_ | refine xqB ?_ | refine xqS ?_)))
       refine xq_again _ _ _ _ _ (k + 1, r') ⟨hlt, fun q => absurd q hr', by rw [hstep]; simp; omega⟩ (by simp only; omega) ⟨by rw [hstep, List.length_append]; rfl, rfl, rfl, rfl, trivial⟩ (by rw [hstep, List.length_append, spaL_app]; exact List.Sublist.refl _)
     · have hg : grpS acc (m : Int) = acc.set (acc.length - 1) ⟨(acc.getD (acc.length - 1) zSpa).f0, m⟩ := by rw [grpS, if_pos ⟨hz, of_decide_eq_true hq⟩]
       have hset := spaL_set acc (acc.length - 1) (by omega) (m : Int)
       rw [← hg] at hset
       have hgl : (grpS acc (m : Int)).length = acc.length := by rw [hg, List.length_set]
       with_reducible ((repeat refine xc_seq ?_); refine xcR ?_)
       refine xo_mv rfl rfl rfl ?_
       refine xo_len T_ rfl rfl rfl rfl ?_
       refine xo_asg rfl rfl rfl ?_
       with_reducible (refine xo_nil ?_; (repeat (first | refine xqT ?_ | refine xqB ?_ | refine xqS ?_)); (repeat refine xc_seq ?_); refine xcR ?_)
       refine xo_mv rfl rfl rfl ?_
       refine xo_gtr rfl rfl rfl rfl ?_
       refine xo_as (i := 60) rfl (congrArg Value.bool h0) ?_
       refine xo_mv rfl rfl rfl ?_
       (first | refine xo_not rfl rfl ?_ | (refine xo_mv rfl rfl rfl ?_))
       (first | refine xo_not rfl rfl ?_ | (refine xo_mv rfl rfl rfl ?_))
       (first | refine xo_not rfl rfl ?_ | (refine xo_sub rfl rfl rfl (by omega) rfl ?_))
       (first | refine xo_not rfl rfl ?_ | (refine xo_ia T_ rfl rfl rfl rfl rfl ⟨by omega, by omega⟩ rfl ?_))
       (first | refine xo_not rfl rfl ?_ | (refine xo_faR T_ rfl rfl rfl rfl rfl ?_))
       (first | refine xo_not rfl rfl ?_ | (refine xo_loadZ T_ (v := .int .i64 (acc.getD (acc.length - 1) zSpa).f1) rfl rfl rfl (ad_last sb acc.length 1 hz) (List.Mem.head _) hlast rfl ?_))
       (first | refine xo_not rfl rfl ?_ | (refine xo_mv rfl rfl rfl ?_))
       (first | refine xo_not rfl rfl ?_ | (refine xo_sub rfl rfl rfl (by omega) rfl ?_))
       (first | refine xo_not rfl rfl ?_ | (refine xo_eql rfl rfl rfl rfl ?_))
       refine xo_as (i := 70) rfl (congrArg Value.bool hq) ?_
       first | refine xo_pickT rfl rfl rfl rfl ?_ | refine xo_pickF rfl rfl rfl rfl ?_
       with_reducible (refine xo_nil ?_; (repeat (first | refine xqT ?_ | refine xqB ?_ | refine xqS ?_)); (repeat refine xc_seq ?_))
       refine xc_condT rfl ?_
       with_reducible ((repeat refine xc_seq ?_); refine xcR ?_)
       refine xo_mv rfl rfl rfl ?_
       refine xo_mv rfl rfl rfl ?_
       refine xo_sub rfl rfl rfl (by omega) rfl ?_
       refine xo_mv rfl rfl rfl ?_
       refine xo_ia T_ rfl rfl rfl rfl rfl ⟨by omega, by omega⟩ rfl ?_
       refine xo_faR T_ rfl rfl rfl rfl rfl ?_
       refine xo_storeZ T_ (η' := (sb, true, orow 45 2 acc.length scap (spaL (grpS acc (m : Int)))) :: (hpR 3 1 (some (rb, rcap)) L.length ((intsN L).map (.int .i64)) ++ [(D, true, hdef)])) rfl rfl rfl (ad_last sb acc.length 1 hz) rfl (List.Mem.head _) rfl rfl (by omega) (by rw [hset]; exact (by repeat (first | exact Upd.head | apply Upd.tail | apply Upd.app))) rfl ?_
       with_reducible (refine xo_nil ?_; (repeat (first | refine xqT ?_ | refine xqB ?_ | refine xqS ?_)); refine xc_exit ?_; (repeat (first | refine xq_blockX ?_ | refine xq_thenE ?_ | refine xq_blockE rfl ?_ | refine xq_scopeE ?_)); (repeat (first | refine xqT ?_ | refine xqB ?_ | refine xqS ?_)); (repeat refine xc_seq ?_); refine xcR ?_)
       refine xo_add rfl rfl rfl (by omega) rfl ?_
       refine xo_mv rfl rfl rfl ?_
       with_reducible (refine xo_nil ?_; (repeat (first | refine xqT ?_ | refine xqB ?_ | refine xqS ?_)))
       refine xq_again _ _ _ _ _ (k + 1, some (sb, scap)) ⟨hlt, fun q => (by cases q), by rw [hstep, hgl]; omega⟩ (by simp only; omega) ⟨by rw [hstep, hgl]; rfl, rfl, rfl, rfl, trivial⟩ (by rw [hstep, hgl]; exact List.Sublist.refl _)
   have hge : k = L.length := by have := of_decide_eq_false h; omega
   subst hge
   rw [List.take_of_length_le (Nat.le_refl _)] at hC1 ⊢
   with_reducible (refine xc_exit ?_; (repeat (first | refine xq_blockX ?_ | refine xq_thenE ?_ | refine xq_blockE rfl ?_ | refine xq_scopeE ?_)); (repeat (first | refine xqT ?_ | refine xqB ?_ | refine xqS ?_)); (repeat refine xc_seq ?_); refine xcR ?_)
   refine xo_mv rfl rfl rfl ?_
   refine xo_asg rfl rfl rfl ?_
   refine xo_asg rfl rfl rfl ?_
   with_reducible (refine xo_nil ?_; (repeat (first | refine xqT ?_ | refine xqB ?_ | refine xqS ?_)); (repeat refine xc_seq ?_); refine xc_ret ?_; (repeat (first | refine xq_thenR ?_ | refine xq_blockR ?_ | refine xq_scopeR ?_)))
   refine xq_perm (List.perm_append_comm_assoc _ _ _) (xq_sub (η' := _) (List.sublist_append_right _ _) (xq_perm (List.perm_append_singleton _ _) (xq_ofM [D] (xq_ret2 rfl rfl rfl fun w' hw => ⟨rr, rfl, RowZ.of (η := []) (by rw [List.append_nil]; exact hw) hC1, hw.kx.below⟩))))
theorem Minutes_enters : ∀ args w, (callFunc 22 args).run Tryz.prog w = .ok (.enter 22 args) w := enters_of Tryz.func22 (by kernel_rfl) rfl
def bitN (s i : Nat) : Bool := decide (((s / 2 ^ i % 2 : Nat) : Int) = 1)
/-- the marks of a set -/
def chosenL (s : Nat) (ms : List MarT) : Nat → List MarT
 | 0 => []
 | k + 1 => if bitN s k = true then chosenL s ms k ++ [ms.getD k zMar] else chosenL s ms k
def setOf (ms : List MarT) (s : Nat) : List MarT := chosenL s ms ms.length
theorem chosenL_len (s : Nat) (ms : List MarT) : ∀ k, (chosenL s ms k).length ≤ k
 | 0 => Nat.le_refl _
 | k + 1 => by
   have := chosenL_len s ms k
   unfold chosenL
   split
   · simp; omega
   · omega
theorem chosenL_mem (s : Nat) (ms : List MarT) : ∀ k, k ≤ ms.length → ∀ m ∈ chosenL s ms k, m ∈ ms
 | 0, _, m, hm => by cases hm
 | k + 1, hk, m, hm => by
   unfold chosenL at hm
   split at hm
   · rcases List.mem_append.1 hm with hm | hm
     · exact chosenL_mem s ms k (by omega) m hm
     · rw [List.mem_singleton.1 hm]; exact getD_mem ms zMar k (by omega)
   · exact chosenL_mem s ms k (by omega) m hm
def idsL (l : List MarT) : List Int := l.map (·.f0)
/-! ### the order -/
theorem cmpL_irr : ∀ x : List MarT, cmpL x x = 0
 | [] => rfl
 | x :: xs => by rw [cmpL, if_pos (by omega)]; exact cmpL_irr xs
theorem cmpL_trans : ∀ x y z : List MarT, cmpL x y < 0 → cmpL y z < 0 → cmpL x z < 0
 | [], [], z, h, _ => by simp [cmpL] at h
 | [], _ :: _, [], _, h => by simp [cmpL] at h
 | [], _ :: _, _ :: _, _, _ => by simp [cmpL]
 | _ :: _, [], _, h, _ => by simp [cmpL] at h
 | _ :: _, _ :: _, [], _, h => by simp [cmpL] at h
 | x :: xs, y :: ys, z :: zs, h1, h2 => by
   rw [cmpL] at h1 h2 ⊢
   have ih := cmpL_trans xs ys zs
   split at h1 <;> split at h2 <;> split <;> first | omega | exact ih h1 h2
theorem cmpL_ntrans : ∀ x y z : List MarT, ¬ cmpL x y < 0 → ¬ cmpL y z < 0 → ¬ cmpL x z < 0
 | [], [], z, _, h => h
 | [], _ :: _, _, h, _ => by simp [cmpL] at h
 | _ :: _, [], [], _, _ => by simp [cmpL]
 | _ :: _, [], _ :: _, _, h => by simp [cmpL] at h
 | _ :: _, _ :: _, [], _, _ => by simp [cmpL]
 | x :: xs, y :: ys, z :: zs, h1, h2 => by
   rw [cmpL] at h1 h2 ⊢
   have ih := cmpL_ntrans xs ys zs
   split at h1 <;> split at h2 <;> split <;> first | omega | exact ih h1 h2
theorem cmpL_ids : ∀ x y : List MarT, ¬ cmpL x y < 0 → ¬ cmpL y x < 0 → idsL x = idsL y
 | [], [], _, _ => rfl
 | [], _ :: _, h, _ => by simp [cmpL] at h
 | _ :: _, [], _, h => by simp [cmpL] at h
 | x :: xs, y :: ys, h1, h2 => by
   rw [cmpL] at h1 h2
   have ih := cmpL_ids xs ys
   by_cases e : x.f0 = y.f0
   · rw [if_pos (by omega)] at h1 h2
     simp only [idsL, List.map_cons] at ih ⊢
     rw [e, ih h1 h2]
   · rw [if_neg (by omega)] at h1 h2
     omega
theorem cmpS_irr (x : List MarT) : ¬ cmpS x x < 0 := by rw [cmpS, if_pos rfl, cmpL_irr]; omega
theorem cmpS_trans (x y z : List MarT) (h1 : cmpS x y < 0) (h2 : cmpS y z < 0) : cmpS x z < 0 := by
 have t := cmpL_trans x y z
 unfold cmpS at *
 split at h1 <;> split at h2 <;> split <;> first | omega | exact t h1 h2
theorem cmpS_ntrans (x y z : List MarT) (h1 : ¬ cmpS x y < 0) (h2 : ¬ cmpS y z < 0) : ¬ cmpS x z < 0 := by
 have t := cmpL_ntrans x y z
 unfold cmpS at *
 split at h1 <;> split at h2 <;> split <;> first | omega | exact t h1 h2
theorem cmpS_ids (x y : List MarT) (h1 : ¬ cmpS x y < 0) (h2 : ¬ cmpS y x < 0) : idsL x = idsL y := by
 have t := cmpL_ids x y
 unfold cmpS at *
 split at h1 <;> split at h2 <;> first | omega | exact t h1 h2
/-! ### the least of which something is so -/
def bestF (p : List MarT → Bool) (b : Option (List MarT)) (l : List MarT) : Option (List MarT) := if p l = true then (match b with
 | none => some l
 | some q => if cmpS l q < 0 then some l else some q) else b
def bestL (p : List MarT → Bool) (ls : List (List MarT)) : Option (List MarT) := ls.foldl (bestF p) none
theorem best_spec (p : List MarT → Bool) : ∀ (ls : List (List MarT)) (b0 : Option (List MarT)), (∀ q, b0 = some q → p q = true) →
   (ls.foldl (bestF p) b0 = none ∧ b0 = none ∧ ∀ l ∈ ls, p l = false) ∨ ∃ q, ls.foldl (bestF p) b0 = some q ∧ p q = true ∧ (q ∈ ls ∨ b0 = some q) ∧ (∀ l ∈ ls, p l = true → ¬ cmpS l q < 0) ∧ (∀ r, b0 = some r → ¬ cmpS r q < 0)
 | [], b0, h0 => by
   cases b0 with
   | none => exact .inl ⟨rfl, rfl, fun l hl => by cases hl⟩
   | some q => exact .inr ⟨q, rfl, h0 q rfl, .inr rfl, (fun l hl => by cases hl), fun r hr => by cases hr; exact cmpS_irr q⟩
 | l :: ls, b0, h0 => by
   rw [List.foldl_cons]
   cases hp : p l
   · have e : bestF p b0 l = b0 := by unfold bestF; rw [if_neg (by rw [hp]; exact Bool.false_ne_true)]
     rw [e]
     rcases best_spec p ls b0 h0 with ⟨h1, h2, h3⟩ | ⟨q, h1, h2, h3, h4, h5⟩
     · exact .inl ⟨h1, h2, fun x hx => by rcases List.mem_cons.1 hx with rfl | hx; exact hp; exact h3 x hx⟩
     · exact .inr ⟨q, h1, h2, h3.imp_left (List.mem_cons_of_mem _), (fun x hx => by rcases List.mem_cons.1 hx with rfl | hx; exact fun h => absurd (h.symm.trans hp) (by decide); exact h4 x hx), h5⟩
   · have e : ∃ r, bestF p b0 l = some r ∧ (r = l ∨ b0 = some r) ∧ ¬ cmpS l r < 0 ∧ ∀ s, b0 = some s → ¬ cmpS s r < 0 := by
       unfold bestF
       rw [if_pos hp]
       cases b0 with
       | none => exact ⟨l, rfl, .inl rfl, cmpS_irr l, fun s hs => by cases hs⟩
       | some q =>
         simp only
         split
         · rename_i hlt
           exact ⟨l, rfl, .inl rfl, cmpS_irr l, fun s hs => by cases hs; exact fun h => cmpS_irr _ (cmpS_trans _ _ _ hlt h)⟩
         · rename_i hge
           exact ⟨q, rfl, .inr rfl, hge, fun s hs => by cases hs; exact cmpS_irr q⟩
     obtain ⟨r, e1, e2, e3, e4⟩ := e
     rw [e1]
     have hr : p r = true := by
       rcases e2 with rfl | e2
       · exact hp
       · exact h0 r e2
     rcases best_spec p ls (some r) (fun q hq => by cases hq; exact hr) with ⟨_, h2, _⟩ | ⟨q, h1, h2, h3, h4, h5⟩
     · cases h2
     · have hrq := h5 r rfl
       refine .inr ⟨q, h1, h2, ?_, (fun x hx => ?_), fun s hs => cmpS_ntrans _ _ _ (e4 s hs) hrq⟩
       · rcases h3 with h3 | h3
         · exact .inl (List.mem_cons_of_mem _ h3)
         · cases h3
           rcases e2 with rfl | e2
           · exact .inl List.mem_cons_self
           · exact .inr e2
       · rcases List.mem_cons.1 hx with rfl | hx
         · exact fun _ => cmpS_ntrans _ _ _ e3 hrq
         · exact h4 x hx
/-- the numbers of the fewest marks of which something is so -/
def fewestL (p : List MarT → Bool) (ls : List (List MarT)) : List Int := match bestL p ls with
 | none => []
 | some q => idsL q
/-- the first of what is sorted -/
theorem first_best (p : List MarT → Bool) {ls ys : List (List MarT)} (hp : ys.Perm ls) (hs : ys.Pairwise fun x y => ¬ cmpS y x < 0) : (match ys.find? p with | none => [] | some q => idsL q) = fewestL p ls := by
 unfold fewestL bestL
 rcases best_spec p ls none (fun q hq => by cases hq) with ⟨h1, _, h3⟩ | ⟨q, h1, h2, h3, h4, _⟩
 · rw [h1, List.find?_eq_none.2 (fun x hx => by rw [h3 x (hp.mem_iff.1 hx)]; exact Bool.false_ne_true)]
 · rw [h1]
   have hq : q ∈ ys := hp.mem_iff.2 (h3.resolve_right fun x => by cases x)
   cases hf : ys.find? p with
   | none =>
     rw [List.find?_eq_none] at hf
     exact absurd h2 (hf q hq)
   | some r =>
     simp only
     obtain ⟨hr, l1, l2, rfl, hno⟩ := List.find?_eq_some_iff_append.1 hf
     refine cmpS_ids r q (h4 r (hp.mem_iff.1 (by simp)) hr) ?_
     -- q lies behind r, or is r
     rw [List.pairwise_append] at hs
     rcases List.mem_append.1 hq with hq | hq
     · have := hno q hq
       rw [h2] at this
       cases this
     · rcases List.mem_cons.1 hq with rfl | hq
       · exact cmpS_irr q
       · exact (List.pairwise_cons.1 hs.2.1).1 q hq
/-! ### the sort -/
structure SetV where
 A : Option Addr
 C : Nat
 l : List MarT
def setS (x : SetV) : Value := .slice x.A x.l.length x.C
def SetOK (b : Nat) (w : World) (x : SetV) : Prop := RowOf marV 7 zMar w x.A x.l ∧ IdsOK x.l ∧ (0 < x.l.length → ∀ ad, x.A = some ad → ad.block ≠ b)
theorem take_putCellsG {α : Type} [Inhabited α] (enc : α → Value) (cur : Array Value) (ts : List α) (h : ts.length ≤ cur.size) : (Sort.putCells enc 0 ts.toArray cur).toList.take ts.length = ts.map enc := by
 apply List.ext_getElem?
 intro j
 by_cases hj : j < ts.length
 · rw [List.getElem?_take_of_lt hj, Array.getElem?_toList]
   simp [Sort.putCells, hj, show j < cur.size by omega]
 · rw [List.getElem?_take_eq_none (by omega), List.getElem?_eq_none (by simp; omega)]
theorem sortWorld_grown {α : Type} [Inhabited α] (enc : α → Value) {w : World} {g n : Nat} {os : Array Obj} (d : Array α) : w.grownBy (sortWorld enc w g 0 n d os) (some g) := by
 unfold sortWorld
 refine ⟨rfl, rfl, rfl, by simp, fun k hk hne => ?_⟩
 rw [Sort.heap_grow_old _ _ (by simpa using hk)]
 have : g ≠ k := fun e => hne (by rw [e])
 simp [Sort.putRow, Sort.mapBlock, Sort.ahead, Array.getElem?_modify, this]
theorem sortWorld_at {α : Type} [Inhabited α] (enc : α → Value) {w : World} {g n : Nat} {os : Array Obj} {cur : Array Value} {e : TypeId} {fr : Nat × Nat} (d : Array α) (hb : w.heap[g]? = some (.cells cur e fr)) : (sortWorld enc w g 0 n d os).heap[g]? = some (.cells (Sort.putCells enc 0 d cur) e fr) := by
 unfold sortWorld
 have hg : g < w.heap.size := (Array.getElem?_eq_some_iff.1 hb).1
 rw [Sort.heap_grow_old _ _ (by simpa using hg)]
 simp [Sort.putRow, Sort.mapBlock, Sort.ahead, Array.getElem?_modify, hb, Sort.onCells]
theorem sortSets_enters : ∀ args w, (callFunc 60 args).run Tryz.prog w = .ok (.enter 60 args) w := enters_of Tryz.func60 (by kernel_rfl) rfl
theorem sortSets_calls (b cap B : Nat) (xs : List SetV) (w : World) (o : Obj) (h1 : w.heap[b]? = some o) (h2 : orow 23 1 xs.length cap (xs.map setS) o) (hx : ∀ x ∈ xs, SetOK b w x) (hl : xs.length ≤ 1000000) (hB : RO w XNone ⟨B, 0, none⟩ [.func (.func 59) #[] #[]]) (hne : B ≠ b) :
   Calls Tryz.prog 60 #[.slice (some ⟨b, 0, none⟩) xs.length cap, .func (.func 61) #[] #[.pointer (some ⟨B, 0, none⟩)]] w fun e w' => e = .returned (.tuple #[]) ∧ Kx (fun k => k = b) w w' ∧ ∃ ys : List SetV, ys.Perm xs ∧ (ys.map (·.l)).Pairwise (fun x y => ¬ cmpS y x < 0) ∧ ∃ o', w'.heap[b]? = some o' ∧ orow 23 1 xs.length cap (ys.map setS) o' := by
 obtain ⟨cur, rfl, h5, h6, h7, h8⟩ := h2
 rw [Nat.mul_one] at h7 h8
 have hlt : b < w.heap.size := (Array.getElem?_eq_some_iff.1 h1).1
 letI : Inhabited {x : SetV // SetOK b w x} := ⟨⟨⟨none, 0, []⟩, fun k hk => absurd hk (Nat.not_lt_zero _), ⟨Nat.zero_le _, fun m hm => by cases hm⟩, fun h => absurd h (Nat.not_lt_zero _)⟩⟩
 let enc : {x : SetV // SetOK b w x} → Value := fun x => setS x.1
 let cf : {x : SetV // SetOK b w x} → {x : SetV // SetOK b w x} → Int := fun x y => cmpS x.1.l y.1.l
 let d : List {x : SetV // SetOK b w x} := xs.attach.map fun x => ⟨x.1, hx x.1 x.2⟩
 have hd : d.map (·.1) = xs := by simp [d]
 have hdl : d.length = xs.length := by simp [d]
 have hde : d.map enc = xs.map setS := by
   have := congrArg (List.map setS) hd
   rw [List.map_map] at this
   exact this
 have hO : Sort.SWO (ltOf cf) := ⟨fun x => by simpa [ltOf, cf] using cmpS_irr x.1.l, fun x y z h1 h2 => by simp only [ltOf, decide_eq_true_eq] at *; exact cmpS_trans _ _ _ h1 h2, fun x y z h1 h2 => by simp only [ltOf, decide_eq_false_iff_not] at *; exact cmpS_ntrans _ _ _ h1 h2⟩
 have hH : Sort.Holds enc w b 0 d.toArray := by
   intro j hj
   have hj' : j < d.length := by simpa using hj
   refine ⟨?_, by simp [World.frozen?, h1]⟩
   have h9 : (cur.toList.take xs.length)[j]? = (d.map enc)[j]? := by rw [h8, hde]
   rw [List.getElem?_take_of_lt (by omega)] at h9
   simp only [World.cell?, h1, Nat.zero_add]
   simp only [Option.isSome_none, Bool.false_eq_true, if_false]
   rw [← Array.getElem?_toList, h9]
   simp [hj']
 have hcmp : CmpLays1 Tryz.prog 61 #[.pointer (some ⟨B, 0, none⟩)] enc cf b 0 d.toArray.size w := by
   intro m os dk hs x y
   have hg := sortWorld_grown enc (w := w) (g := b) (n := m) (os := os) dk
   have hkeep : ∀ k, (k ≠ b ∧ k < w.heap.size) → (sortWorld enc w b 0 m dk os).heap[k]? = w.heap[k]? := fun k hk => hg.block k hk.2 (fun q => hk.1 (Option.some.inj q))
   have hrow : ∀ x : {x : SetV // SetOK b w x}, RowOf marV 7 zMar (sortWorld enc w b 0 m dk os) x.1.A x.1.l := fun x => x.2.1.keep (fun k => k ≠ b ∧ k < w.heap.size) (fun h ad e => ⟨x.2.2.2 h ad e, x.2.1.lt marV_0 h ad e⟩) hkeep
   exact Q.fewer_calls x.1.A y.1.A x.1.C y.1.C x.1.l y.1.l B _ x.2.2.1 y.2.2.1 (hrow x) (hrow y) (RO.blk hB (hkeep B ⟨hne, hB.lt⟩))
 have hc := Any.slices_SortFunc laysF enc (fun _ => rfl) cf hO 61 #[.pointer (some ⟨B, 0, none⟩)] b 0 cap d.toArray w Q.fewer_enters hcmp hH hlt (by simp [d]; omega)
 rw [show d.toArray.size = xs.length by simp [d]] at hc
 refine Calls.mono (show Calls Tryz.prog 60 _ _ _ from hc) ?_
 rintro e w' ⟨rfl, d', n, os, hp, hsd, rfl⟩
 have hg := sortWorld_grown enc (w := w) (g := b) (n := n) (os := os) d'
 have hsz : d'.size = xs.length := by rw [hp.1]; simp [d]
 have hperm : d'.toList.Perm d := by
   have := hp.2.2
   rw [Array.extract_eq_self_of_le (by omega), Array.extract_eq_self_of_le (by simp [d])] at this
   simpa using this
 refine ⟨rfl, ⟨hg.os, hg.tape, hg.output, hg.size, fun k hk hne => hg.block k hk (fun q => hne (Option.some.inj q))⟩, d'.toList.map (·.1), ?_, ?_, _, sortWorld_at enc d' h1, _, rfl, h5, h6, ?_, ?_⟩
 · rw [← hd]; exact hperm.map _
 · rw [List.map_map, List.pairwise_map, List.pairwise_iff_getElem]
   intro i j hi hj hij
   have h := hsd i j (Nat.zero_le _) hij (by simpa [hsz] using hj)
   simp only [ltOf, decide_eq_false_iff_not] at h
   have hi' : i < d'.size := by simpa using hi
   have hj' : j < d'.size := by simpa using hj
   rw [getElem!_pos d' i hi', getElem!_pos d' j hj'] at h
   simpa using h
 · rw [Nat.mul_one, ← h7]
   simp [Sort.putCells]
 · rw [Nat.mul_one, List.map_map]
   have := take_putCellsG enc cur d'.toList (by simp; omega)
   rw [Array.length_toList, hsz, Array.toArray_toList] at this
   exact this
section
variable {P : Program} {ro : Option Nat} {n N : Nat} {ds : List Deferred} {w0 : World} {X : Nat → Prop} {Q : Exit → Act → World → Prop} {σ : Slots} {η : Hp} {ops rest : List Oper}
theorem xo_less {η' : Hp} (hs : List.Sublist η' η) (h : XO P ro n N ds w0 X Q ops σ η' rest) : XO P ro n N ds w0 X Q ops σ η rest := fun a w ha hw => h a w ha (hw.sub hs)
/-- from this world on -/
theorem xc_anew {c : Code} (h : ∀ w, WOK w0 X η w → XC P ro n N ds w XNone Q σ [] c) : XC P ro n N ds w0 X Q σ η c := fun a w ha hw => h w hw a w ha (WOK.start XNone w)
end
def marL (l : List MarT) : List Value := (l.map marV).flatten
theorem marL_len (l : List MarT) : (marL l).length = l.length * 7 := by
 unfold marL
 rw [flat_len 7 _ (by intro c hc; obtain ⟨x, _, rfl⟩ := List.mem_map.1 hc; rfl), List.length_map]
theorem marL_app (l : List MarT) (x : MarT) : marL (l ++ [x]) = marL l ++ marV x := by simp [marL]
theorem marV_one (x : MarT) : (marV x).all (·.oneCell') = true := rfl
/-- a row of marks of the call's own, as_ it is read -/
theorem rowOf_orow {w : World} {b cap : Nat} {l : List MarT} {o : Obj} (h : w.heap[b]? = some o) (hr : orow 56 7 l.length cap (marL l) o) : RowOf marV 7 zMar w (some ⟨b, 0, none⟩) l := by
 obtain ⟨cur, rfl, h5, h6, h7, h8⟩ := hr
 intro k hk
 refine ⟨_, rfl, ro_of fun j v hj => ?_⟩
 have hj7 : j < 7 := (List.getElem?_eq_some_iff.1 hj).1
 rw [add_add, Addr.add_lit, Nat.zero_add, cell_of_row w b _ _ _ _ h, ← Array.getElem?_toList]
 have hx : (marL l)[k * 7 + j]? = some v := by
   unfold marL
   rw [flat_at 7 _ k j (by intro c hc; obtain ⟨x, _, rfl⟩ := List.mem_map.1 hc; rfl) hj7, List.getElem?_map, List.getElem?_eq_getElem hk]
   rw [show l.getD k zMar = l[k] by simp [List.getD_eq_getElem?_getD, List.getElem?_eq_getElem hk]] at hj
   simpa using hj
 rw [← h8, List.getElem?_take] at hx
 rw [show (k : Int).toNat * szN 7 + j = k * 7 + j by rw [Int.toNat_natCast]; rfl]
 split at hx
 · exact hx
 · cases hx
set_option maxHeartbeats 4000000 in
theorem chosen_calls (bs R : Nat) (E : Int) (gs : List GatT) (B : Option Addr) (c2 : Nat) (ms : List MarT) (s : Nat) (w : World) (hs : SiteOK w bs R E gs B ms.length c2) (hM : RowOf marV 7 zMar w B ms) (hm8 : ms.length ≤ 8) (hs8 : s ≤ 256) :
   Calls Tryz.prog 58 #[.pointer (some ⟨bs, 0, none⟩), .int .i64 (s : Int)] w fun e w' => ∃ r : RowR, e = .returned (valR r (setOf ms s).length) ∧ RowZ 56 7 (setOf ms s).length w.heap.size w' r (marL (setOf ms s)) ∧ Below w.heap.size w w' := by
 obtain ⟨hR6, hE6, hG, hglob, fb, fc, wv, A, c, hS⟩ := hs
 have hsV := hS.site
 refine x_calls (X := XNone) Tryz.func58 rfl rfl rfl ?_
 with_reducible ((repeat refine xc_seq ?_); refine xcR ?_)
 refine xo_asg rfl rfl rfl ?_
 with_reducible (refine xo_nil ?_; (repeat (first | refine xqT ?_ | refine xqB ?_ | refine xqS ?_)); (repeat refine xc_seq ?_); refine xcR ?_)
 refine xo_asg rfl rfl rfl ?_
 with_reducible (refine xo_nil ?_; (repeat (first | refine xqT ?_ | refine xqB ?_ | refine xqS ?_)); (repeat refine xc_seq ?_); refine xcR ?_)
 refine xo_mv rfl rfl rfl ?_
 refine xo_nilck rfl rfl rfl ?_
 refine xo_fa T_ rfl rfl rfl rfl rfl ?_
 refine xo_fa T_ rfl rfl rfl rfl rfl ?_
 refine xo_loadR0 T_ rfl rfl rfl (hsV.lit (j := 3) rfl) rfl ?_
 refine xo_len T_ rfl rfl rfl rfl ?_
 refine xo_mv rfl rfl rfl ?_
 with_reducible (refine xo_nil ?_; (repeat (first | refine xqT ?_ | refine xqB ?_ | refine xqS ?_)); (repeat refine xc_seq ?_); refine xc_block ?_)
 refine xc_loop (γ := Nat × RowR) (fun q => q.1 ≤ ms.length ∧ (q.2 = none → (chosenL s ms q.1).length = 0)) (fun q => [(1, .int .i64 (s : Int)), (5, valR q.2 (chosenL s ms q.1).length), (12, .slice B ms.length c2), (13, .int .i64 (ms.length : Int)), (14, .int .i64 (q.1 : Int))])
   (fun q => hpR 56 7 q.2 (chosenL s ms q.1).length (marL (chosenL s ms q.1)) ++ []) (fun q => ms.length - q.1) (0, none) ⟨Nat.zero_le _, fun _ => rfl⟩ ⟨rfl, rfl, rfl, rfl, rfl, trivial⟩ (List.nil_sublist _) ?_
 rintro ⟨k, rr⟩ ⟨hk, hrr⟩
 simp only at hk hrr
 have hcl := chosenL_len s ms k
 with_reducible ((repeat refine xc_seq ?_); refine xcR ?_)
 refine xo_lss rfl rfl rfl rfl ?_
 with_reducible (refine xo_nil ?_; (repeat (first | refine xqT ?_ | refine xqB ?_ | refine xqS ?_)); (repeat refine xc_seq ?_))
 refine xc_cond rfl (fun h => ?_) (fun h => ?_)
 · have hlt : k < ms.length := by have := of_decide_eq_true h; omega
   obtain ⟨ad, rfl, hRm⟩ := hM k hlt
   have hst : chosenL s ms (k + 1) = if bitN s k = true then chosenL s ms k ++ [ms.getD k zMar] else chosenL s ms k := rfl
   generalize chosenL s ms k = l at hrr hcl hst ⊢
   generalize ms.getD k zMar = m at hRm hst
   with_reducible (refine xc_skip ?_; (repeat (first | refine xqT ?_ | refine xqB ?_ | refine xqS ?_)); (repeat refine xc_seq ?_); refine xc_block ?_; (repeat refine xc_seq ?_); refine xcR ?_)
   refine xo_mv rfl rfl rfl ?_
   refine xo_ia T_ rfl rfl rfl rfl rfl ⟨by omega, by omega⟩ rfl ?_
   refine xo_loadRN T_ rfl rfl rfl hRm rfl rfl ?_
   refine xo_alloc T_ rfl rfl rfl rfl (fun b7 => ?_)
   refine xo_asg rfl rfl rfl ?_
   refine xo_store T_ rfl rfl rfl rfl (by repeat first | exact memH | apply memT | apply memA) rfl rfl rfl rfl (by repeat (first | exact Upd.head | apply Upd.tail | apply Upd.app)) rfl ?_
   with_reducible (refine xo_nil ?_; (repeat (first | refine xqT ?_ | refine xqB ?_ | refine xqS ?_)))
   cases hb : bitN s k
   · rw [hb, if_neg Bool.false_ne_true] at hst
     with_reducible ((repeat refine xc_seq ?_); refine xcR ?_)
     refine xo_mv rfl rfl rfl ?_
     refine xo_mv rfl rfl rfl ?_
     refine xo_shr rfl rfl rfl (by omega) rfl ?_
     refine xo_and1 rfl rfl rfl (Nat.lt_of_le_of_lt (Nat.div_le_self _ _) (by omega)) rfl ?_
     refine xo_eql rfl rfl rfl rfl ?_
     refine xo_as (i := 23) rfl (congrArg Value.bool hb) ?_
     with_reducible (refine xo_nil ?_; (repeat (first | refine xqT ?_ | refine xqB ?_ | refine xqS ?_)); (repeat refine xc_seq ?_))
     refine xc_condF rfl ?_
     with_reducible (refine xc_skip ?_; (repeat (first | refine xqT ?_ | refine xqB ?_ | refine xqS ?_)); (repeat refine xc_seq ?_); refine xcR ?_)
     refine xo_add rfl rfl rfl (by omega) rfl ?_
     refine xo_mv rfl rfl rfl ?_
     with_reducible (refine xo_nil ?_; (repeat (first | refine xqT ?_ | refine xqB ?_ | refine xqS ?_)))
     exact xq_again _ _ _ _ _ (k + 1, rr) ⟨hlt, fun q => by rw [hst]; exact hrr q⟩ (by simp only; omega) ⟨rfl, by rw [hst]; rfl, rfl, rfl, rfl, trivial⟩ (by rw [hst]; exact List.sublist_cons_self _ _)
   · rw [hb, if_pos rfl] at hst
     with_reducible ((repeat refine xc_seq ?_); refine xcR ?_)
     refine xo_mv rfl rfl rfl ?_
     refine xo_mv rfl rfl rfl ?_
     refine xo_shr rfl rfl rfl (by omega) rfl ?_
     refine xo_and1 rfl rfl rfl (Nat.lt_of_le_of_lt (Nat.div_le_self _ _) (by omega)) rfl ?_
     refine xo_eql rfl rfl rfl rfl ?_
     refine xo_as (i := 23) rfl (congrArg Value.bool hb) ?_
     with_reducible (refine xo_nil ?_; (repeat (first | refine xqT ?_ | refine xqB ?_ | refine xqS ?_)); (repeat refine xc_seq ?_))
     refine xc_condT rfl ?_
     with_reducible ((repeat refine xc_seq ?_); refine xcR ?_)
     refine xo_mv rfl rfl rfl ?_
     refine xo_loadN T_ rfl rfl rfl (by repeat first | exact memH | apply memT | apply memA) rfl rfl ?_
     refine xo_bsG T_ 7 rfl rfl rfl rfl rfl rfl rfl rfl rfl rfl (fun b26 => ?_)
     refine xo_less (η' := (b26, true, cel (marV m) 56) :: (hpR 56 7 rr l.length (marL l) ++ [])) (List.Sublist.cons_cons _ (List.sublist_cons_self _ _)) ?_
     refine xo_app TR_ rfl rfl rfl rfl rfl rfl rfl rfl (marL_len l) rfl rfl hrr (by omega) rfl rfl (fun r' hr' => ?_)
     refine xo_asg rfl rfl rfl ?_
     with_reducible (refine xo_nil ?_; (repeat (first | refine xqT ?_ | refine xqB ?_ | refine xqS ?_)); (repeat refine xc_seq ?_); refine xcR ?_)
     refine xo_add rfl rfl rfl (by omega) rfl ?_
     refine xo_mv rfl rfl rfl ?_
     with_reducible (refine xo_nil ?_; (repeat (first | refine xqT ?_ | refine xqB ?_ | refine xqS ?_)))
     exact xq_again _ _ _ _ _ (k + 1, r') ⟨hlt, fun q => absurd q hr'⟩ (by simp only; omega) ⟨rfl, by rw [hst, List.length_append]; rfl, rfl, rfl, rfl, trivial⟩ (by rw [hst, List.length_append, marL_app]; exact List.Sublist.refl _)
 have hge : k = ms.length := by have := of_decide_eq_false h; omega
 subst hge
 with_reducible (refine xc_exit ?_; (repeat (first | refine xq_blockX ?_ | refine xq_thenE ?_ | refine xq_blockE rfl ?_ | refine xq_scopeE ?_)); (repeat (first | refine xqT ?_ | refine xqB ?_ | refine xqS ?_)); (repeat refine xc_seq ?_); refine xcR ?_)
 refine xo_mv rfl rfl rfl ?_
 refine xo_asg rfl rfl rfl ?_
 with_reducible (refine xo_nil ?_; (repeat (first | refine xqT ?_ | refine xqB ?_ | refine xqS ?_)); (repeat refine xc_seq ?_); refine xc_ret ?_; (repeat (first | refine xq_thenR ?_ | refine xq_blockR ?_ | refine xq_scopeR ?_)))
 exact xq_ret1 rfl rfl fun w' hw => ⟨rr, rfl, RowZ.of hw hrr, hw.kx.below⟩
theorem chosen_enters : ∀ args w, (callFunc 58 args).run Tryz.prog w = .ok (.enter 58 args) w := enters_of Tryz.func58 (by kernel_rfl) rfl
/-! ### the first of which something is so -/
/-- a function value that tells whether something is so of a set -/
def AsksS (P : Program) (w : World) (g : Nat) (cs : List Value) (p : List MarT → Bool) (ok : World → SetV → Prop) : Prop := ∀ (x : SetV) (W : World), Below w.heap.size w W → ok W x → Calls P g ([setS x] ++ cs).toArray W fun e W' => e = .returned (.bool (p x.l)) ∧ Below W.heap.size W W'
theorem AsksS.below {P : Program} {w w' : World} {g : Nat} {cs : List Value} {p : List MarT → Bool} {ok : World → SetV → Prop} (h : AsksS P w g cs p ok) (hb : Below w.heap.size w w') : AsksS P w' g cs p ok := fun x W hW hx => h x W (below_step hb hW) hx
def zSet : SetV := ⟨none, 0, []⟩
theorem find_none {p : List MarT → Bool} {ys : List SetV} (h : ∀ j, j < ys.length → p (ys.getD j zSet).l = false) : ys.find? (fun x => p x.l) = none := by
 rw [List.find?_eq_none]
 intro x hx
 obtain ⟨j, hj, rfl⟩ := List.getElem_of_mem hx
 have := h j hj
 rw [show ys.getD j zSet = ys[j] by simp [List.getD_eq_getElem?_getD, List.getElem?_eq_getElem hj]] at this
 rw [this]
 exact Bool.false_ne_true
theorem find_some {p : List MarT → Bool} {ys : List SetV} {k : Nat} (hk : k < ys.length) (h : ∀ j, j < k → p (ys.getD j zSet).l = false) (hp : p (ys.getD k zSet).l = true) : ys.find? (fun x => p x.l) = some (ys.getD k zSet) := by
 have e : ys.take k ++ ys.getD k zSet :: ys.drop (k + 1) = ys := by
   rw [← drop_at ys zSet k hk, List.take_append_drop]
 have h2 : (ys.take k ++ ys.getD k zSet :: ys.drop (k + 1)).find? (fun x => p x.l) = some (ys.getD k zSet) := by
   rw [List.find?_append, List.find?_eq_none.2, List.find?_cons_of_pos (p := fun x : SetV => p x.l) hp, Option.none_or]
   intro x hx
   obtain ⟨j, hj, rfl⟩ := List.getElem_of_mem hx
   rw [List.length_take] at hj
   have := h j (by omega)
   rw [show ys.getD j zSet = ys[j] by simp [List.getD_eq_getElem?_getD, List.getElem?_eq_getElem (show j < ys.length by omega)]] at this
   rw [List.getElem_take, this]
   exact Bool.false_ne_true
 rwa [e] at h2
def SetsAt (w : World) (b : Nat) (ys : List SetV) : Prop := ∀ j, j < ys.length → w.cell? ⟨b, j, none⟩ = some (setS (ys.getD j zSet))
theorem SetsAt.below {w w' : World} {b : Nat} {ys : List SetV} (h : SetsAt w b ys) (hb : Below w.heap.size w w') : SetsAt w' b ys := fun j hj => (Kx.of_below (X := XNone) hb).cell (h j hj) (fun q => q)
theorem SetsAt.ro {w : World} {b : Nat} {ys : List SetV} (h : SetsAt w b ys) {j : Nat} (hj : j < ys.length) : RO w XNone (Addr.add ⟨b, 0, none⟩ ((j : Int).toNat * szN 0)) [setS (ys.getD j zSet)] := by
 refine ro1 ?_
 rw [Addr.add_lit, Nat.zero_add, show (j : Int).toNat * szN 0 = j by simp [szN]]
 exact h j hj
theorem indexS_calls (p : List MarT → Bool) (g : Nat) (cs : List Value) (eg : ∀ args w, (callFunc g args).run Tryz.prog w = .ok (.enter g args) w) (b cap : Nat) (ys : List SetV) (w : World) (ok : World → SetV → Prop) (hok : ∀ x ∈ ys, ∀ W, Below w.heap.size w W → ok W x) (hl : ys.length ≤ 1000000) (hr : SetsAt w b ys) (hp : AsksS Tryz.prog w g cs p ok) :
   Calls Tryz.prog 82 #[.slice (some ⟨b, 0, none⟩) ys.length cap, .func (.func g) #[] cs.toArray] w fun e w' => ((e = .returned (.int .i64 (-1)) ∧ ys.find? (fun x => p x.l) = none) ∨ ∃ k, k < ys.length ∧ e = .returned (.int .i64 (k : Int)) ∧ ys.find? (fun x => p x.l) = some (ys.getD k zSet)) ∧ Below w.heap.size w w' := by
 refine x_calls (X := XNone) Tryz.func82 rfl rfl rfl ?_
 with_reducible ((repeat refine xc_seq ?_); refine xcR ?_)
 refine xo_asg rfl rfl rfl ?_
 with_reducible (refine xo_nil ?_; (repeat (first | refine xqT ?_ | refine xqB ?_ | refine xqS ?_)); (repeat refine xc_seq ?_); refine xcR ?_)
 refine xo_mv rfl rfl rfl ?_
 refine xo_len T_ rfl rfl rfl rfl ?_
 refine xo_mv rfl rfl rfl ?_
 with_reducible (refine xo_nil ?_; (repeat (first | refine xqT ?_ | refine xqB ?_ | refine xqS ?_)); (repeat refine xc_seq ?_); refine xc_block ?_)
 refine xc_loop (γ := Nat) (fun k => k ≤ ys.length ∧ ∀ j, j < k → p (ys.getD j zSet).l = false) (fun k => [(0, .slice (some ⟨b, 0, none⟩) ys.length cap), (1, .func (.func g) #[] cs.toArray), (7, .int .i64 (ys.length : Int)), (8, .int .i64 (k : Int))]) (fun _ => []) (fun k => ys.length - k) 0
   ⟨Nat.zero_le _, fun j hj => absurd hj (Nat.not_lt_zero _)⟩ ⟨rfl, rfl, rfl, rfl, trivial⟩ (List.nil_sublist _) ?_
 rintro k ⟨hk, hno⟩
 with_reducible ((repeat refine xc_seq ?_); refine xcR ?_)
 refine xo_lss rfl rfl rfl rfl ?_
 with_reducible (refine xo_nil ?_; (repeat (first | refine xqT ?_ | refine xqB ?_ | refine xqS ?_)); (repeat refine xc_seq ?_))
 refine xc_cond rfl (fun h => ?_) (fun h => ?_)
 · have hlt : k < ys.length := by have := of_decide_eq_true h; omega
   have r1 := hr.ro hlt
   with_reducible (refine xc_skip ?_; (repeat (first | refine xqT ?_ | refine xqB ?_ | refine xqS ?_)); (repeat refine xc_seq ?_); refine xc_block ?_; (repeat refine xc_seq ?_); refine xcR ?_)
   refine xo_mv rfl rfl rfl ?_
   refine xo_asg rfl rfl rfl ?_
   with_reducible (refine xo_nil ?_; (repeat (first | refine xqT ?_ | refine xqB ?_ | refine xqS ?_)); (repeat refine xc_seq ?_); refine xcR ?_)
   refine xo_mv rfl rfl rfl ?_
   refine xo_mv rfl rfl rfl ?_
   refine xo_mv rfl rfl rfl ?_
   refine xo_ia T_ rfl rfl rfl rfl rfl ⟨by omega, by omega⟩ rfl ?_
   refine xo_loadR0 T_ rfl rfl rfl r1 rfl ?_
   refine xo_callB (fs := []) rfl rfl rfl eg rfl (fun w1 hw1 => hp (ys.getD k zSet) _ hw1.kx.below (hok _ (getD_mem ys zSet k hlt) _ hw1.kx.below)) ?_
   with_reducible (refine xo_nil ?_; (repeat (first | refine xqT ?_ | refine xqB ?_ | refine xqS ?_)); (repeat refine xc_seq ?_))
   refine xc_cond rfl (fun h2 => ?_) (fun h2 => ?_)
   · with_reducible repeat refine xc_seq ?_
     with_reducible refine xcR ?_
     refine xo_mv rfl rfl rfl ?_
     refine xo_asg rfl rfl rfl ?_
     with_reducible (refine xo_nil ?_; (repeat (first | refine xqT ?_ | refine xqB ?_ | refine xqS ?_)); (repeat refine xc_seq ?_); refine xc_ret ?_; (repeat (first | refine xq_thenR ?_ | refine xq_blockR ?_ | refine xq_scopeR ?_)))
     exact (xq_ret1 rfl rfl fun w' hw => ⟨.inr ⟨k, hlt, rfl, find_some hlt hno h2⟩, hw.kx.below⟩)
   · with_reducible refine xc_skip ?_
     with_reducible ((repeat (first | refine xqT ?_ | refine xqB ?_ | refine xqS ?_)); (repeat refine xc_seq ?_); refine xcR ?_)
     refine xo_add rfl rfl rfl (by omega) rfl ?_
     refine xo_mv rfl rfl rfl ?_
     with_reducible (refine xo_nil ?_; (repeat (first | refine xqT ?_ | refine xqB ?_ | refine xqS ?_)))
     refine xq_again _ _ _ _ _ (k + 1) ⟨by omega, fun j hj => ?_⟩ (by omega) ⟨rfl, rfl, rfl, rfl, trivial⟩ (List.nil_sublist _)
     by_cases e : j = k
     · subst e; exact h2
     · exact hno j (by omega)
 · have hge : ¬ k < ys.length := by have := of_decide_eq_false h; omega
   with_reducible (refine xc_exit ?_; (repeat (first | refine xq_blockX ?_ | refine xq_thenE ?_ | refine xq_blockE rfl ?_ | refine xq_scopeE ?_)); (repeat (first | refine xqT ?_ | refine xqB ?_ | refine xqS ?_)); (repeat refine xc_seq ?_); refine xcR ?_)
   refine xo_asg rfl rfl rfl ?_
   with_reducible (refine xo_nil ?_; (repeat (first | refine xqT ?_ | refine xqB ?_ | refine xqS ?_)); (repeat refine xc_seq ?_); refine xc_ret ?_; (repeat (first | refine xq_thenR ?_ | refine xq_blockR ?_ | refine xq_scopeR ?_)))
   exact xq_ret1 rfl rfl fun w' hw => ⟨.inl ⟨rfl, find_none fun j hj => hno j (by omega)⟩, hw.kx.below⟩
theorem indexS_enters : ∀ args w, (callFunc 82 args).run Tryz.prog w = .ok (.enter 82 args) w := enters_of Tryz.func82 (by kernel_rfl) rfl
theorem first_calls (p : List MarT → Bool) (g : Nat) (cs : List Value) (eg : ∀ args w, (callFunc g args).run Tryz.prog w = .ok (.enter g args) w) (b cap : Nat) (ys : List SetV) (w : World) (ok : World → SetV → Prop) (hok : ∀ x ∈ ys, ∀ W, Below w.heap.size w W → ok W x) (hl : ys.length ≤ 1000000) (hr : SetsAt w b ys) (hp : AsksS Tryz.prog w g cs p ok) :
   Calls Tryz.prog 64 #[.slice (some ⟨b, 0, none⟩) ys.length cap, .func (.func g) #[] cs.toArray] w fun e w' => (∃ t, e = .returned (.tuple #[setS ((ys.find? fun x => p x.l).getD zSet), .bool t])) ∧ Below w.heap.size w w' := by
 refine x_calls (X := XNone) Tryz.func64 rfl rfl rfl ?_
 with_reducible ((repeat refine xc_seq ?_); refine xcR ?_)
 refine xo_asg rfl rfl rfl ?_
 refine xo_asg rfl rfl rfl ?_
 with_reducible (refine xo_nil ?_; (repeat (first | refine xqT ?_ | refine xqB ?_ | refine xqS ?_)); (repeat refine xc_seq ?_); refine xcR ?_)
 refine xo_mv rfl rfl rfl ?_
 refine xo_mv rfl rfl rfl ?_
 refine xo_call (fs := []) (cs := []) rfl rfl rfl indexS_enters rfl (fun w1 hw1 => (indexS_calls p g cs eg b cap ys w1 ok (fun x hx W hW => hok x hx W (below_step hw1.kx.below hW)) hl (hr.below hw1.kx.below) (hp.below hw1.kx.below)).mono ?_)
 rintro e w2 ⟨⟨rfl, hf⟩ | ⟨k, hk, rfl, hf⟩, hb⟩
 rw [hf]
 · refine ⟨_, _, rfl, hw1.below hb, ?_⟩
   clear hb hw1
   refine xo_asg rfl rfl rfl ?_
   with_reducible (refine xo_nil ?_; (repeat (first | refine xqT ?_ | refine xqB ?_ | refine xqS ?_)); (repeat refine xc_seq ?_); refine xcR ?_)
   refine xo_mv rfl rfl rfl ?_
   refine xo_geq rfl rfl rfl rfl ?_
   with_reducible (refine xo_nil ?_; (repeat (first | refine xqT ?_ | refine xqB ?_ | refine xqS ?_)); (repeat refine xc_seq ?_))
   refine xc_condF rfl ?_
   with_reducible (refine xc_skip ?_; (repeat (first | refine xqT ?_ | refine xqB ?_ | refine xqS ?_)); (repeat refine xc_seq ?_); refine xcR ?_)
   refine xo_asg rfl rfl rfl ?_
   with_reducible (refine xo_nil ?_; (repeat (first | refine xqT ?_ | refine xqB ?_ | refine xqS ?_)); (repeat refine xc_seq ?_); refine xcR ?_)
   refine xo_mv rfl rfl rfl ?_
   refine xo_asg rfl rfl rfl ?_
   refine xo_asg rfl rfl rfl ?_
   with_reducible (refine xo_nil ?_; (repeat (first | refine xqT ?_ | refine xqB ?_ | refine xqS ?_)); (repeat refine xc_seq ?_); refine xc_ret ?_; (repeat (first | refine xq_thenR ?_ | refine xq_blockR ?_ | refine xq_scopeR ?_)))
   exact xq_ret2 rfl rfl rfl fun w' hw => ⟨⟨_, rfl⟩, hw.kx.below⟩
 rw [hf]
 refine ⟨_, _, rfl, hw1.below hb, ?_⟩
 clear hb hw1
 refine xo_asg rfl rfl rfl ?_
 with_reducible (refine xo_nil ?_; (repeat (first | refine xqT ?_ | refine xqB ?_ | refine xqS ?_)))
 have r1 := hr.ro hk
 have hd : decide ((0 : Int) ≤ (k : Int)) = true := by simp
 with_reducible ((repeat refine xc_seq ?_); refine xcR ?_)
 refine xo_mv rfl rfl rfl ?_
 refine xo_geq rfl rfl rfl rfl ?_
 refine xo_as (i := 12) rfl (congrArg Value.bool hd) ?_
 with_reducible (refine xo_nil ?_; (repeat (first | refine xqT ?_ | refine xqB ?_ | refine xqS ?_)); (repeat refine xc_seq ?_))
 refine xc_condT rfl ?_
 with_reducible ((repeat refine xc_seq ?_); refine xcR ?_)
 refine xo_mv rfl rfl rfl ?_
 refine xo_mv rfl rfl rfl ?_
 refine xo_ia T_ rfl rfl rfl rfl rfl ⟨by omega, by omega⟩ rfl ?_
 refine xo_loadR0 T_ rfl rfl rfl r1 rfl ?_
 refine xo_asg rfl rfl rfl ?_
 refine xo_asg rfl rfl rfl ?_
 with_reducible (refine xo_nil ?_; (repeat (first | refine xqT ?_ | refine xqB ?_ | refine xqS ?_)); (repeat refine xc_seq ?_); refine xc_ret ?_; (repeat (first | refine xq_thenR ?_ | refine xq_blockR ?_ | refine xq_scopeR ?_)))
 exact xq_ret2 rfl rfl rfl fun w' hw => ⟨⟨_, rfl⟩, hw.kx.below⟩
theorem first_enters : ∀ args w, (callFunc 64 args).run Tryz.prog w = .ok (.enter 64 args) w := enters_of Tryz.func64 (by kernel_rfl) rfl
abbrev SetW := RowR × List MarT
def toSet (x : SetW) : SetV := ⟨valA x.1, valC x.1, x.2⟩
def haS (x : SetW) : Hp := hpR 56 7 x.1 x.2.length (marL x.2)
def setH (pre : List SetW) : Hp := pre.reverse.flatMap haS
theorem setH_app (pre : List SetW) (x : SetW) : setH (pre ++ [x]) = haS x ++ setH pre := by simp [setH]
def sliceS (x : SetW) : Value := valR x.1 x.2.length
theorem sliceS_eq {x : SetW} (h : x.1 = none → x.2.length = 0) : sliceS x = setS (toSet x) := valR_eq h
def allSets (ms : List MarT) : List (List MarT) := (List.range (2 ^ ms.length)).map (setOf ms)
theorem two8 {n : Nat} (h : n ≤ 8) : 0 < 2 ^ n ∧ 2 ^ n ≤ 256 := ⟨Nat.pow_pos (by omega), Nat.le_trans (Nat.pow_le_pow_right (by omega) h) (by decide)⟩
/-- the set's row, in the world -/
theorem setRow {w : World} {x : SetW} (hx : x.1 = none → x.2.length = 0) (h : ∀ e ∈ haS x, ∃ o, w.heap[e.1]? = some o ∧ e.2.2 o) : RowOf marV 7 zMar w (valA x.1) x.2 := by
 obtain ⟨r, l⟩ := x
 cases r with
 | none =>
   have h0 : l.length = 0 := hx rfl
   intro k hk
   have h1 : k < l.length := hk
   omega
 | some p =>
   obtain ⟨o, h1, h2⟩ := h (p.1, true, orow 56 7 l.length p.2 (marL l)) (List.Mem.head _)
   exact rowOf_orow h1 h2
theorem haS_mem {pre : List SetW} {x : SetW} (hx : x ∈ pre) {e : Nat × Bool × HP} (he : e ∈ haS x) : e ∈ setH pre := List.mem_flatMap.2 ⟨x, List.mem_reverse.2 hx, he⟩
theorem setsAt_of {w : World} {b cap : Nat} {ys : List SetV} {o : Obj} (h : w.heap[b]? = some o) (hr : orow 23 1 ys.length cap (ys.map setS) o) : SetsAt w b ys := by
 obtain ⟨cur, rfl, h5, h6, h7, h8⟩ := hr
 rw [Nat.mul_one] at h8
 intro j hj
 rw [cell_of_row w b j _ _ _ h, ← Array.getElem?_toList]
 have hx : (ys.map setS)[j]? = some (setS (ys.getD j zSet)) := by
   rw [List.getElem?_map, List.getElem?_eq_getElem hj]
   simp [List.getD_eq_getElem?_getD, List.getElem?_eq_getElem hj]
 rw [← h8, List.getElem?_take_of_lt hj] at hx
 exact hx
/-- what is asked of a function that fewest is handed -/
def okM (ms : List MarT) (W : World) (x : SetV) : Prop := (RowOf marV 7 zMar W x.A x.l ∧ ∀ m ∈ x.l, m ∈ ms) ∧ x.l.length ≤ 8
set_option maxHeartbeats 40000000 in
theorem fewest_calls (p : List MarT → Bool) (g : Nat) (cs : List Value) (eg : ∀ args w, (callFunc g args).run Tryz.prog w = .ok (.enter g args) w) (bs R : Nat) (E : Int) (gs : List GatT) (B : Option Addr) (c2 : Nat) (ms : List MarT) (w : World) (hs : SiteOK w bs R E gs B ms.length c2) (hM : RowOf marV 7 zMar w B ms) (hms : IdsOK ms)
   (hp : AsksS Tryz.prog w g cs p (okM ms)) :
   Calls Tryz.prog 37 #[.pointer (some ⟨bs, 0, none⟩), .func (.func g) #[] cs.toArray] w fun e w' => ∃ r : RowR, e = .returned (valR r (fewestL p (allSets ms)).length) ∧ RowAt 3 w.heap.size w' r (fewestL p (allSets ms)) ∧ Below w.heap.size w w' := by
 have hm8 := hms.1
 have h256 := two8 hm8
 have hsite := hs
 obtain ⟨hR6, hE6, hG, hglob, fb, fc, wv, A, c, hS⟩ := hs
 have hsV := hS.site
 refine x_calls (X := XNone) Tryz.func37 rfl rfl rfl ?_
 with_reducible ((repeat refine xc_seq ?_); refine xcR ?_)
 refine xo_asg rfl rfl rfl ?_
 with_reducible (refine xo_nil ?_; (repeat (first | refine xqT ?_ | refine xqB ?_ | refine xqS ?_)); (repeat refine xc_seq ?_); refine xcR ?_)
 refine xo_asg rfl rfl rfl ?_
 with_reducible (refine xo_nil ?_; (repeat (first | refine xqT ?_ | refine xqB ?_ | refine xqS ?_)); (repeat refine xc_seq ?_); refine xcR ?_)
 refine xo_mv rfl rfl rfl ?_
 refine xo_nilck rfl rfl rfl ?_
 refine xo_fa T_ rfl rfl rfl rfl rfl ?_
 refine xo_fa T_ rfl rfl rfl rfl rfl ?_
 refine xo_loadR0 T_ rfl rfl rfl (hsV.lit (j := 3) rfl) rfl ?_
 refine xo_len T_ rfl rfl rfl rfl ?_
 refine xo_shl1 rfl rfl rfl (by omega) rfl ?_
 refine xo_mv rfl rfl rfl ?_
 with_reducible (refine xo_nil ?_; (repeat (first | refine xqT ?_ | refine xqB ?_ | refine xqS ?_)); (repeat refine xc_seq ?_); refine xc_block ?_)
 refine xc_loop (γ := List SetW × RowR) (fun q => q.1.length ≤ 2 ^ ms.length ∧ q.1.map (·.2) = (List.range q.1.length).map (setOf ms) ∧ (∀ x ∈ q.1, x.1 = none → x.2.length = 0) ∧ (q.2 = none → q.1.length = 0)) (fun q => [(0, .pointer (some ⟨bs, 0, none⟩)), (1, .func (.func g) #[] cs.toArray), (5, valR q.2 q.1.length), (19, .int .i64 ((2 ^ ms.length : Nat) : Int)), (20, .int .i64 (q.1.length : Int))])
   (fun q => hpR 23 1 q.2 q.1.length (q.1.map sliceS) ++ setH q.1) (fun q => 2 ^ ms.length - q.1.length) ([], none) ⟨Nat.zero_le _, rfl, (fun x hx => by cases hx), fun _ => rfl⟩ ⟨rfl, rfl, rfl, rfl, rfl, trivial⟩ (List.nil_sublist _) ?_
 rintro ⟨pre, rr⟩ ⟨hk, hsets, hnn, hrr⟩
 have hk : pre.length ≤ 2 ^ ms.length := hk
 have hsets : pre.map (·.2) = (List.range pre.length).map (setOf ms) := hsets
 have hnn : ∀ x ∈ pre, x.1 = none → x.2.length = 0 := hnn
 have hrr : rr = none → pre.length = 0 := hrr
 with_reducible ((repeat refine xc_seq ?_); refine xcR ?_)
 refine xo_lss rfl rfl rfl rfl ?_
 with_reducible (refine xo_nil ?_; (repeat (first | refine xqT ?_ | refine xqB ?_ | refine xqS ?_)); (repeat refine xc_seq ?_))
 refine xc_cond rfl (fun h => ?_) (fun h => ?_)
 · have hlt : pre.length < 2 ^ ms.length := by
     have h' : ((pre.length : Nat) : Int) < ((2 ^ ms.length : Nat) : Int) := of_decide_eq_true h
     omega
   with_reducible (refine xc_skip ?_; (repeat (first | refine xqT ?_ | refine xqB ?_ | refine xqS ?_)); (repeat refine xc_seq ?_); refine xc_block ?_; (repeat refine xc_seq ?_); refine xcR ?_)
   refine xo_mv rfl rfl rfl ?_
   refine xo_asg rfl rfl rfl ?_
   with_reducible (refine xo_nil ?_; (repeat (first | refine xqT ?_ | refine xqB ?_ | refine xqS ?_)); (repeat refine xc_seq ?_); refine xcR ?_)
   refine xo_mv rfl rfl rfl ?_
   refine xo_mv rfl rfl rfl ?_
   refine xo_mv rfl rfl rfl ?_
   refine xo_call (fs := []) (cs := []) rfl rfl rfl chosen_enters rfl (fun w1 hw1 => (chosen_calls bs R E gs B c2 ms pre.length w1 (hsite.below hw1.kx.below) (hM.below hw1.kx.below) hm8 (by omega)).mono ?_)
   rintro e w2 ⟨r, rfl, hrw, hb⟩
   have h11 := hrw.1
   refine ⟨_, _, rfl, hw1.rowZ hb hrw, ?_⟩
   clear hrw hb hw1
   refine xo_bs1 T_ rfl rfl rfl rfl rfl rfl (by cases r <;> rfl) rfl (fun b27 => ?_)
   refine xo_perm ((List.perm_append_comm_assoc _ _ _).cons _) ?_
   refine xo_app TR_ rfl rfl rfl rfl rfl rfl rfl rfl (by simp) rfl (by cases r <;> rfl) hrr (by omega) rfl rfl (fun r' hr' => ?_)
   refine xo_asg rfl rfl rfl ?_
   with_reducible (refine xo_nil ?_; (repeat (first | refine xqT ?_ | refine xqB ?_ | refine xqS ?_)); (repeat refine xc_seq ?_); refine xcR ?_)
   refine xo_add rfl rfl rfl (by omega) rfl ?_
   refine xo_mv rfl rfl rfl ?_
   with_reducible (refine xo_nil ?_; (repeat (first | refine xqT ?_ | refine xqB ?_ | refine xqS ?_)))
   refine xq_again _ _ _ _ _ (pre ++ [(r, setOf ms pre.length)], r') ⟨by simp; omega, ?_, fun x hx => ?_, fun q => absurd q hr'⟩ (by simp; omega) ⟨rfl, rfl, by simp only [List.length_append, List.length_singleton]; rfl, rfl, by simp only [List.length_append, List.length_singleton]; rfl, trivial⟩ ?_
   · simp only [List.length_append, List.length_singleton, List.range_succ, List.map_append, hsets, List.map_cons, List.map_nil]
   · rcases List.mem_append.1 hx with hx | hx
     · exact hnn x hx
     · rw [List.mem_singleton.1 hx]; exact h11
   · rw [setH_app, List.map_append]
     simp only [List.length_append, List.length_singleton]
     exact List.Sublist.refl _
 have hge : pre.length = 2 ^ ms.length := by
   have h' : ¬ ((pre.length : Nat) : Int) < ((2 ^ ms.length : Nat) : Int) := of_decide_eq_false h
   omega
 rcases rr with _ | ⟨b, cap⟩
 · have := hrr rfl
   omega
 have hids : ∀ x ∈ pre, IdsOK x.2 ∧ ∀ m ∈ x.2, m ∈ ms := fun x hx => by
   have h1 : x.2 ∈ pre.map (·.2) := List.mem_map.2 ⟨x, hx, rfl⟩
   rw [hsets] at h1
   obtain ⟨k, _, e⟩ := List.mem_map.1 h1
   have h2 : ∀ m ∈ x.2, m ∈ ms := fun m hm => chosenL_mem k ms ms.length (Nat.le_refl _) m (by rw [← e] at hm; exact hm)
   refine ⟨⟨?_, fun m hm => hms.2 m (h2 m hm)⟩, h2⟩
   have := chosenL_len k ms ms.length
   rw [show chosenL k ms ms.length = x.2 from e] at this
   omega
 have hall : (pre.map toSet).map (·.l) = allSets ms := by
   rw [List.map_map]
   show pre.map (·.2) = _
   rw [hsets, hge]
   rfl
 have hhd : pre.map sliceS = (pre.map toSet).map setS := by
   rw [List.map_map]
   exact List.map_congr_left fun x hx => sliceS_eq (hnn x hx)
 rw [hhd]
 with_reducible (refine xc_exit ?_; (repeat (first | refine xq_blockX ?_ | refine xq_thenE ?_ | refine xq_blockE rfl ?_ | refine xq_scopeE ?_)); (repeat (first | refine xqT ?_ | refine xqB ?_ | refine xqS ?_)); (repeat refine xc_seq ?_); refine xcR ?_)
 refine xo_alloc T_ rfl rfl rfl rfl (fun b7 => ?_)
 refine xo_store T_ rfl rfl rfl rfl (by repeat first | exact memH | apply memT | apply memA) rfl rfl rfl rfl (by repeat (first | exact Upd.head | apply Upd.tail | apply Upd.app)) rfl ?_
 with_reducible (refine xo_nil ?_; (repeat (first | refine xqT ?_ | refine xqB ?_ | refine xqS ?_)); (repeat refine xc_seq ?_); refine xcR ?_)
 refine xo_mv rfl rfl rfl ?_
 refine xo_mkf rfl rfl rfl rfl ?_
 refine xo_call (fs := []) (vs := [.slice (some ⟨b, 0, none⟩) (pre.map toSet).length cap, .func (.func 61) #[] #[.pointer (some ⟨b7, 0, none⟩)]]) rfl rfl (by rw [List.length_map]; rfl) sortSets_enters rfl (fun w1 hw1 => ?_)
 have hb7 := hw1.ro (b := b7) (wr := true) (t := 105) (by repeat first | exact memH | apply memT | apply memA)
 obtain ⟨o1, ho1, ho2⟩ := hw1.bl (b, true, orow 23 1 pre.length cap ((pre.map toSet).map setS)) (List.Mem.tail _ (List.Mem.head _))
 have hnd := hw1.nd
 simp only [hpR, List.cons_append, List.nil_append, List.map_cons, List.nodup_cons, List.mem_cons, not_or] at hnd
 have hok : ∀ x ∈ pre.map toSet, SetOK b w1 x := fun x hx => by
   obtain ⟨q, hq, rfl⟩ := List.mem_map.1 hx
   refine ⟨setRow (hnn q hq) (fun e he => hw1.bl e (List.mem_cons_of_mem _ (List.mem_cons_of_mem _ (haS_mem hq he)))), (hids q hq).1, fun h0 ad e => ?_⟩
   obtain ⟨r, l⟩ := q
   cases r with
   | none => cases e
   | some p =>
     cases e
     exact fun q2 => hnd.2.1 (List.mem_map.2 ⟨(p.1, true, _), haS_mem hq (List.Mem.head _), q2⟩)
 refine (sortSets_calls b cap b7 (pre.map toSet) w1 o1 ho1 (by rw [List.length_map]; exact ho2) hok (by rw [List.length_map]; omega) hb7 hnd.1.1).mono ?_
 rintro e w3 ⟨rfl, hk3, ys, hys, hsd, o3, ho3, ho4⟩
 rw [List.length_map] at ho4
 have hyl : ys.length = pre.length := by rw [hys.length_eq, List.length_map]
 refine ⟨_, _, rfl, hw1.updK (η' := (b7, true, cel [.func (.func 59) #[] #[]] 105) :: (b, true, orow 23 1 pre.length cap (ys.map setS)) :: setH pre) (φ' := orow 23 1 pre.length cap (ys.map setS)) (Upd.tail Upd.head) hk3 ho3 ho4, ?_⟩
 clear ho3 ho4 hk3 ho1 ho2 hw1 hok hnd hb7
 with_reducible (refine xo_nil ?_; (repeat (first | refine xqT ?_ | refine xqB ?_ | refine xqS ?_)))
 have hin : ∀ x ∈ ys, ∃ q ∈ pre, toSet q = x := fun x hx => List.mem_map.1 (hys.mem_iff.1 hx)
 have hbest := first_best p (ls := allSets ms) (ys := ys.map (·.l)) (by rw [← hall]; exact hys.map _) hsd
 rw [← hyl]
 refine xc_slots [(1, .func (.func g) #[] cs.toArray), (5, .slice (some ⟨b, 0, none⟩) ys.length cap), (7, .pointer (some ⟨b7, 0, none⟩))] ⟨rfl, by rw [hyl]; rfl, rfl, trivial⟩ ?_
 refine xc_anew fun wA hwA => ?_
 have hbA := hwA.kx.below
 have hsA : SetsAt wA b ys := by
   obtain ⟨o1, ho1, ho2⟩ := hwA.bl (b, true, orow 23 1 ys.length cap (ys.map setS)) (List.Mem.tail _ (List.Mem.head _))
   exact setsAt_of ho1 ho2
 have hrows : ∀ x ∈ ys, RowOf marV 7 zMar wA x.A x.l ∧ ∀ m ∈ x.l, m ∈ ms := fun x hx => by
   obtain ⟨q, hq, rfl⟩ := hin x hx
   exact ⟨setRow (hnn q hq) (fun e he => hwA.bl e (List.mem_cons_of_mem _ (List.mem_cons_of_mem _ (haS_mem hq he)))), (hids q hq).2⟩
 have hb7A := hwA.ro (b := b7) (wr := true) (t := 105) (by repeat first | exact memH | apply memT | apply memA)
 have hyl2 : ys.length ≤ 1000000 := by omega
 have h8 : ∀ x ∈ ys, x.l.length ≤ 8 := fun x hx => by
   obtain ⟨q, hq, rfl⟩ := hin x hx
   exact (hids q hq).1.1
 have hpA := hp.below hbA
 clear hwA hin hys hsd hall hhd hids hyl hsets hnn hsV hS hsite
 with_reducible ((repeat refine xc_seq ?_); refine xcR ?_)
 refine xo_mv rfl rfl rfl ?_
 refine xo_mv rfl rfl rfl ?_
 refine xo_call (fs := []) (cs := []) rfl rfl rfl first_enters rfl (fun w1 hw1 => (first_calls p g cs eg b cap ys w1 (okM ms) (fun x hx W hW => ⟨⟨(hrows x hx).1.below (below_step hw1.kx.below hW), (hrows x hx).2⟩, h8 x hx⟩) hyl2 (hsA.below hw1.kx.below) (hpA.below hw1.kx.below)).mono ?_)
 rintro e w2 ⟨⟨t, rfl⟩, hb⟩
 refine ⟨_, _, rfl, hw1.below hb, ?_⟩
 clear hb hw1
 refine xo_mv rfl rfl rfl ?_
 refine xo_ext rfl rfl rfl rfl ?_
 refine xo_ext rfl rfl rfl rfl ?_
 refine xo_asg rfl rfl rfl ?_
 refine xo_asg rfl rfl rfl ?_
 with_reducible (refine xo_nil ?_; (repeat (first | refine xqT ?_ | refine xqB ?_ | refine xqS ?_)))
 have hfx : ∀ x, (ys.find? fun x => p x.l).getD zSet = x → RowOf marV 7 zMar wA x.A x.l ∧ x.l.length ≤ 8 ∧ idsL x.l = fewestL p (allSets ms) := by
   rintro x rfl
   rw [List.find?_map] at hbest
   rw [← hbest]
   cases hf : ys.find? fun x => p x.l with
   | none =>
     have hf' : ys.find? (p ∘ fun x => x.l) = none := hf
     rw [hf']
     exact ⟨fun k hk => absurd hk (Nat.not_lt_zero _), Nat.zero_le _, rfl⟩
   | some x =>
     have hf' : ys.find? (p ∘ fun x => x.l) = some x := hf
     rw [hf']
     have hx := List.mem_of_find?_eq_some hf
     exact ⟨(hrows x hx).1, h8 x hx, rfl⟩
 obtain ⟨hrx, hx8, hidx⟩ := hfx _ rfl
 generalize (ys.find? fun x => p x.l).getD zSet = x at hrx hx8 hidx
 obtain ⟨xA, xC, xl⟩ := x
 rw [← hidx]
 simp only at hrx hx8
 have hil : (idsL xl).length = xl.length := by simp [idsL]
 with_reducible ((repeat refine xc_seq ?_); refine xcR ?_)
 refine xo_asg rfl rfl rfl ?_
 with_reducible (refine xo_nil ?_; (repeat (first | refine xqT ?_ | refine xqB ?_ | refine xqS ?_)); (repeat refine xc_seq ?_); refine xcR ?_)
 refine xo_mv rfl rfl rfl ?_
 refine xo_len T_ (len := xl.length) rfl rfl rfl rfl ?_
 refine xo_mv rfl rfl rfl ?_
 with_reducible (refine xo_nil ?_; (repeat (first | refine xqT ?_ | refine xqB ?_ | refine xqS ?_)); (repeat refine xc_seq ?_); refine xc_block ?_)
 refine xc_loop (γ := Nat × RowR) (fun q => q.1 ≤ xl.length ∧ (q.2 = none → q.1 = 0)) (fun q => [(7, .pointer (some ⟨b7, 0, none⟩)), (10, valR q.2 q.1), (39, .slice xA xl.length xC), (40, .int .i64 (xl.length : Int)), (41, .int .i64 (q.1 : Int))])
   (fun q => hpR 3 1 q.2 q.1 (((idsL xl).take q.1).map (.int .i64)) ++ []) (fun q => xl.length - q.1) (0, none) ⟨Nat.zero_le _, fun _ => rfl⟩ ⟨rfl, rfl, rfl, rfl, rfl, trivial⟩ (List.nil_sublist _) ?_
 rintro ⟨k, rr⟩ ⟨hk, hrr⟩
 have hk : k ≤ xl.length := hk
 have hrr : rr = none → k = 0 := hrr
 with_reducible ((repeat refine xc_seq ?_); refine xcR ?_)
 refine xo_lss rfl rfl rfl rfl ?_
 with_reducible (refine xo_nil ?_; (repeat (first | refine xqT ?_ | refine xqB ?_ | refine xqS ?_)); (repeat refine xc_seq ?_))
 refine xc_cond rfl (fun h => ?_) (fun h => ?_)
 · have hlt : k < xl.length := by have := of_decide_eq_true h; omega
   obtain ⟨ad, rfl, hRm⟩ := hrx k hlt
   have hst : (idsL xl).take (k + 1) = (idsL xl).take k ++ [(xl.getD k zMar).f0] := by
     rw [List.take_add_one]
     unfold idsL
     rw [List.getElem?_map, List.getElem?_eq_getElem hlt]
     simp [List.getD_eq_getElem?_getD, List.getElem?_eq_getElem hlt]
   have htl : ((idsL xl).take k).length = k := by rw [List.length_take, hil]; omega
   generalize xl.getD k zMar = m at hRm hst
   with_reducible (refine xc_skip ?_; (repeat (first | refine xqT ?_ | refine xqB ?_ | refine xqS ?_)); (repeat refine xc_seq ?_); refine xc_block ?_; (repeat refine xc_seq ?_); refine xcR ?_)
   refine xo_ia T_ rfl rfl rfl rfl rfl ⟨by omega, by omega⟩ rfl ?_
   refine xo_loadRN T_ rfl rfl rfl hRm rfl rfl ?_
   refine xo_alloc T_ rfl rfl rfl rfl (fun b12 => ?_)
   refine xo_store T_ rfl rfl rfl rfl (by repeat first | exact memH | apply memT | apply memA) rfl rfl rfl rfl (by repeat (first | exact Upd.head | apply Upd.tail | apply Upd.app)) rfl ?_
   with_reducible (refine xo_nil ?_; (repeat (first | refine xqT ?_ | refine xqB ?_ | refine xqS ?_)); (repeat refine xc_seq ?_); refine xcR ?_)
   refine xo_mv rfl rfl rfl ?_
   refine xo_loadR0 T_ rfl rfl rfl hb7A rfl ?_
   refine xo_loadN T_ rfl rfl rfl (by repeat first | exact memH | apply memT | apply memA) rfl rfl ?_
   refine xo_callB (fs := []) (cs := []) rfl rfl rfl Q.number_enters rfl (fun w1 hw1 => (Q.number_calls m w1).mono fun e w' ⟨h1, h2⟩ => ⟨h1, h2.kx.below⟩) ?_
   refine xo_bs1 T_ rfl rfl rfl rfl rfl rfl rfl rfl (fun b49 => ?_)
   refine xo_less (η' := (b49, true, cel [.int .i64 m.f0] 3) :: (hpR 3 1 rr k (((idsL xl).take k).map (.int .i64)) ++ [])) (List.Sublist.cons_cons _ (List.sublist_cons_self _ _)) ?_
   refine xo_app TR_ rfl rfl rfl rfl rfl rfl rfl rfl (by rw [List.length_map, htl, Nat.mul_one]) rfl rfl hrr (by omega) rfl rfl (fun r' hr' => ?_)
   refine xo_asg rfl rfl rfl ?_
   with_reducible (refine xo_nil ?_; (repeat (first | refine xqT ?_ | refine xqB ?_ | refine xqS ?_)); (repeat refine xc_seq ?_); refine xcR ?_)
   refine xo_add rfl rfl rfl (by omega) rfl ?_
   refine xo_mv rfl rfl rfl ?_
   with_reducible (refine xo_nil ?_; (repeat (first | refine xqT ?_ | refine xqB ?_ | refine xqS ?_)))
   exact xq_again _ _ _ _ _ (k + 1, r') ⟨hlt, fun q => absurd q hr'⟩ (by simp only; omega) ⟨rfl, rfl, rfl, rfl, rfl, trivial⟩ (by rw [hst, List.map_append]; exact List.Sublist.refl _)
 have hge : k = xl.length := by have := of_decide_eq_false h; omega
 subst hge
 rw [List.take_of_length_le (by omega), ← hil]
 with_reducible (refine xc_exit ?_; (repeat (first | refine xq_blockX ?_ | refine xq_thenE ?_ | refine xq_blockE rfl ?_ | refine xq_scopeE ?_)); (repeat (first | refine xqT ?_ | refine xqB ?_ | refine xqS ?_)); (repeat refine xc_seq ?_); refine xcR ?_)
 refine xo_mv rfl rfl rfl ?_
 refine xo_asg rfl rfl rfl ?_
 with_reducible (refine xo_nil ?_; (repeat (first | refine xqT ?_ | refine xqB ?_ | refine xqS ?_)); (repeat refine xc_seq ?_); refine xc_ret ?_; (repeat (first | refine xq_thenR ?_ | refine xq_blockR ?_ | refine xq_scopeR ?_)))
 refine xq_ret1 rfl rfl fun w' hw => ⟨rr, rfl, (RowAt.of hw (fun q => by have := hrr q; exact List.eq_nil_of_length_eq_zero (by omega))).mono hbA.size, below_step hbA hw.kx.below⟩
theorem fewest_enters : ∀ args w, (callFunc 37 args).run Tryz.prog w = .ok (.enter 37 args) w := enters_of Tryz.func37 (by kernel_rfl) rfl
theorem ids_of {R : Int} : ∀ {ms : List MarT} {last : Int}, -1 ≤ last → marksF R last ms = true → ∀ m ∈ ms, 0 ≤ m.f0 ∧ m.f0 ≤ 9999
 | [], _, _, _, m, hm => by cases hm
 | x :: ms, last, hl, h, m, hm => by
   simp only [marksF, Bool.and_eq_true] at h
   obtain ⟨⟨⟨⟨h1, h2⟩, h3⟩, h4⟩, h5⟩ := h
   have q1 := inF_iff.1 h1
   rcases List.mem_cons.1 hm with rfl | hm
   · omega
   · exact ids_of (last := x.f0) (by omega) h5 m hm
theorem whyF_calls (bs bp bq : Nat) (R : Nat) (E : Int) (gs : List GatT) (B : Option Addr) (c2 : Nat) (ms : List MarT) (room : Nat) (w : World) (hs : SiteOK w bs R E gs B ms.length c2) (hm8 : ms.length ≤ 8) (hmk : ∀ m ∈ ms, MarkOK m) (hroom : room < 6)
   (h1 : RO w XNone ⟨bp, 0, none⟩ [.pointer (some ⟨bs, 0, none⟩)]) (h2 : RO w XNone ⟨bq, 0, none⟩ [.int .i64 (room : Int)]) : AsksS Tryz.prog w 38 [.pointer (some ⟨bp, 0, none⟩), .pointer (some ⟨bq, 0, none⟩)] (fun l => !canF E R gs room l) (okM ms) := by
 rintro x W hW ⟨⟨hx1, hx2⟩, hx8⟩
 have h1 := h1.below hW
 have h2 := h2.below hW
 have hs := hs.below hW
 refine x_calls (X := XNone) (vs := [.slice x.A x.l.length x.C, .pointer (some ⟨bp, 0, none⟩), .pointer (some ⟨bq, 0, none⟩)]) Tryz.func38 rfl rfl rfl ?_
 with_reducible ((repeat refine xc_seq ?_); refine xcR ?_)
 refine xo_asg rfl rfl rfl ?_
 with_reducible (refine xo_nil ?_; (repeat (first | refine xqT ?_ | refine xqB ?_ | refine xqS ?_)); (repeat refine xc_seq ?_); refine xcR ?_)
 refine xo_loadR0 T_ rfl rfl rfl h1 rfl ?_
 refine xo_loadR0 T_ rfl rfl rfl h2 rfl ?_
 refine xo_mv rfl rfl rfl ?_
 refine xo_callB (fs := []) (cs := []) rfl rfl rfl can_enters rfl (fun w1 hw1 => can_calls bs R E gs B x.A ms.length c2 x.C x.l room w1 (hs.below hw1.kx.below) (hx1.below hw1.kx.below) hx8 (fun m hm => hmk m (hx2 m hm)) hroom) ?_
 refine xo_notOp rfl rfl rfl ?_
 refine xo_asg rfl rfl rfl ?_
 with_reducible (refine xo_nil ?_; (repeat (first | refine xqT ?_ | refine xqB ?_ | refine xqS ?_)); (repeat refine xc_seq ?_); refine xc_ret ?_; (repeat (first | refine xq_thenR ?_ | refine xq_blockR ?_ | refine xq_scopeR ?_)))
 exact xq_ret1 rfl rfl fun w' hw => ⟨rfl, hw.kx.below⟩
theorem whyF_enters : ∀ args w, (callFunc 38 args).run Tryz.prog w = .ok (.enter 38 args) w := enters_of Tryz.func38 (by kernel_rfl) rfl
theorem againstF_calls (bs bp : Nat) (R : Nat) (E : Int) (gs : List GatT) (B : Option Addr) (c2 : Nat) (ms : List MarT) (w : World) (hs : SiteOK w bs R E gs B ms.length c2) (hm8 : ms.length ≤ 8) (hmk : ∀ m ∈ ms, MarkOK m)
   (h1 : RO w XNone ⟨bp, 0, none⟩ [.pointer (some ⟨bs, 0, none⟩)]) : AsksS Tryz.prog w 47 [.pointer (some ⟨bp, 0, none⟩)] (fun l => decide (((roomsN E R gs l).length : Int) = 0)) (okM ms) := by
 rintro x W hW ⟨⟨hx1, hx2⟩, hx8⟩
 have h1 := h1.below hW
 have hs := hs.below hW
 refine x_calls (X := XNone) (vs := [.slice x.A x.l.length x.C, .pointer (some ⟨bp, 0, none⟩)]) Tryz.func47 rfl rfl rfl ?_
 with_reducible ((repeat refine xc_seq ?_); refine xcR ?_)
 refine xo_asg rfl rfl rfl ?_
 with_reducible (refine xo_nil ?_; (repeat (first | refine xqT ?_ | refine xqB ?_ | refine xqS ?_)); (repeat refine xc_seq ?_); refine xcR ?_)
 refine xo_loadR0 T_ rfl rfl rfl h1 rfl ?_
 refine xo_mv rfl rfl rfl ?_
 refine xo_call (fs := []) (cs := []) rfl rfl rfl rooms_enters rfl (fun w1 hw1 => (rooms_calls bs R E gs B x.A ms.length c2 x.C x.l w1 (hs.below hw1.kx.below) (hx1.below hw1.kx.below) hx8 (fun m hm => hmk m (hx2 m hm))).mono ?_)
 rintro e w2 ⟨r, rfl, hrw, hb⟩
 have h11 := hrw.1
 refine ⟨_, _, rfl, hw1.below hb, ?_⟩
 clear hrw hb hw1
 refine xo_len T_ rfl (show _ = some (Value.slice (valA r) (roomsN E R gs x.l).length (valC r)) from congrArg some (valR_eq (fun q => by have := h11 q; simpa [intsN] using this))) rfl rfl ?_
 refine xo_eql rfl rfl rfl rfl ?_
 refine xo_asg rfl rfl rfl ?_
 with_reducible (refine xo_nil ?_; (repeat (first | refine xqT ?_ | refine xqB ?_ | refine xqS ?_)); (repeat refine xc_seq ?_); refine xc_ret ?_; (repeat (first | refine xq_thenR ?_ | refine xq_blockR ?_ | refine xq_scopeR ?_)))
 exact xq_ret1 rfl rfl fun w' hw => ⟨rfl, hw.kx.below⟩
theorem againstF_enters : ∀ args w, (callFunc 47 args).run Tryz.prog w = .ok (.enter 47 args) w := enters_of Tryz.func47 (by kernel_rfl) rfl
/-! ### Why -/
def whyC (R E : Int) (gs : List GatT) (ms : List MarT) (room : Int) : Int := if sceneF R E gs ms = true then (if roomOK R room = true then (if canF E R.toNat gs room.toNat ms = true then 8 else 0) else 2) else 90
def whyL (R E : Int) (gs : List GatT) (ms : List MarT) (room : Int) : List Int := if whyC R E gs ms room = 0 then fewestL (fun l => !canF E R.toNat gs room.toNat l) (allSets ms) else []
set_option maxHeartbeats 8000000 in
theorem Why_calls (R E : Int) (A B : Option Addr) (c c2 : Nat) (gs : List GatT) (ms : List MarT) (room : Int) (w : World) (hs : SceneAt w A B gs ms) :
   Calls Tryz.prog 14 #[.agg (scnV R A gs.length c E B ms.length c2).toArray, .int .i64 room] w fun e w' => ∃ rr : RowR, e = .returned (.tuple #[valR rr (whyL R E gs ms room).length, .int .i64 (whyC R E gs ms room)]) ∧ RowAt 3 w.heap.size w' rr (whyL R E gs ms room) ∧ Below w.heap.size w w' := by
 refine x_calls (X := XNone) Tryz.func14 rfl rfl rfl ?_
 with_reducible ((repeat refine xc_seq ?_); refine xcR ?_)
 refine xo_box rfl rfl rfl rfl (fun b2 => ?_)
 refine xo_box rfl rfl rfl rfl (fun b3 => ?_)
 refine xo_asg rfl rfl rfl ?_
 refine xo_asg rfl rfl rfl ?_
 with_reducible (refine xo_nil ?_; (repeat (first | refine xqT ?_ | refine xqB ?_ | refine xqS ?_)))
 cases hsc : sceneF R E gs ms
 · have e1 : whyC R E gs ms room = 90 := by simp [whyC, hsc]
   have e2 : whyL R E gs ms room = [] := by rw [whyL, if_neg (by rw [e1]; decide)]
   with_reducible ((repeat refine xc_seq ?_); refine xcR ?_)
   refine xo_loadN T_ rfl rfl rfl (by repeat first | exact memH | apply memT | apply memA) rfl rfl ?_
   refine xo_load0 T_ rfl rfl rfl (by repeat first | exact memH | apply memT | apply memA) rfl rfl ?_
   refine xo_callB (fs := []) (cs := []) rfl rfl rfl roomed_enters rfl (fun w1 hw1 => roomed_no R E A B c c2 gs ms room w1 (hs.below hw1.kx.below).gates (hs.below hw1.kx.below).marks hs.bytes hsc) ?_
   refine xo_mv rfl rfl rfl ?_
   refine xo_ext rfl rfl rfl rfl ?_
   refine xo_ext rfl rfl rfl rfl ?_
   refine xo_alloc T_ rfl rfl rfl rfl (fun b6 => ?_)
   refine xo_store T_ rfl rfl rfl rfl (by repeat first | exact memH | apply memT | apply memA) rfl rfl rfl rfl (by repeat (first | exact Upd.head | apply Upd.tail | apply Upd.app)) rfl ?_
   refine xo_asg rfl rfl rfl ?_
   with_reducible (refine xo_nil ?_; (repeat (first | refine xqT ?_ | refine xqB ?_ | refine xqS ?_)); (repeat refine xc_seq ?_); refine xcR ?_)
   refine xo_mv rfl rfl rfl ?_
   refine xo_neq rfl rfl rfl rfl ?_
   with_reducible (refine xo_nil ?_; (repeat (first | refine xqT ?_ | refine xqB ?_ | refine xqS ?_)); (repeat refine xc_seq ?_))
   refine xc_condT rfl ?_
   with_reducible ((repeat refine xc_seq ?_); refine xcR ?_)
   refine xo_mv rfl rfl rfl ?_
   refine xo_asg rfl rfl rfl ?_
   refine xo_asg rfl rfl rfl ?_
   with_reducible (refine xo_nil ?_; (repeat (first | refine xqT ?_ | refine xqB ?_ | refine xqS ?_)); (repeat refine xc_seq ?_); refine xc_ret ?_; (repeat (first | refine xq_thenR ?_ | refine xq_blockR ?_ | refine xq_scopeR ?_)))
   exact xq_ret2 rfl rfl rfl fun w' hw => ⟨none, by rw [e1, e2]; rfl, by rw [e2]; exact ⟨fun _ => rfl, fun p hp => by cases hp⟩, hw.kx.below⟩
 cases hrm : roomOK R room
 · have e1 : whyC R E gs ms room = 2 := by simp [whyC, hsc, hrm]
   have e2 : whyL R E gs ms room = [] := by rw [whyL, if_neg (by rw [e1]; decide)]
   with_reducible ((repeat refine xc_seq ?_); refine xcR ?_)
   refine xo_loadN T_ rfl rfl rfl (by repeat first | exact memH | apply memT | apply memA) rfl rfl ?_
   refine xo_load0 T_ rfl rfl rfl (by repeat first | exact memH | apply memT | apply memA) rfl rfl ?_
   refine xo_callB (fs := []) (cs := []) rfl rfl rfl roomed_enters rfl (fun w1 hw1 => roomed_arg R E A B c c2 gs ms room w1 (hs.below hw1.kx.below).gates (hs.below hw1.kx.below).marks hs.bytes hsc hrm) ?_
   refine xo_mv rfl rfl rfl ?_
   refine xo_ext rfl rfl rfl rfl ?_
   refine xo_ext rfl rfl rfl rfl ?_
   refine xo_alloc T_ rfl rfl rfl rfl (fun b6 => ?_)
   refine xo_store T_ rfl rfl rfl rfl (by repeat first | exact memH | apply memT | apply memA) rfl rfl rfl rfl (by repeat (first | exact Upd.head | apply Upd.tail | apply Upd.app)) rfl ?_
   refine xo_asg rfl rfl rfl ?_
   with_reducible (refine xo_nil ?_; (repeat (first | refine xqT ?_ | refine xqB ?_ | refine xqS ?_)); (repeat refine xc_seq ?_); refine xcR ?_)
   refine xo_mv rfl rfl rfl ?_
   refine xo_neq rfl rfl rfl rfl ?_
   with_reducible (refine xo_nil ?_; (repeat (first | refine xqT ?_ | refine xqB ?_ | refine xqS ?_)); (repeat refine xc_seq ?_))
   refine xc_condT rfl ?_
   with_reducible ((repeat refine xc_seq ?_); refine xcR ?_)
   refine xo_mv rfl rfl rfl ?_
   refine xo_asg rfl rfl rfl ?_
   refine xo_asg rfl rfl rfl ?_
   with_reducible (refine xo_nil ?_; (repeat (first | refine xqT ?_ | refine xqB ?_ | refine xqS ?_)); (repeat refine xc_seq ?_); refine xc_ret ?_; (repeat (first | refine xq_thenR ?_ | refine xq_blockR ?_ | refine xq_scopeR ?_)))
   exact xq_ret2 rfl rfl rfl fun w' hw => ⟨none, by rw [e1, e2]; rfl, by rw [e2]; exact ⟨fun _ => rfl, fun p hp => by cases hp⟩, hw.kx.below⟩
 have e1 : whyC R E gs ms room = if canF E R.toNat gs room.toNat ms = true then 8 else 0 := by simp [whyC, hsc, hrm]
 unfold whyL
 rw [e1]
 clear e1
 obtain ⟨hR6, hE6, hG, hm8, hmk⟩ := sceneF_ok hsc
 have hmk' := marks_ok hR6 hmk
 have hids : IdsOK ms := ⟨hm8, ids_of (by omega) hmk⟩
 clear hmk
 obtain ⟨n, rfl, hn1, hn6⟩ := nat_of hR6
 obtain ⟨r, rfl, hr⟩ := roomOK_nat hn6 hrm
 have en : ((n : Nat) : Int).toNat = n := rfl
 have er : ((r : Nat) : Int).toNat = r := rfl
 rw [en, er]
 with_reducible ((repeat refine xc_seq ?_); refine xcR ?_)
 refine xo_loadN T_ rfl rfl rfl (by repeat first | exact memH | apply memT | apply memA) rfl rfl ?_
 refine xo_load0 T_ rfl rfl rfl (by repeat first | exact memH | apply memT | apply memA) rfl rfl ?_
 refine xo_call (fs := []) (cs := []) rfl rfl rfl roomed_enters rfl (fun w1 hw1 => (roomed_yes n E A B c c2 gs ms r w1 (hs.below hw1.kx.below).gates (hs.below hw1.kx.below).marks hs.bytes hsc hrm).mono ?_)
 rintro e w2 ⟨bs, pre, fb, fc, wb, wc, rfl, hp, hz⟩
 rw [en] at hz
 refine ⟨_, _, rfl, (hw1.join hz (fun e he => (siteH_own e he).1)).deflag, ?_⟩
 clear hz hw1
 refine xo_mv rfl rfl rfl ?_
 refine xo_ext rfl rfl rfl rfl ?_
 refine xo_ext rfl rfl rfl rfl ?_
 refine xo_alloc T_ rfl rfl rfl rfl (fun b6 => ?_)
 refine xo_store T_ rfl rfl rfl rfl (by repeat first | exact memH | apply memT | apply memA) rfl rfl rfl rfl (by repeat (first | exact Upd.head | apply Upd.tail | apply Upd.app)) rfl ?_
 refine xo_asg rfl rfl rfl ?_
 with_reducible (refine xo_nil ?_; (repeat (first | refine xqT ?_ | refine xqB ?_ | refine xqS ?_)); (repeat refine xc_seq ?_); refine xcR ?_)
 refine xo_mv rfl rfl rfl ?_
 refine xo_neq rfl rfl rfl rfl ?_
 with_reducible (refine xo_nil ?_; (repeat (first | refine xqT ?_ | refine xqB ?_ | refine xqS ?_)); (repeat refine xc_seq ?_))
 refine xc_condF rfl ?_
 with_reducible (refine xc_skip ?_; (repeat (first | refine xqT ?_ | refine xqB ?_ | refine xqS ?_)))
 refine xc_anew fun wA hwA => ?_
 have hbA := hwA.kx.below
 have hsA := siteOK_of (pre := pre) (c := c) (A := A) (nm := ms.length) (c2 := c2) (B := B) (bs := bs) (fb := fb) (fc := fc) (rw_ := some (wb, wc)) ⟨hn1, hn6⟩ hE6 hG (hs.below hbA).glob (hwA.inW fun e he => List.mem_cons_of_mem _ (List.mem_append_left _ (List.mem_map.2 ⟨e, he, rfl⟩))) hp
 have h6 := hwA.ro (b := b6) (wr := true) (t := 74) (List.Mem.head _)
 have h3 := hwA.ro (b := b3) (wr := true) (t := 3) (cs := [.int .i64 (r : Int)]) (by repeat first | exact memH | apply memT | apply memA)
 have h2 := hwA.ro (b := b2) (wr := true) (t := 25) (cs := scnV n A gs.length c E B ms.length c2) (by repeat first | exact memH | apply memT | apply memA)
 have hMA := mar_row (hs.below hbA).marks
 refine xc_slots [(2, .pointer (some ⟨b2, 0, none⟩)), (3, .pointer (some ⟨b3, 0, none⟩)), (6, .pointer (some ⟨b6, 0, none⟩))] ⟨rfl, rfl, rfl, trivial⟩ ?_
 clear hwA
 cases hc : canF E n gs r ms
 · with_reducible repeat refine xc_seq ?_
   with_reducible refine xcR ?_
   refine xo_loadR0 T_ rfl rfl rfl h6 rfl ?_
   refine xo_loadR0 T_ rfl rfl rfl h3 rfl ?_
   refine xo_fa T_ rfl rfl rfl rfl rfl ?_
   refine xo_loadR0 T_ rfl rfl rfl (h2.lit (j := 3) rfl) rfl ?_
   refine xo_callB (fs := []) (cs := []) rfl rfl rfl can_enters rfl (fun w1 hw1 => can_calls bs n E gs B B ms.length c2 c2 ms r w1 (hsA.below hw1.kx.below) (hMA.below hw1.kx.below) hm8 hmk' (by omega)) ?_
   refine xo_as (i := 21) rfl (congrArg Value.bool hc) ?_
   with_reducible (refine xo_nil ?_; (repeat (first | refine xqT ?_ | refine xqB ?_ | refine xqS ?_)); (repeat refine xc_seq ?_))
   refine xc_condF rfl ?_
   with_reducible (refine xc_skip ?_; (repeat (first | refine xqT ?_ | refine xqB ?_ | refine xqS ?_)); (repeat refine xc_seq ?_); refine xcR ?_)
   refine xo_loadR0 T_ rfl rfl rfl h6 rfl ?_
   refine xo_mkf rfl rfl rfl rfl ?_
   refine xo_call (fs := []) (cs := []) rfl rfl rfl fewest_enters rfl (fun w1 hw1 => (fewest_calls (fun l => !canF E n gs r l) 38 [.pointer (some ⟨b6, 0, none⟩), .pointer (some ⟨b3, 0, none⟩)] whyF_enters bs n E gs B c2 ms w1 (hsA.below hw1.kx.below) (hMA.below hw1.kx.below) hids (fun x W hW hx => whyF_calls bs b6 b3 n E gs B c2 ms r wA hsA hm8 hmk' (by omega) h6 h3 x W (below_step hw1.kx.below hW) hx)).mono ?_)
   rintro e w2 ⟨rr, rfl, hrw, hb⟩
   have h11 := hrw.1
   refine ⟨_, _, rfl, hw1.row hb hrw, ?_⟩
   clear hrw hb hw1
   refine xo_asg rfl rfl rfl ?_
   refine xo_asg rfl rfl rfl ?_
   with_reducible (refine xo_nil ?_; (repeat (first | refine xqT ?_ | refine xqB ?_ | refine xqS ?_)); (repeat refine xc_seq ?_); refine xc_ret ?_; (repeat (first | refine xq_thenR ?_ | refine xq_blockR ?_ | refine xq_scopeR ?_)))
   exact xq_ret2 rfl rfl rfl fun w' hw => ⟨rr, rfl, (RowAt.of hw h11).mono hbA.size, below_step hbA hw.kx.below⟩
 · with_reducible repeat refine xc_seq ?_
   with_reducible refine xcR ?_
   refine xo_loadR0 T_ rfl rfl rfl h6 rfl ?_
   refine xo_loadR0 T_ rfl rfl rfl h3 rfl ?_
   refine xo_fa T_ rfl rfl rfl rfl rfl ?_
   refine xo_loadR0 T_ rfl rfl rfl (h2.lit (j := 3) rfl) rfl ?_
   refine xo_callB (fs := []) (cs := []) rfl rfl rfl can_enters rfl (fun w1 hw1 => can_calls bs n E gs B B ms.length c2 c2 ms r w1 (hsA.below hw1.kx.below) (hMA.below hw1.kx.below) hm8 hmk' (by omega)) ?_
   refine xo_as (i := 21) rfl (congrArg Value.bool hc) ?_
   with_reducible (refine xo_nil ?_; (repeat (first | refine xqT ?_ | refine xqB ?_ | refine xqS ?_)); (repeat refine xc_seq ?_))
   refine xc_condT rfl ?_
   with_reducible ((repeat refine xc_seq ?_); refine xcR ?_)
   refine xo_asg rfl rfl rfl ?_
   refine xo_asg rfl rfl rfl ?_
   with_reducible (refine xo_nil ?_; (repeat (first | refine xqT ?_ | refine xqB ?_ | refine xqS ?_)); (repeat refine xc_seq ?_); refine xc_ret ?_; (repeat (first | refine xq_thenR ?_ | refine xq_blockR ?_ | refine xq_scopeR ?_)))
   exact xq_ret2 rfl rfl rfl fun w' hw => ⟨none, rfl, ⟨fun _ => rfl, fun p hp => by cases hp⟩, below_step hbA hw.kx.below⟩
theorem Why_enters : ∀ args w, (callFunc 14 args).run Tryz.prog w = .ok (.enter 14 args) w := enters_of Tryz.func14 (by kernel_rfl) rfl
/-! ### Against -/
def againstL (R E : Int) (gs : List GatT) (ms : List MarT) : List Int := if sceneF R E gs ms = true ∧ (roomsN E R.toNat gs ms).length = 0 then fewestL (fun l => decide (((roomsN E R.toNat gs l).length : Int) = 0)) (allSets ms) else []
set_option maxHeartbeats 8000000 in
theorem Against_calls (R E : Int) (A B : Option Addr) (c c2 : Nat) (gs : List GatT) (ms : List MarT) (w : World) (hs : SceneAt w A B gs ms) :
   Calls Tryz.prog 16 #[.agg (scnV R A gs.length c E B ms.length c2).toArray] w fun e w' => ∃ rr : RowR, e = .returned (.tuple #[valR rr (againstL R E gs ms).length, .int .i64 (checkF R E gs ms)]) ∧ RowAt 3 w.heap.size w' rr (againstL R E gs ms) ∧ Below w.heap.size w w' := by
 refine x_calls (X := XNone) Tryz.func16 rfl rfl rfl ?_
 with_reducible ((repeat refine xc_seq ?_); refine xcR ?_)
 refine xo_box rfl rfl rfl rfl (fun b1 => ?_)
 refine xo_asg rfl rfl rfl ?_
 refine xo_asg rfl rfl rfl ?_
 with_reducible (refine xo_nil ?_; (repeat (first | refine xqT ?_ | refine xqB ?_ | refine xqS ?_)))
 cases hsc : sceneF R E gs ms
 · have e1 := check_no hsc
   have e2 : againstL R E gs ms = [] := by rw [againstL, if_neg (by simp [hsc])]
   with_reducible ((repeat refine xc_seq ?_); refine xcR ?_)
   refine xo_loadN T_ rfl rfl rfl (by repeat first | exact memH | apply memT | apply memA) rfl rfl ?_
   refine xo_callB (fs := []) (cs := []) rfl rfl rfl open_enters rfl (fun w1 hw1 => open_no R E A B c c2 gs ms w1 (hs.below hw1.kx.below).gates (hs.below hw1.kx.below).marks hs.bytes hsc) ?_
   refine xo_mv rfl rfl rfl ?_
   refine xo_ext rfl rfl rfl rfl ?_
   refine xo_ext rfl rfl rfl rfl ?_
   refine xo_alloc T_ rfl rfl rfl rfl (fun b4 => ?_)
   refine xo_store T_ rfl rfl rfl rfl (by repeat first | exact memH | apply memT | apply memA) rfl rfl rfl rfl (by repeat (first | exact Upd.head | apply Upd.tail | apply Upd.app)) rfl ?_
   refine xo_asg rfl rfl rfl ?_
   with_reducible (refine xo_nil ?_; (repeat (first | refine xqT ?_ | refine xqB ?_ | refine xqS ?_)); (repeat refine xc_seq ?_); refine xcR ?_)
   refine xo_mv rfl rfl rfl ?_
   refine xo_neq rfl rfl rfl rfl ?_
   with_reducible (refine xo_nil ?_; (repeat (first | refine xqT ?_ | refine xqB ?_ | refine xqS ?_)); (repeat refine xc_seq ?_))
   refine xc_condT rfl ?_
   with_reducible ((repeat refine xc_seq ?_); refine xcR ?_)
   refine xo_mv rfl rfl rfl ?_
   refine xo_asg rfl rfl rfl ?_
   refine xo_asg rfl rfl rfl ?_
   with_reducible (refine xo_nil ?_; (repeat (first | refine xqT ?_ | refine xqB ?_ | refine xqS ?_)); (repeat refine xc_seq ?_); refine xc_ret ?_; (repeat (first | refine xq_thenR ?_ | refine xq_blockR ?_ | refine xq_scopeR ?_)))
   exact xq_ret2 rfl rfl rfl fun w' hw => ⟨none, by rw [e1, e2]; rfl, by rw [e2]; exact ⟨fun _ => rfl, fun p hp => by cases hp⟩, hw.kx.below⟩
 have e1 : checkF R E gs ms = 0 := by rw [checkF, if_pos hsc]
 rw [e1]
 clear e1
 have e2 : againstL R E gs ms = if (roomsN E R.toNat gs ms).length = 0 then fewestL (fun l => decide (((roomsN E R.toNat gs l).length : Int) = 0)) (allSets ms) else [] := by
   unfold againstL
   simp [hsc]
 rw [e2]
 clear e2
 obtain ⟨hR6, hE6, hG, hm8, hmk⟩ := sceneF_ok hsc
 have hmk' := marks_ok hR6 hmk
 have hids : IdsOK ms := ⟨hm8, ids_of (by omega) hmk⟩
 clear hmk
 obtain ⟨n, rfl, hn1, hn6⟩ := nat_of hR6
 have en : ((n : Nat) : Int).toNat = n := rfl
 rw [en]
 with_reducible ((repeat refine xc_seq ?_); refine xcR ?_)
 refine xo_loadN T_ rfl rfl rfl (by repeat first | exact memH | apply memT | apply memA) rfl rfl ?_
 refine xo_call (fs := []) (cs := []) rfl rfl rfl open_enters rfl (fun w1 hw1 => (open_yes n E A B c c2 gs ms w1 (hs.below hw1.kx.below).gates (hs.below hw1.kx.below).marks hs.bytes hsc).mono ?_)
 rintro e w2 ⟨bs, pre, fb, fc, wb, wc, rfl, hp, hz⟩
 rw [en] at hz
 refine ⟨_, _, rfl, (hw1.join hz (fun e he => (siteH_own e he).1)).deflag, ?_⟩
 clear hz hw1
 refine xo_mv rfl rfl rfl ?_
 refine xo_ext rfl rfl rfl rfl ?_
 refine xo_ext rfl rfl rfl rfl ?_
 refine xo_alloc T_ rfl rfl rfl rfl (fun b4 => ?_)
 refine xo_store T_ rfl rfl rfl rfl (by repeat first | exact memH | apply memT | apply memA) rfl rfl rfl rfl (by repeat (first | exact Upd.head | apply Upd.tail | apply Upd.app)) rfl ?_
 refine xo_asg rfl rfl rfl ?_
 with_reducible (refine xo_nil ?_; (repeat (first | refine xqT ?_ | refine xqB ?_ | refine xqS ?_)); (repeat refine xc_seq ?_); refine xcR ?_)
 refine xo_mv rfl rfl rfl ?_
 refine xo_neq rfl rfl rfl rfl ?_
 with_reducible (refine xo_nil ?_; (repeat (first | refine xqT ?_ | refine xqB ?_ | refine xqS ?_)); (repeat refine xc_seq ?_))
 refine xc_condF rfl ?_
 with_reducible (refine xc_skip ?_; (repeat (first | refine xqT ?_ | refine xqB ?_ | refine xqS ?_)))
 refine xc_anew fun wA hwA => ?_
 have hbA := hwA.kx.below
 have hsA := siteOK_of (pre := pre) (c := c) (A := A) (nm := ms.length) (c2 := c2) (B := B) (bs := bs) (fb := fb) (fc := fc) (rw_ := some (wb, wc)) ⟨hn1, hn6⟩ hE6 hG (hs.below hbA).glob (hwA.inW fun e he => List.mem_cons_of_mem _ (List.mem_append_left _ (List.mem_map.2 ⟨e, he, rfl⟩))) hp
 have h4 := hwA.ro (b := b4) (wr := true) (t := 74) (List.Mem.head _)
 have h1 := hwA.ro (b := b1) (wr := true) (t := 25) (cs := scnV n A gs.length c E B ms.length c2) (by repeat first | exact memH | apply memT | apply memA)
 have hMA := mar_row (hs.below hbA).marks
 refine xc_slots [(1, .pointer (some ⟨b1, 0, none⟩)), (4, .pointer (some ⟨b4, 0, none⟩))] ⟨rfl, rfl, trivial⟩ ?_
 clear hwA
 cases hc : decide ((0 : Int) < (roomsN E n gs ms).length)
 · have h0 : (roomsN E n gs ms).length = 0 := by have := of_decide_eq_false hc; omega
   rw [if_pos h0]
   with_reducible ((repeat refine xc_seq ?_); refine xcR ?_)
   refine xo_loadR0 T_ rfl rfl rfl h4 rfl ?_
   refine xo_fa T_ rfl rfl rfl rfl rfl ?_
   refine xo_loadR0 T_ rfl rfl rfl (h1.lit (j := 3) rfl) rfl ?_
   refine xo_call (fs := []) (cs := []) rfl rfl rfl rooms_enters rfl (fun w1 hw1 => (rooms_calls bs n E gs B B ms.length c2 c2 ms w1 (hsA.below hw1.kx.below) (hMA.below hw1.kx.below) hm8 hmk').mono ?_)
   rintro e w2 ⟨r, rfl, hrw, hb⟩
   have h11 := hrw.1
   refine ⟨_, _, rfl, hw1.below hb, ?_⟩
   clear hrw hb hw1
   refine xo_len T_ rfl (show _ = some (Value.slice (valA r) (roomsN E n gs ms).length (valC r)) from congrArg some (valR_eq (fun q => by have := h11 q; simpa [intsN] using this))) rfl rfl ?_
   refine xo_gtr rfl rfl rfl rfl ?_
   refine xo_as (i := 19) rfl (congrArg Value.bool hc) ?_
   with_reducible (refine xo_nil ?_; (repeat (first | refine xqT ?_ | refine xqB ?_ | refine xqS ?_)); (repeat refine xc_seq ?_))
   refine xc_condF rfl ?_
   with_reducible (refine xc_skip ?_; (repeat (first | refine xqT ?_ | refine xqB ?_ | refine xqS ?_)); (repeat refine xc_seq ?_); refine xcR ?_)
   refine xo_loadR0 T_ rfl rfl rfl h4 rfl ?_
   refine xo_mkf rfl rfl rfl rfl ?_
   refine xo_call (fs := []) (cs := []) rfl rfl rfl fewest_enters rfl (fun w1 hw1 => (fewest_calls (fun l => decide (((roomsN E n gs l).length : Int) = 0)) 47 [.pointer (some ⟨b4, 0, none⟩)] againstF_enters bs n E gs B c2 ms w1 (hsA.below hw1.kx.below) (hMA.below hw1.kx.below) hids (fun x W hW hx => againstF_calls bs b4 n E gs B c2 ms wA hsA hm8 hmk' h4 x W (below_step hw1.kx.below hW) hx)).mono ?_)
   rintro e w2 ⟨rr, rfl, hrw, hb⟩
   have h11 := hrw.1
   refine ⟨_, _, rfl, hw1.row hb hrw, ?_⟩
   clear hrw hb hw1
   refine xo_asg rfl rfl rfl ?_
   refine xo_asg rfl rfl rfl ?_
   with_reducible (refine xo_nil ?_; (repeat (first | refine xqT ?_ | refine xqB ?_ | refine xqS ?_)); (repeat refine xc_seq ?_); refine xc_ret ?_; (repeat (first | refine xq_thenR ?_ | refine xq_blockR ?_ | refine xq_scopeR ?_)))
   exact xq_ret2 rfl rfl rfl fun w' hw => ⟨rr, rfl, (RowAt.of hw h11).mono hbA.size, below_step hbA hw.kx.below⟩
 · have h0 : ¬ (roomsN E n gs ms).length = 0 := by have := of_decide_eq_true hc; omega
   rw [if_neg h0]
   with_reducible ((repeat refine xc_seq ?_); refine xcR ?_)
   refine xo_loadR0 T_ rfl rfl rfl h4 rfl ?_
   refine xo_fa T_ rfl rfl rfl rfl rfl ?_
   refine xo_loadR0 T_ rfl rfl rfl (h1.lit (j := 3) rfl) rfl ?_
   refine xo_call (fs := []) (cs := []) rfl rfl rfl rooms_enters rfl (fun w1 hw1 => (rooms_calls bs n E gs B B ms.length c2 c2 ms w1 (hsA.below hw1.kx.below) (hMA.below hw1.kx.below) hm8 hmk').mono ?_)
   rintro e w2 ⟨r, rfl, hrw, hb⟩
   have h11 := hrw.1
   refine ⟨_, _, rfl, hw1.below hb, ?_⟩
   clear hrw hb hw1
   refine xo_len T_ rfl (show _ = some (Value.slice (valA r) (roomsN E n gs ms).length (valC r)) from congrArg some (valR_eq (fun q => by have := h11 q; simpa [intsN] using this))) rfl rfl ?_
   refine xo_gtr rfl rfl rfl rfl ?_
   refine xo_as (i := 19) rfl (congrArg Value.bool hc) ?_
   with_reducible (refine xo_nil ?_; (repeat (first | refine xqT ?_ | refine xqB ?_ | refine xqS ?_)); (repeat refine xc_seq ?_))
   refine xc_condT rfl ?_
   with_reducible ((repeat refine xc_seq ?_); refine xcR ?_)
   refine xo_asg rfl rfl rfl ?_
   refine xo_asg rfl rfl rfl ?_
   with_reducible (refine xo_nil ?_; (repeat (first | refine xqT ?_ | refine xqB ?_ | refine xqS ?_)); (repeat refine xc_seq ?_); refine xc_ret ?_; (repeat (first | refine xq_thenR ?_ | refine xq_blockR ?_ | refine xq_scopeR ?_)))
   exact xq_ret2 rfl rfl rfl fun w' hw => ⟨none, rfl, ⟨fun _ => rfl, fun p hp => by cases hp⟩, below_step hbA hw.kx.below⟩
theorem Against_enters : ∀ args w, (callFunc 16 args).run Tryz.prog w = .ok (.enter 16 args) w := enters_of Tryz.func16 (by kernel_rfl) rfl
end Go.Proofs.YtommeljlfkmpjaaGreatDoor
namespace Go.Proofs.YtommeljlfkmpjaaGreatDoor
open Go.RowKit
set_option linter.unusedVariables false
set_option linter.unusedSimpArgs false
section
variable {P : Program} {ro : Option Nat} {n N : Nat} {ds : List Deferred} {w0 : World} {X : Nat → Prop} {Q : Exit → Act → World → Prop} {σ : Slots} {η : Hp} {ops rest : List Oper}
/-- both ways of a test meet here (the sequence is taken apart already) -/
theorem xc_meet2 {γ : Type} {x y : Code} (C : γ → Prop) (S : γ → Slots) (H : γ → Hp) (h1 : XC P ro n N ds w0 X (Exit.then (fun a w => ∃ g, C g ∧ SOK N ds (S g) a ∧ WOK w0 X (H g) w) Q) σ η x)
   (h2 : ∀ g, C g → XC P ro n N ds w0 X Q (S g) (H g) y) : XC P ro n N ds w0 X (Exit.then (y.wpIn (wideR ro) n P Q) Q) σ η x := fun a w ha hw => wpIn_mono (h1 a w ha hw) (by
 intro e a' w' hq
 cases e with
 | normal => obtain ⟨g, hg, h3, h4⟩ := hq; exact h2 g hg a' w' h3 h4
 | exit id => exact hq
 | goto l => exact hq
 | ret => exact hq
 | panic c => exact hq
 | outgrown => exact hq)
theorem xo_lit {i : Tmp} {b : Bool} (hb : slot i σ = some (.bool b)) (h : XO P ro n N ds w0 X Q ops σ η rest) : XO P ro n N ds w0 X Q ops σ η rest := h
end
end Go.Proofs.YtommeljlfkmpjaaGreatDoor
namespace Go.Proofs.YtommeljlfkmpjaaGreatDoor
open Go.RowKit Go.Proofs.YtommeljlfkmpjaaGreatDoorW.PrintWords
set_option linter.unusedVariables false
set_option linter.unusedSimpArgs false
theorem within_calls (n lo hi : Int) (w : World) : Calls Tryz.prog 40 #[.int .i64 n, .int .i64 lo, .int .i64 hi] w fun e w' => e = .returned (.bool (inF lo hi n)) ∧ Below w.heap.size w w' := by
 refine x_calls (X := XNone) Tryz.func40 rfl rfl rfl ?_
 with_reducible ((repeat refine xc_seq ?_); refine xcR ?_)
 refine xo_asg rfl rfl rfl ?_
 with_reducible (refine xo_nil ?_; (repeat (first | refine xqT ?_ | refine xqB ?_ | refine xqS ?_)); (repeat refine xc_seq ?_))
 refine xc_meet2 (γ := Unit) (fun _ => True) (fun _ => [(6, .bool (inF lo hi n))]) (fun _ => []) ?_ (fun _ _ => ?_)
 · with_reducible refine xcR ?_
   refine xo_mv rfl rfl rfl ?_
   refine xo_mv rfl rfl rfl ?_
   refine xo_geq rfl rfl rfl rfl ?_
   refine xo_mv rfl rfl rfl ?_
   first
     | refine xo_lit (i := 10) (b := true) rfl ?_
     | refine xo_lit (i := 10) (b := false) rfl ?_
     | refine xo_split (i := 10) rfl rfl (fun h10 => ?_) (fun h10 => ?_)
   all_goals
     try simp only [decide_eq_true_eq, decide_eq_false_iff_not] at h10
     (first | refine xo_not rfl rfl ?_ | (refine xo_mv rfl rfl rfl ?_))
     (first | refine xo_not rfl rfl ?_ | (refine xo_mv rfl rfl rfl ?_))
     (first | refine xo_not rfl rfl ?_ | (refine xo_leq rfl rfl rfl rfl ?_))
     first | refine xo_pickT rfl rfl rfl rfl ?_ | refine xo_pickF rfl rfl rfl rfl ?_
     refine xo_asg rfl rfl rfl ?_
     with_reducible refine xo_nil ?_
     exact xq_meet (fun _ => True) _ _ () trivial ⟨(by first | rfl | exact congrArg (fun b => some (Value.bool b)) (by first | simp [h10, inF] | simp [inF])), trivial⟩ (by repeat (first | exact List.Sublist.refl _ | apply List.Sublist.cons_cons | apply List.Sublist.cons | exact List.nil_sublist _))
 with_reducible ((repeat (first | refine xqT ?_ | refine xqB ?_ | refine xqS ?_)); (repeat refine xc_seq ?_); refine xc_ret ?_; (repeat (first | refine xq_thenR ?_ | refine xq_blockR ?_ | refine xq_scopeR ?_)))
 exact xq_ret1 rfl rfl fun w' hw => ⟨rfl, hw.kx.below⟩
theorem within_enters : ∀ args w, (callFunc 40 args).run Tryz.prog w = .ok (.enter 40 args) w := enters_of Tryz.func40 (by kernel_rfl) rfl
def greatF (gs : List GatT) (ms : List MarT) : Bool := decide ((10 : Int) < gs.length) || decide ((12 : Int) < ms.length)
theorem great_calls (R E : Int) (A B : Option Addr) (c c2 : Nat) (gs : List GatT) (ms : List MarT) (w : World) : Calls Tryz.prog 12 #[.agg (scnV R A gs.length c E B ms.length c2).toArray] w fun e w' => e = .returned (.bool (greatF gs ms)) ∧ Below w.heap.size w w' := by
 refine x_calls (X := XNone) Tryz.func12 rfl rfl rfl ?_
 with_reducible ((repeat refine xc_seq ?_); refine xcR ?_)
 refine xo_box rfl rfl rfl rfl (fun b1 => ?_)
 refine xo_asg rfl rfl rfl ?_
 with_reducible (refine xo_nil ?_; (repeat (first | refine xqT ?_ | refine xqB ?_ | refine xqS ?_)); (repeat refine xc_seq ?_))
 refine xc_meet2 (γ := Unit) (fun _ => True) (fun _ => [(2, .bool (greatF gs ms))]) (fun _ => []) ?_ (fun _ _ => ?_)
 · with_reducible refine xcR ?_
   refine xo_fa T_ rfl rfl rfl rfl rfl ?_
   refine xo_load0 T_ (cs := scnV R A gs.length c E B ms.length c2) rfl rfl rfl (List.Mem.head _) rfl rfl ?_
   refine xo_len T_ rfl rfl rfl rfl ?_
   refine xo_gtr rfl rfl rfl rfl ?_
   refine xo_mv rfl rfl rfl ?_
   first
     | refine xo_lit (i := 7) (b := true) rfl ?_
     | refine xo_lit (i := 7) (b := false) rfl ?_
     | refine xo_split (i := 7) rfl rfl (fun h7 => ?_) (fun h7 => ?_)
   all_goals
     try simp only [decide_eq_true_eq, decide_eq_false_iff_not] at h7
     (first | refine xo_not rfl rfl ?_ | (refine xo_fa T_ rfl rfl rfl rfl rfl ?_))
     (first | refine xo_not rfl rfl ?_ | (refine xo_load0 T_ (cs := scnV R A gs.length c E B ms.length c2) rfl rfl rfl (List.Mem.head _) rfl rfl ?_))
     (first | refine xo_not rfl rfl ?_ | (refine xo_len T_ rfl rfl rfl rfl ?_))
     (first | refine xo_not rfl rfl ?_ | (refine xo_gtr rfl rfl rfl rfl ?_))
     first | refine xo_pickT rfl rfl rfl rfl ?_ | refine xo_pickF rfl rfl rfl rfl ?_
     refine xo_asg rfl rfl rfl ?_
     with_reducible refine xo_nil ?_
     exact xq_meet (fun _ => True) _ _ () trivial ⟨(by first | rfl | exact congrArg (fun b => some (Value.bool b)) (by first | simp [h7, greatF] | simp [greatF])), trivial⟩ (by repeat (first | exact List.Sublist.refl _ | apply List.Sublist.cons_cons | apply List.Sublist.cons | exact List.nil_sublist _))
 with_reducible ((repeat (first | refine xqT ?_ | refine xqB ?_ | refine xqS ?_)); (repeat refine xc_seq ?_); refine xc_ret ?_; (repeat (first | refine xq_thenR ?_ | refine xq_blockR ?_ | refine xq_scopeR ?_)))
 exact xq_ret1 rfl rfl fun w' hw => ⟨rfl, hw.kx.below⟩
theorem great_enters : ∀ args w, (callFunc 12 args).run Tryz.prog w = .ok (.enter 12 args) w := enters_of Tryz.func12 (by kernel_rfl) rfl
/-! ### comparisons -/
def spaE (x y : SpaT) : Bool := decide (x.f0 = y.f0) && decide (x.f1 = y.f1)
theorem spaE_iff {x y : SpaT} : spaE x y = true ↔ x = y := by
 obtain ⟨a, b⟩ := x
 obtain ⟨c, d⟩ := y
 simp [spaE]
theorem spa_ne (p q : Operand) (x y : SpaT) (w : World) : (eqGuard .neq 45 p q (.agg (spaV x).toArray) (.agg (spaV y).toArray)).run Tryz.prog w = .ok () w ∧ (binOp .neq 45 (.agg (spaV x).toArray) (.agg (spaV y).toArray)).run Tryz.prog w = .ok (.bool (!spaE x y)) w := by
 obtain ⟨a, b⟩ := x
 obtain ⟨c, d⟩ := y
 refine ⟨by simp only [spaV]; go_simp, ?_⟩
 simp only [spaE, spaV]
 go_simp
 repeat' split
 all_goals simp_all
section
variable {P : Program} {ro : Option Nat} {n N : Nat} {ds : List Deferred} {w0 : World} {X : Nat → Prop} {Q : Exit → Act → World → Prop} {σ : Slots} {η : Hp} {ops rest : List Oper} {d : Option Tmp} {ty : TypeId} {pos : String} {aft : Array Edge} {g : Option (Nat × Bool)}
theorem xo_neqV {t t' : TypeId} {x y : Operand} {u v : Value} {r : Bool} (hg : gS ops σ g = some true) (hx : ev σ x = some u) (hy : ev σ y = some v) (he : ∀ w, (eqGuard .neq t x y u v).run P w = .ok () w ∧ (binOp .neq t u v).run P w = .ok (.bool r) w) (hN : dstOK N d = true)
   (h : XO P ro n N ds w0 X Q ops (putS d (.bool r) σ) η rest) : XO P ro n N ds w0 X Q ops σ η (⟨d, .binOp .neq t x y t', ty, pos, aft, g⟩ :: rest) :=
 xo_val _ rfl hg hN (fun _ w ha hw => by
   obtain ⟨h1, h2⟩ := he w
   simp [execOp, ha.ev hx, ha.ev hy, h1, h2]) h
end
theorem take_eq_succ {α : Type} {xs ys : List α} (z : α) {k : Nat} (h1 : k < xs.length) (h2 : k < ys.length) (h : xs.take k = ys.take k) (e : xs.getD k z = ys.getD k z) : xs.take (k + 1) = ys.take (k + 1) := by
 have a1 : xs.getD k z = xs[k] := by simp [List.getD_eq_getElem?_getD, List.getElem?_eq_getElem h1]
 have a2 : ys.getD k z = ys[k] := by simp [List.getD_eq_getElem?_getD, List.getElem?_eq_getElem h2]
 rw [List.take_add_one, List.take_add_one, List.getElem?_eq_getElem h1, List.getElem?_eq_getElem h2, h, ← a1, ← a2, e]
abbrev IntsAt (w : World) (A : Option Addr) (xs : List Int) : Prop := RowOf (fun x : Int => [Value.int .i64 x]) 0 0 w A xs
theorem sameInts_calls (A1 A2 : Option Addr) (c1 c2 : Nat) (xs ys : List Int) (w : World) (r1 : IntsAt w A1 xs) (r2 : IntsAt w A2 ys) (l1 : xs.length ≤ 1000000) :
   Calls Tryz.prog 18 #[.slice A1 xs.length c1, .slice A2 ys.length c2] w fun e w' => e = .returned (.bool (decide (xs = ys))) ∧ Below w.heap.size w w' := by
 refine x_calls (X := XNone) Tryz.func18 rfl rfl rfl ?_
 with_reducible ((repeat refine xc_seq ?_); refine xcR ?_)
 refine xo_asg rfl rfl rfl ?_
 with_reducible (refine xo_nil ?_; (repeat (first | refine xqT ?_ | refine xqB ?_ | refine xqS ?_)))
 cases hl : decide ((xs.length : Int) = ys.length)
 · have hne : ¬ xs = ys := fun e => (of_decide_eq_false hl) (by rw [e])
   with_reducible ((repeat refine xc_seq ?_); refine xcR ?_)
   refine xo_mv rfl rfl rfl ?_
   refine xo_len T_ rfl rfl rfl rfl ?_
   refine xo_mv rfl rfl rfl ?_
   refine xo_len T_ rfl rfl rfl rfl ?_
   refine xo_neq rfl rfl rfl rfl ?_
   refine xo_as (i := 10) rfl (congrArg (fun b => Value.bool !b) hl) ?_
   with_reducible (refine xo_nil ?_; (repeat (first | refine xqT ?_ | refine xqB ?_ | refine xqS ?_)); (repeat refine xc_seq ?_))
   refine xc_condT rfl ?_
   with_reducible ((repeat refine xc_seq ?_); refine xcR ?_)
   refine xo_asg rfl rfl rfl ?_
   with_reducible (refine xo_nil ?_; (repeat (first | refine xqT ?_ | refine xqB ?_ | refine xqS ?_)); (repeat refine xc_seq ?_); refine xc_ret ?_; (repeat (first | refine xq_thenR ?_ | refine xq_blockR ?_ | refine xq_scopeR ?_)))
   exact xq_ret1 rfl rfl fun w' hw => ⟨by rw [decide_eq_false hne], hw.kx.below⟩
 have hlen : xs.length = ys.length := by have := of_decide_eq_true hl; omega
 with_reducible ((repeat refine xc_seq ?_); refine xcR ?_)
 refine xo_mv rfl rfl rfl ?_
 refine xo_len T_ rfl rfl rfl rfl ?_
 refine xo_mv rfl rfl rfl ?_
 refine xo_len T_ rfl rfl rfl rfl ?_
 refine xo_neq rfl rfl rfl rfl ?_
 refine xo_as (i := 10) rfl (congrArg (fun b => Value.bool !b) hl) ?_
 with_reducible (refine xo_nil ?_; (repeat (first | refine xqT ?_ | refine xqB ?_ | refine xqS ?_)); (repeat refine xc_seq ?_))
 refine xc_condF rfl ?_
 with_reducible (refine xc_skip ?_; (repeat (first | refine xqT ?_ | refine xqB ?_ | refine xqS ?_)); (repeat refine xc_seq ?_); refine xcR ?_)
 refine xo_asg rfl rfl rfl ?_
 with_reducible (refine xo_nil ?_; (repeat (first | refine xqT ?_ | refine xqB ?_ | refine xqS ?_)); (repeat refine xc_seq ?_); refine xc_block ?_)
 refine xc_loop (γ := Nat) (fun k => k ≤ xs.length ∧ xs.take k = ys.take k) (fun k => [(0, .slice A1 xs.length c1), (1, .slice A2 ys.length c2), (5, .int .i64 (k : Int))]) (fun _ => []) (fun k => xs.length - k) 0 ⟨Nat.zero_le _, rfl⟩ ⟨rfl, rfl, rfl, trivial⟩ (List.nil_sublist _) ?_
 rintro k ⟨hk, heq⟩
 with_reducible ((repeat refine xc_seq ?_); refine xcR ?_)
 refine xo_mv rfl rfl rfl ?_
 refine xo_mv rfl rfl rfl ?_
 refine xo_len T_ rfl rfl rfl rfl ?_
 refine xo_lss rfl rfl rfl rfl ?_
 with_reducible (refine xo_nil ?_; (repeat (first | refine xqT ?_ | refine xqB ?_ | refine xqS ?_)); (repeat refine xc_seq ?_))
 refine xc_cond rfl (fun h => ?_) (fun h => ?_)
 · have hlt : k < xs.length := by have := of_decide_eq_true h; omega
   obtain ⟨ad1, rfl, q1⟩ := r1 k hlt
   obtain ⟨ad2, rfl, q2⟩ := r2 k (by omega)
   with_reducible (refine xc_skip ?_; (repeat (first | refine xqT ?_ | refine xqB ?_ | refine xqS ?_)); (repeat refine xc_seq ?_); refine xc_block ?_)
   refine xc_slots [(0, .slice (some ad1) xs.length c1), (1, .slice (some ad2) ys.length c2), (5, .int .i64 (k : Int))] ⟨rfl, rfl, rfl, trivial⟩ ?_
   with_reducible (repeat refine xc_seq ?_)
   apply xc_drawN
   · exact T_.mixed
   · rfl
   · rfl
   · rfl
   · rfl
   · apply DrawOps.cons
     · intro τ
       refine xo_mv rfl rfl rfl ?_
       exact xo_fin rfl
     apply DrawOps.cons
     · intro τ
       refine xo_mv rfl rfl rfl ?_
       exact xo_fin rfl
     apply DrawOps.cons
     · intro τ
       refine xo_ia T_ rfl rfl rfl rfl rfl ⟨by omega, by omega⟩ rfl ?_
       exact xo_fin rfl
     apply DrawOps.cons
     · intro τ
       refine xo_loadR0 T_ rfl rfl rfl q1 rfl ?_
       exact xo_fin rfl
     apply DrawOps.cons
     · intro τ
       refine xo_mv rfl rfl rfl ?_
       exact xo_fin rfl
     apply DrawOps.cons
     · intro τ
       refine xo_mv rfl rfl rfl ?_
       exact xo_fin rfl
     apply DrawOps.cons
     · intro τ
       refine xo_ia T_ rfl rfl rfl rfl rfl ⟨by omega, by omega⟩ rfl ?_
       exact xo_fin rfl
     apply DrawOps.cons
     · intro τ
       refine xo_loadR0 T_ rfl rfl rfl q2 rfl ?_
       exact xo_fin rfl
     apply DrawOps.cons
     · intro τ
       refine xo_neq rfl rfl rfl rfl ?_
       exact xo_fin rfl
     exact DrawOps.nil
   · rfl
   with_reducible ((repeat (first | refine xqT ?_ | refine xqB ?_ | refine xqS ?_)); (repeat refine xc_seq ?_))
   refine xc_cond rfl (fun h2 => ?_) (fun h2 => ?_)
   · have hne : xs.getD k 0 ≠ ys.getD k 0 := by simpa using h2
     with_reducible ((repeat refine xc_seq ?_); refine xcR ?_)
     refine xo_asg rfl rfl rfl ?_
     with_reducible (refine xo_nil ?_; (repeat (first | refine xqT ?_ | refine xqB ?_ | refine xqS ?_)); (repeat refine xc_seq ?_); refine xc_ret ?_; (repeat (first | refine xq_thenR ?_ | refine xq_blockR ?_ | refine xq_scopeR ?_)))
     exact xq_ret1 rfl rfl fun w' hw => ⟨by rw [decide_eq_false (fun e => hne (by rw [e]))], hw.kx.below⟩
   · have he : xs.getD k 0 = ys.getD k 0 := by simpa using h2
     with_reducible (refine xc_skip ?_; (repeat (first | refine xqT ?_ | refine xqB ?_ | refine xqS ?_)); (repeat refine xc_seq ?_); refine xcR ?_)
     refine xo_mv rfl rfl rfl ?_
     refine xo_add rfl rfl rfl (by omega) rfl ?_
     refine xo_asg rfl rfl rfl ?_
     with_reducible (refine xo_nil ?_; (repeat (first | refine xqT ?_ | refine xqB ?_ | refine xqS ?_)))
     exact xq_again _ _ _ _ _ (k + 1) ⟨hlt, take_eq_succ 0 hlt (by omega) heq he⟩ (by omega) ⟨rfl, rfl, rfl, trivial⟩ (List.nil_sublist _)
 have hge : k = xs.length := by have := of_decide_eq_false h; omega
 have hxy : xs = ys := by rwa [List.take_of_length_le (by omega), List.take_of_length_le (by omega)] at heq
 with_reducible (refine xc_exit ?_; (repeat (first | refine xq_blockX ?_ | refine xq_thenE ?_ | refine xq_blockE rfl ?_ | refine xq_scopeE ?_)); (repeat (first | refine xqT ?_ | refine xqB ?_ | refine xqS ?_)); (repeat refine xc_seq ?_); refine xcR ?_)
 refine xo_asg rfl rfl rfl ?_
 with_reducible (refine xo_nil ?_; (repeat (first | refine xqT ?_ | refine xqB ?_ | refine xqS ?_)); (repeat refine xc_seq ?_); refine xc_ret ?_; (repeat (first | refine xq_thenR ?_ | refine xq_blockR ?_ | refine xq_scopeR ?_)))
 exact xq_ret1 rfl rfl fun w' hw => ⟨by rw [decide_eq_true hxy], hw.kx.below⟩
theorem sameInts_enters : ∀ args w, (callFunc 18 args).run Tryz.prog w = .ok (.enter 18 args) w := enters_of Tryz.func18 (by kernel_rfl) rfl
open Classical in
noncomputable def eqL {α : Type} (x y : α) : Bool := decide (x = y)
theorem eqL_true {α : Type} {x y : α} (h : x = y) : eqL x y = true := by simp [eqL, h]
theorem eqL_false {α : Type} {x y : α} (h : ¬ x = y) : eqL x y = false := by simp [eqL, h]
abbrev SpansAt (w : World) (A : Option Addr) (xs : List SpaT) : Prop := RowOf spaV 2 zSpa w A xs
theorem sameSpans_calls (A1 A2 : Option Addr) (c1 c2 : Nat) (xs ys : List SpaT) (w : World) (r1 : SpansAt w A1 xs) (r2 : SpansAt w A2 ys) (l1 : xs.length ≤ 1000000) :
   Calls Tryz.prog 33 #[.slice A1 xs.length c1, .slice A2 ys.length c2] w fun e w' => e = .returned (.bool (eqL xs ys)) ∧ Below w.heap.size w w' := by
 refine x_calls (X := XNone) Tryz.func33 rfl rfl rfl ?_
 with_reducible ((repeat refine xc_seq ?_); refine xcR ?_)
 refine xo_asg rfl rfl rfl ?_
 with_reducible (refine xo_nil ?_; (repeat (first | refine xqT ?_ | refine xqB ?_ | refine xqS ?_)))
 cases hl : decide ((xs.length : Int) = ys.length)
 · have hne : ¬ xs = ys := fun e => (of_decide_eq_false hl) (by rw [e])
   with_reducible ((repeat refine xc_seq ?_); refine xcR ?_)
   refine xo_mv rfl rfl rfl ?_
   refine xo_len T_ rfl rfl rfl rfl ?_
   refine xo_mv rfl rfl rfl ?_
   refine xo_len T_ rfl rfl rfl rfl ?_
   refine xo_neq rfl rfl rfl rfl ?_
   refine xo_as (i := 10) rfl (congrArg (fun b => Value.bool !b) hl) ?_
   with_reducible (refine xo_nil ?_; (repeat (first | refine xqT ?_ | refine xqB ?_ | refine xqS ?_)); (repeat refine xc_seq ?_))
   refine xc_condT rfl ?_
   with_reducible ((repeat refine xc_seq ?_); refine xcR ?_)
   refine xo_asg rfl rfl rfl ?_
   with_reducible (refine xo_nil ?_; (repeat (first | refine xqT ?_ | refine xqB ?_ | refine xqS ?_)); (repeat refine xc_seq ?_); refine xc_ret ?_; (repeat (first | refine xq_thenR ?_ | refine xq_blockR ?_ | refine xq_scopeR ?_)))
   exact xq_ret1 rfl rfl fun w' hw => ⟨by rw [eqL_false hne], hw.kx.below⟩
 have hlen : xs.length = ys.length := by have := of_decide_eq_true hl; omega
 with_reducible ((repeat refine xc_seq ?_); refine xcR ?_)
 refine xo_mv rfl rfl rfl ?_
 refine xo_len T_ rfl rfl rfl rfl ?_
 refine xo_mv rfl rfl rfl ?_
 refine xo_len T_ rfl rfl rfl rfl ?_
 refine xo_neq rfl rfl rfl rfl ?_
 refine xo_as (i := 10) rfl (congrArg (fun b => Value.bool !b) hl) ?_
 with_reducible (refine xo_nil ?_; (repeat (first | refine xqT ?_ | refine xqB ?_ | refine xqS ?_)); (repeat refine xc_seq ?_))
 refine xc_condF rfl ?_
 with_reducible (refine xc_skip ?_; (repeat (first | refine xqT ?_ | refine xqB ?_ | refine xqS ?_)); (repeat refine xc_seq ?_); refine xcR ?_)
 refine xo_asg rfl rfl rfl ?_
 with_reducible (refine xo_nil ?_; (repeat (first | refine xqT ?_ | refine xqB ?_ | refine xqS ?_)); (repeat refine xc_seq ?_); refine xc_block ?_)
 refine xc_loop (γ := Nat) (fun k => k ≤ xs.length ∧ xs.take k = ys.take k) (fun k => [(0, .slice A1 xs.length c1), (1, .slice A2 ys.length c2), (5, .int .i64 (k : Int))]) (fun _ => []) (fun k => xs.length - k) 0 ⟨Nat.zero_le _, rfl⟩ ⟨rfl, rfl, rfl, trivial⟩ (List.nil_sublist _) ?_
 rintro k ⟨hk, heq⟩
 with_reducible ((repeat refine xc_seq ?_); refine xcR ?_)
 refine xo_mv rfl rfl rfl ?_
 refine xo_mv rfl rfl rfl ?_
 refine xo_len T_ rfl rfl rfl rfl ?_
 refine xo_lss rfl rfl rfl rfl ?_
 with_reducible (refine xo_nil ?_; (repeat (first | refine xqT ?_ | refine xqB ?_ | refine xqS ?_)); (repeat refine xc_seq ?_))
 refine xc_cond rfl (fun h => ?_) (fun h => ?_)
 · have hlt : k < xs.length := by have := of_decide_eq_true h; omega
   obtain ⟨ad1, rfl, q1⟩ := r1 k hlt
   obtain ⟨ad2, rfl, q2⟩ := r2 k (by omega)
   with_reducible (refine xc_skip ?_; (repeat (first | refine xqT ?_ | refine xqB ?_ | refine xqS ?_)); (repeat refine xc_seq ?_); refine xc_block ?_)
   refine xc_slots [(0, .slice (some ad1) xs.length c1), (1, .slice (some ad2) ys.length c2), (5, .int .i64 (k : Int))] ⟨rfl, rfl, rfl, trivial⟩ ?_
   with_reducible (repeat refine xc_seq ?_)
   apply xc_drawN
   · exact T_.mixed
   · rfl
   · rfl
   · rfl
   · rfl
   · apply DrawOps.cons
     · intro τ
       refine xo_mv rfl rfl rfl ?_
       exact xo_fin rfl
     apply DrawOps.cons
     · intro τ
       refine xo_mv rfl rfl rfl ?_
       exact xo_fin rfl
     apply DrawOps.cons
     · intro τ
       refine xo_ia T_ rfl rfl rfl rfl rfl ⟨by omega, by omega⟩ rfl ?_
       exact xo_fin rfl
     apply DrawOps.cons
     · intro τ
       refine xo_loadRN T_ rfl rfl rfl q1 rfl rfl ?_
       exact xo_fin rfl
     apply DrawOps.cons
     · intro τ
       refine xo_mv rfl rfl rfl ?_
       exact xo_fin rfl
     apply DrawOps.cons
     · intro τ
       refine xo_mv rfl rfl rfl ?_
       exact xo_fin rfl
     apply DrawOps.cons
     · intro τ
       refine xo_ia T_ rfl rfl rfl rfl rfl ⟨by omega, by omega⟩ rfl ?_
       exact xo_fin rfl
     apply DrawOps.cons
     · intro τ
       refine xo_loadRN T_ rfl rfl rfl q2 rfl rfl ?_
       exact xo_fin rfl
     apply DrawOps.cons
     · intro τ
       refine xo_neqV rfl rfl rfl (fun w => spa_ne _ _ (xs.getD k zSpa) (ys.getD k zSpa) w) rfl ?_
       exact xo_fin rfl
     exact DrawOps.nil
   · rfl
   with_reducible ((repeat (first | refine xqT ?_ | refine xqB ?_ | refine xqS ?_)); (repeat refine xc_seq ?_))
   refine xc_cond rfl (fun h2 => ?_) (fun h2 => ?_)
   · have hne : ¬ xs.getD k zSpa = ys.getD k zSpa := fun e => by rw [spaE_iff.2 e] at h2; cases h2
     with_reducible ((repeat refine xc_seq ?_); refine xcR ?_)
     refine xo_asg rfl rfl rfl ?_
     with_reducible (refine xo_nil ?_; (repeat (first | refine xqT ?_ | refine xqB ?_ | refine xqS ?_)); (repeat refine xc_seq ?_); refine xc_ret ?_; (repeat (first | refine xq_thenR ?_ | refine xq_blockR ?_ | refine xq_scopeR ?_)))
     exact xq_ret1 rfl rfl fun w' hw => ⟨by rw [eqL_false (fun e => hne (by rw [e]))], hw.kx.below⟩
   · have he : xs.getD k zSpa = ys.getD k zSpa := spaE_iff.1 (by simpa using h2)
     with_reducible (refine xc_skip ?_; (repeat (first | refine xqT ?_ | refine xqB ?_ | refine xqS ?_)); (repeat refine xc_seq ?_); refine xcR ?_)
     refine xo_mv rfl rfl rfl ?_
     refine xo_add rfl rfl rfl (by omega) rfl ?_
     refine xo_asg rfl rfl rfl ?_
     with_reducible (refine xo_nil ?_; (repeat (first | refine xqT ?_ | refine xqB ?_ | refine xqS ?_)))
     exact xq_again _ _ _ _ _ (k + 1) ⟨hlt, take_eq_succ zSpa hlt (by omega) heq he⟩ (by omega) ⟨rfl, rfl, rfl, trivial⟩ (List.nil_sublist _)
 have hge : k = xs.length := by have := of_decide_eq_false h; omega
 have hxy : xs = ys := by rwa [List.take_of_length_le (by omega), List.take_of_length_le (by omega)] at heq
 with_reducible (refine xc_exit ?_; (repeat (first | refine xq_blockX ?_ | refine xq_thenE ?_ | refine xq_blockE rfl ?_ | refine xq_scopeE ?_)); (repeat (first | refine xqT ?_ | refine xqB ?_ | refine xqS ?_)); (repeat refine xc_seq ?_); refine xcR ?_)
 refine xo_asg rfl rfl rfl ?_
 with_reducible (refine xo_nil ?_; (repeat (first | refine xqT ?_ | refine xqB ?_ | refine xqS ?_)); (repeat refine xc_seq ?_); refine xc_ret ?_; (repeat (first | refine xq_thenR ?_ | refine xq_blockR ?_ | refine xq_scopeR ?_)))
 exact xq_ret1 rfl rfl fun w' hw => ⟨by rw [eqL_true hxy], hw.kx.below⟩
theorem sameSpans_enters : ∀ args w, (callFunc 33 args).run Tryz.prog w = .ok (.enter 33 args) w := enters_of Tryz.func33 (by kernel_rfl) rfl
end Go.Proofs.YtommeljlfkmpjaaGreatDoor
