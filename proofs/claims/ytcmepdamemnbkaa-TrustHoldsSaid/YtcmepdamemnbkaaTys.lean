/- What SX asks of this seat's types (written by wip/tools/gen_tys.py). -/
import Derived.Test.YtcmepdamemnbkaaProg
import Derived.Test.YtcmepdamemnbkaaSR
import Derived.KernelRfl
namespace Go.Proofs.Ytcmepdamemnbkaa
open Go.RowKit
set_option linter.unusedVariables false
set_option linter.unusedSimpArgs false
def aggD : TypeDesc → Bool
  | .struct _ | .array _ _ => true
  | _ => false
theorem tk_of {P : Program} {t k : Nat} {d : TypeDesc} (hu : P.underlying t = some d) (hd : aggD d = Nat.blt 0 k) (hi : (P.info? t).map (·.size) = some (bif Nat.beq k 0 then 1 else k)) :
    (∀ w, (isAgg (t, k).1).run P w = .ok (Nat.blt 0 (t, k).2) w) ∧ (∀ w, (sizeOf (t, k).1).run P w = .ok (bif Nat.beq (t, k).2 0 then 1 else (t, k).2) w) := by
  refine ⟨fun w => ?_, fun w => ?_⟩
  · show (isAgg t).run P w = .ok (Nat.blt 0 k) w
    rw [← hd]
    unfold isAgg
    rw [Sem.run_bind, run_underlying hu w]
    cases d <;> rfl
  · obtain ⟨i, h1, h2⟩ := Option.map_eq_some_iff.1 hi
    show (sizeOf t).run P w = .ok (bif Nat.beq k 0 then 1 else k) w
    rw [← h2]
    simp [sizeOf, typeInfo, h1]
theorem zs_of {P : Program} {t : Nat} {v : Value} (hi : (P.info? t).bind (·.zero) = some v) : ∀ w, (zeroValue (t, v).1).run P w = .ok (t, v).2 w := by
  intro w
  obtain ⟨i, h1, h2⟩ := Option.bind_eq_some_iff.1 hi
  show (zeroValue t).run P w = .ok v w
  simp [zeroValue, typeInfo, h1, h2]
def ty_tk : List (Nat × Nat) := [(1, 0), (2, 0), (3, 0), (4, 0), (5, 0), (6, 0), (7, 4), (8, 4), (9, 0), (10, 0), (11, 0), (12, 0), (13, 2), (14, 2), (15, 0), (16, 0), (17, 0), (18, 1), (19, 1), (21, 0), (22, 0), (23, 0), (24, 0), (25, 0), (26, 0), (27, 0), (29, 0), (31, 0), (32, 0), (33, 0), (34, 0), (35, 0), (36, 0), (37, 0), (38, 0), (39, 0), (40, 0), (41, 0), (42, 3), (43, 3), (44, 0), (45, 2), (46, 2), (48, 0), (49, 0), (50, 0), (51, 0), (52, 0), (53, 0), (54, 0), (55, 0), (56, 0), (57, 0), (58, 0), (59, 0), (60, 0), (62, 0), (63, 0), (64, 4), (65, 4), (66, 0), (67, 0), (68, 0), (69, 0), (70, 0), (71, 0), (72, 0), (73, 0), (74, 0), (75, 0), (76, 4), (77, 4), (78, 0), (79, 0), (80, 0), (81, 0), (82, 0), (83, 0), (84, 0), (85, 0), (86, 0), (87, 0), (89, 0), (90, 0), (91, 0), (92, 0), (93, 0), (94, 0), (95, 0), (96, 0), (97, 0), (99, 0), (100, 0), (101, 0), (102, 0), (104, 0), (105, 0), (106, 0), (107, 0), (108, 0), (109, 0), (110, 0), (111, 0), (112, 0), (113, 0), (114, 0), (115, 0), (117, 0), (118, 0), (119, 4), (120, 4), (124, 0), (125, 0), (126, 0), (127, 0), (128, 0), (129, 0), (130, 0), (131, 11), (132, 11), (133, 4), (134, 4)]
def ty_zs : List (Nat × Value) := [(1, .nilFunc), (2, (.int .i64 0)), (3, (.int .i64 0)), (4, (.bool false)), (5, (.int .u8 0)), (6, (.int .u8 0)), (7, (.agg #[(.int .i64 0), (.int .i64 0), (.bool false), (.int .u8 0)])), (8, (.agg #[(.int .i64 0), (.int .i64 0), (.bool false), (.int .u8 0)])), (9, (.string ⟨#[]⟩)), (10, (.string ⟨#[]⟩)), (11, (.string ⟨#[]⟩)), (12, (.int .u64 0)), (13, (.agg #[(.string ⟨#[]⟩), (.int .u64 0)])), (14, (.agg #[(.string ⟨#[]⟩), (.int .u64 0)])), (15, (.pointer none)), (16, (.pointer none)), (17, (.pointer none)), (18, (.agg #[(.pointer none)])), (19, (.agg #[(.pointer none)])), (21, (.int .i32 0)), (22, (.slice none 0 0)), (23, (.slice none 0 0)), (24, .nilFunc), (25, .nilFunc), (26, (.slice none 0 0)), (27, (.int .i64 0)), (29, .nilFunc), (31, .nilFunc), (32, .nilFunc), (33, .nilFunc), (34, .nilFunc), (35, .nilFunc), (36, .nilFunc), (37, .nilFunc), (38, .nilFunc), (39, .nilFunc), (40, (.slice none 0 0)), (41, (.slice none 0 0)), (42, (.agg #[(.int .i64 0), (.int .u8 0), (.slice none 0 0)])), (43, (.agg #[(.int .i64 0), (.int .u8 0), (.slice none 0 0)])), (44, (.map none)), (45, (.agg #[(.slice none 0 0), (.map none)])), (46, (.agg #[(.slice none 0 0), (.map none)])), (48, .nilFunc), (49, .nilFunc), (50, .nilFunc), (51, .nilFunc), (52, .nilFunc), (53, .nilFunc), (54, .nilFunc), (55, (.slice none 0 0)), (56, .nilFunc), (57, .nilFunc), (58, .nilFunc), (59, .nilFunc), (60, .nilFunc), (62, .nilFunc), (63, .nilFunc), (64, (.agg #[(.int .i64 0), (.int .i64 0), (.int .i64 0), (.int .u8 0)])), (65, (.agg #[(.int .i64 0), (.int .i64 0), (.int .i64 0), (.int .u8 0)])), (66, .nilFunc), (67, .nilFunc), (68, .nilFunc), (69, .nilFunc), (70, .nilFunc), (71, .nilFunc), (72, .nilFunc), (73, .nilFunc), (74, .nilFunc), (75, .nilFunc), (76, (.agg #[(.int .i64 0), (.int .u8 0), (.slice none 0 0), (.map none)])), (77, (.agg #[(.int .i64 0), (.int .u8 0), (.slice none 0 0), (.map none)])), (78, .nilFunc), (79, .nilFunc), (80, .nilFunc), (81, .nilFunc), (82, .nilFunc), (83, .nilFunc), (84, .nilFunc), (85, .nilFunc), (86, .nilFunc), (87, .nilFunc), (89, .nilFunc), (90, .nilFunc), (91, .nilFunc), (92, .nilFunc), (93, .nilFunc), (94, .nilFunc), (95, (.int .u64 0)), (96, .nilFunc), (97, (.int .i64 0)), (99, .nilFunc), (100, .nilFunc), (101, .nilFunc), (102, .nilFunc), (104, .nilFunc), (105, .nilFunc), (106, (.int .u32 0)), (107, .nilFunc), (108, (.int .u64 0)), (109, (.int .u64 0)), (110, .nilFunc), (111, .nilFunc), (112, .nilFunc), (113, (.pointer none)), (114, .nilFunc), (115, (.pointer none)), (117, .nilFunc), (118, .nilFunc), (119, (.agg #[(.pointer none), (.pointer none), (.pointer none), (.string ⟨#[]⟩)])), (120, (.agg #[(.pointer none), (.pointer none), (.pointer none), (.string ⟨#[]⟩)])), (124, .nilFunc), (125, (.int .u8 0)), (126, (.int .u8 0)), (127, .nilFunc), (128, (.pointer none)), (129, (.int .i32 0)), (130, (.int .i32 0)), (131, (.agg #[(.int .u64 0), (.int .u64 0), (.int .u32 0), (.int .u8 0), (.int .u8 0), (.int .u8 0), (.int .u8 0), .nilFunc, (.pointer none), (.int .i32 0), (.int .i32 0)])), (132, (.agg #[(.int .u64 0), (.int .u64 0), (.int .u32 0), (.int .u8 0), (.int .u8 0), (.int .u8 0), (.int .u8 0), .nilFunc, (.pointer none), (.int .i32 0), (.int .i32 0)])), (133, (.agg #[(.int .i64 0), (.int .i64 0), (.int .u8 0), (.int .i64 0)])), (134, (.agg #[(.int .i64 0), (.int .i64 0), (.int .u8 0), (.int .i64 0)]))]
def ty_fo : List (Nat × List Nat) := [(7, [0, 1, 2, 3]), (8, [0, 1, 2, 3]), (13, [0, 1]), (14, [0, 1]), (18, [0]), (19, [0]), (42, [0, 1, 2]), (43, [0, 1, 2]), (45, [0, 1]), (46, [0, 1]), (64, [0, 1, 2, 3]), (65, [0, 1, 2, 3]), (76, [0, 3]), (77, [0, 3]), (119, [0, 1, 2, 3]), (120, [0, 1, 2, 3]), (131, [0, 1, 2, 3, 4, 5, 6, 7, 8, 9, 10]), (132, [0, 1, 2, 3, 4, 5, 6, 7, 8, 9, 10]), (133, [0, 1, 2, 3]), (134, [0, 1, 2, 3])]
def ty_el : List (Nat × Nat) := [(22, 43), (23, 65), (26, 3), (40, 134), (41, 26), (55, 4)]
def ty_ik : List (Nat × IntKind) := [(2, .i64), (3, .i64), (5, .u8), (6, .u8), (12, .u64), (21, .i32), (27, .i64), (95, .u64), (97, .i64), (106, .u32), (108, .u64), (109, .u64), (125, .u8), (126, .u8), (129, .i32), (130, .i32)]
def ty_mp : List (Nat × Nat × Nat) := [(44, 3, 4)]
set_option maxRecDepth 10000 in
theorem ty_htk : ∀ p ∈ ty_tk, (∀ w, (isAgg p.1).run Try.prog w = .ok (Nat.blt 0 p.2) w) ∧ (∀ w, (sizeOf p.1).run Try.prog w = .ok (bif Nat.beq p.2 0 then 1 else p.2) w) := by
  unfold ty_tk
  simp only [List.mem_cons, List.not_mem_nil, or_false, forall_eq_or_imp, forall_eq]
  exact ⟨tk_of (k := 0) Try.underlying1 rfl (by kernel_rfl),
    tk_of (k := 0) Try.underlying2 rfl (by kernel_rfl),
    tk_of (k := 0) Try.underlying3 rfl (by kernel_rfl),
    tk_of (k := 0) Try.underlying4 rfl (by kernel_rfl),
    tk_of (k := 0) Try.underlying5 rfl (by kernel_rfl),
    tk_of (k := 0) Try.underlying6 rfl (by kernel_rfl),
    tk_of (k := 4) Try.underlying7 rfl (by kernel_rfl),
    tk_of (k := 4) Try.underlying8 rfl (by kernel_rfl),
    tk_of (k := 0) Try.underlying9 rfl (by kernel_rfl),
    tk_of (k := 0) Try.underlying10 rfl (by kernel_rfl),
    tk_of (k := 0) Try.underlying11 rfl (by kernel_rfl),
    tk_of (k := 0) Try.underlying12 rfl (by kernel_rfl),
    tk_of (k := 2) Try.underlying13 rfl (by kernel_rfl),
    tk_of (k := 2) Try.underlying14 rfl (by kernel_rfl),
    tk_of (k := 0) Try.underlying15 rfl (by kernel_rfl),
    tk_of (k := 0) Try.underlying16 rfl (by kernel_rfl),
    tk_of (k := 0) Try.underlying17 rfl (by kernel_rfl),
    tk_of (k := 1) Try.underlying18 rfl (by kernel_rfl),
    tk_of (k := 1) Try.underlying19 rfl (by kernel_rfl),
    tk_of (k := 0) Try.underlying21 rfl (by kernel_rfl),
    tk_of (k := 0) Try.underlying22 rfl (by kernel_rfl),
    tk_of (k := 0) Try.underlying23 rfl (by kernel_rfl),
    tk_of (k := 0) Try.underlying24 rfl (by kernel_rfl),
    tk_of (k := 0) Try.underlying25 rfl (by kernel_rfl),
    tk_of (k := 0) Try.underlying26 rfl (by kernel_rfl),
    tk_of (k := 0) Try.underlying27 rfl (by kernel_rfl),
    tk_of (k := 0) Try.underlying29 rfl (by kernel_rfl),
    tk_of (k := 0) Try.underlying31 rfl (by kernel_rfl),
    tk_of (k := 0) Try.underlying32 rfl (by kernel_rfl),
    tk_of (k := 0) Try.underlying33 rfl (by kernel_rfl),
    tk_of (k := 0) Try.underlying34 rfl (by kernel_rfl),
    tk_of (k := 0) Try.underlying35 rfl (by kernel_rfl),
    tk_of (k := 0) Try.underlying36 rfl (by kernel_rfl),
    tk_of (k := 0) Try.underlying37 rfl (by kernel_rfl),
    tk_of (k := 0) Try.underlying38 rfl (by kernel_rfl),
    tk_of (k := 0) Try.underlying39 rfl (by kernel_rfl),
    tk_of (k := 0) Try.underlying40 rfl (by kernel_rfl),
    tk_of (k := 0) Try.underlying41 rfl (by kernel_rfl),
    tk_of (k := 3) Try.underlying42 rfl (by kernel_rfl),
    tk_of (k := 3) Try.underlying43 rfl (by kernel_rfl),
    tk_of (k := 0) Try.underlying44 rfl (by kernel_rfl),
    tk_of (k := 2) Try.underlying45 rfl (by kernel_rfl),
    tk_of (k := 2) Try.underlying46 rfl (by kernel_rfl),
    tk_of (k := 0) Try.underlying48 rfl (by kernel_rfl),
    tk_of (k := 0) Try.underlying49 rfl (by kernel_rfl),
    tk_of (k := 0) Try.underlying50 rfl (by kernel_rfl),
    tk_of (k := 0) Try.underlying51 rfl (by kernel_rfl),
    tk_of (k := 0) Try.underlying52 rfl (by kernel_rfl),
    tk_of (k := 0) Try.underlying53 rfl (by kernel_rfl),
    tk_of (k := 0) Try.underlying54 rfl (by kernel_rfl),
    tk_of (k := 0) Try.underlying55 rfl (by kernel_rfl),
    tk_of (k := 0) Try.underlying56 rfl (by kernel_rfl),
    tk_of (k := 0) Try.underlying57 rfl (by kernel_rfl),
    tk_of (k := 0) Try.underlying58 rfl (by kernel_rfl),
    tk_of (k := 0) Try.underlying59 rfl (by kernel_rfl),
    tk_of (k := 0) Try.underlying60 rfl (by kernel_rfl),
    tk_of (k := 0) Try.underlying62 rfl (by kernel_rfl),
    tk_of (k := 0) Try.underlying63 rfl (by kernel_rfl),
    tk_of (k := 4) Try.underlying64 rfl (by kernel_rfl),
    tk_of (k := 4) Try.underlying65 rfl (by kernel_rfl),
    tk_of (k := 0) Try.underlying66 rfl (by kernel_rfl),
    tk_of (k := 0) Try.underlying67 rfl (by kernel_rfl),
    tk_of (k := 0) Try.underlying68 rfl (by kernel_rfl),
    tk_of (k := 0) Try.underlying69 rfl (by kernel_rfl),
    tk_of (k := 0) Try.underlying70 rfl (by kernel_rfl),
    tk_of (k := 0) Try.underlying71 rfl (by kernel_rfl),
    tk_of (k := 0) Try.underlying72 rfl (by kernel_rfl),
    tk_of (k := 0) Try.underlying73 rfl (by kernel_rfl),
    tk_of (k := 0) Try.underlying74 rfl (by kernel_rfl),
    tk_of (k := 0) Try.underlying75 rfl (by kernel_rfl),
    tk_of (k := 4) Try.underlying76 rfl (by kernel_rfl),
    tk_of (k := 4) Try.underlying77 rfl (by kernel_rfl),
    tk_of (k := 0) Try.underlying78 rfl (by kernel_rfl),
    tk_of (k := 0) Try.underlying79 rfl (by kernel_rfl),
    tk_of (k := 0) Try.underlying80 rfl (by kernel_rfl),
    tk_of (k := 0) Try.underlying81 rfl (by kernel_rfl),
    tk_of (k := 0) Try.underlying82 rfl (by kernel_rfl),
    tk_of (k := 0) Try.underlying83 rfl (by kernel_rfl),
    tk_of (k := 0) Try.underlying84 rfl (by kernel_rfl),
    tk_of (k := 0) Try.underlying85 rfl (by kernel_rfl),
    tk_of (k := 0) Try.underlying86 rfl (by kernel_rfl),
    tk_of (k := 0) Try.underlying87 rfl (by kernel_rfl),
    tk_of (k := 0) Try.underlying89 rfl (by kernel_rfl),
    tk_of (k := 0) Try.underlying90 rfl (by kernel_rfl),
    tk_of (k := 0) Try.underlying91 rfl (by kernel_rfl),
    tk_of (k := 0) Try.underlying92 rfl (by kernel_rfl),
    tk_of (k := 0) Try.underlying93 rfl (by kernel_rfl),
    tk_of (k := 0) Try.underlying94 rfl (by kernel_rfl),
    tk_of (k := 0) Try.underlying95 rfl (by kernel_rfl),
    tk_of (k := 0) Try.underlying96 rfl (by kernel_rfl),
    tk_of (k := 0) Try.underlying97 rfl (by kernel_rfl),
    tk_of (k := 0) Try.underlying99 rfl (by kernel_rfl),
    tk_of (k := 0) Try.underlying100 rfl (by kernel_rfl),
    tk_of (k := 0) Try.underlying101 rfl (by kernel_rfl),
    tk_of (k := 0) Try.underlying102 rfl (by kernel_rfl),
    tk_of (k := 0) Try.underlying104 rfl (by kernel_rfl),
    tk_of (k := 0) Try.underlying105 rfl (by kernel_rfl),
    tk_of (k := 0) Try.underlying106 rfl (by kernel_rfl),
    tk_of (k := 0) Try.underlying107 rfl (by kernel_rfl),
    tk_of (k := 0) Try.underlying108 rfl (by kernel_rfl),
    tk_of (k := 0) Try.underlying109 rfl (by kernel_rfl),
    tk_of (k := 0) Try.underlying110 rfl (by kernel_rfl),
    tk_of (k := 0) Try.underlying111 rfl (by kernel_rfl),
    tk_of (k := 0) Try.underlying112 rfl (by kernel_rfl),
    tk_of (k := 0) Try.underlying113 rfl (by kernel_rfl),
    tk_of (k := 0) Try.underlying114 rfl (by kernel_rfl),
    tk_of (k := 0) Try.underlying115 rfl (by kernel_rfl),
    tk_of (k := 0) Try.underlying117 rfl (by kernel_rfl),
    tk_of (k := 0) Try.underlying118 rfl (by kernel_rfl),
    tk_of (k := 4) Try.underlying119 rfl (by kernel_rfl),
    tk_of (k := 4) Try.underlying120 rfl (by kernel_rfl),
    tk_of (k := 0) Try.underlying124 rfl (by kernel_rfl),
    tk_of (k := 0) Try.underlying125 rfl (by kernel_rfl),
    tk_of (k := 0) Try.underlying126 rfl (by kernel_rfl),
    tk_of (k := 0) Try.underlying127 rfl (by kernel_rfl),
    tk_of (k := 0) Try.underlying128 rfl (by kernel_rfl),
    tk_of (k := 0) Try.underlying129 rfl (by kernel_rfl),
    tk_of (k := 0) Try.underlying130 rfl (by kernel_rfl),
    tk_of (k := 11) Try.underlying131 rfl (by kernel_rfl),
    tk_of (k := 11) Try.underlying132 rfl (by kernel_rfl),
    tk_of (k := 4) Try.underlying133 rfl (by kernel_rfl),
    tk_of (k := 4) Try.underlying134 rfl (by kernel_rfl)⟩
set_option maxRecDepth 10000 in
theorem ty_hzs : ∀ p ∈ ty_zs, ∀ w, (zeroValue p.1).run Try.prog w = .ok p.2 w := by
  unfold ty_zs
  simp only [List.mem_cons, List.not_mem_nil, or_false, forall_eq_or_imp, forall_eq]
  exact ⟨zs_of (t := 1) (v := .nilFunc) (by kernel_rfl),
    zs_of (t := 2) (v := (.int .i64 0)) (by kernel_rfl),
    zs_of (t := 3) (v := (.int .i64 0)) (by kernel_rfl),
    zs_of (t := 4) (v := (.bool false)) (by kernel_rfl),
    zs_of (t := 5) (v := (.int .u8 0)) (by kernel_rfl),
    zs_of (t := 6) (v := (.int .u8 0)) (by kernel_rfl),
    zs_of (t := 7) (v := (.agg #[(.int .i64 0), (.int .i64 0), (.bool false), (.int .u8 0)])) (by kernel_rfl),
    zs_of (t := 8) (v := (.agg #[(.int .i64 0), (.int .i64 0), (.bool false), (.int .u8 0)])) (by kernel_rfl),
    zs_of (t := 9) (v := (.string ⟨#[]⟩)) (by kernel_rfl),
    zs_of (t := 10) (v := (.string ⟨#[]⟩)) (by kernel_rfl),
    zs_of (t := 11) (v := (.string ⟨#[]⟩)) (by kernel_rfl),
    zs_of (t := 12) (v := (.int .u64 0)) (by kernel_rfl),
    zs_of (t := 13) (v := (.agg #[(.string ⟨#[]⟩), (.int .u64 0)])) (by kernel_rfl),
    zs_of (t := 14) (v := (.agg #[(.string ⟨#[]⟩), (.int .u64 0)])) (by kernel_rfl),
    zs_of (t := 15) (v := (.pointer none)) (by kernel_rfl),
    zs_of (t := 16) (v := (.pointer none)) (by kernel_rfl),
    zs_of (t := 17) (v := (.pointer none)) (by kernel_rfl),
    zs_of (t := 18) (v := (.agg #[(.pointer none)])) (by kernel_rfl),
    zs_of (t := 19) (v := (.agg #[(.pointer none)])) (by kernel_rfl),
    zs_of (t := 21) (v := (.int .i32 0)) (by kernel_rfl),
    zs_of (t := 22) (v := (.slice none 0 0)) (by kernel_rfl),
    zs_of (t := 23) (v := (.slice none 0 0)) (by kernel_rfl),
    zs_of (t := 24) (v := .nilFunc) (by kernel_rfl),
    zs_of (t := 25) (v := .nilFunc) (by kernel_rfl),
    zs_of (t := 26) (v := (.slice none 0 0)) (by kernel_rfl),
    zs_of (t := 27) (v := (.int .i64 0)) (by kernel_rfl),
    zs_of (t := 29) (v := .nilFunc) (by kernel_rfl),
    zs_of (t := 31) (v := .nilFunc) (by kernel_rfl),
    zs_of (t := 32) (v := .nilFunc) (by kernel_rfl),
    zs_of (t := 33) (v := .nilFunc) (by kernel_rfl),
    zs_of (t := 34) (v := .nilFunc) (by kernel_rfl),
    zs_of (t := 35) (v := .nilFunc) (by kernel_rfl),
    zs_of (t := 36) (v := .nilFunc) (by kernel_rfl),
    zs_of (t := 37) (v := .nilFunc) (by kernel_rfl),
    zs_of (t := 38) (v := .nilFunc) (by kernel_rfl),
    zs_of (t := 39) (v := .nilFunc) (by kernel_rfl),
    zs_of (t := 40) (v := (.slice none 0 0)) (by kernel_rfl),
    zs_of (t := 41) (v := (.slice none 0 0)) (by kernel_rfl),
    zs_of (t := 42) (v := (.agg #[(.int .i64 0), (.int .u8 0), (.slice none 0 0)])) (by kernel_rfl),
    zs_of (t := 43) (v := (.agg #[(.int .i64 0), (.int .u8 0), (.slice none 0 0)])) (by kernel_rfl),
    zs_of (t := 44) (v := (.map none)) (by kernel_rfl),
    zs_of (t := 45) (v := (.agg #[(.slice none 0 0), (.map none)])) (by kernel_rfl),
    zs_of (t := 46) (v := (.agg #[(.slice none 0 0), (.map none)])) (by kernel_rfl),
    zs_of (t := 48) (v := .nilFunc) (by kernel_rfl),
    zs_of (t := 49) (v := .nilFunc) (by kernel_rfl),
    zs_of (t := 50) (v := .nilFunc) (by kernel_rfl),
    zs_of (t := 51) (v := .nilFunc) (by kernel_rfl),
    zs_of (t := 52) (v := .nilFunc) (by kernel_rfl),
    zs_of (t := 53) (v := .nilFunc) (by kernel_rfl),
    zs_of (t := 54) (v := .nilFunc) (by kernel_rfl),
    zs_of (t := 55) (v := (.slice none 0 0)) (by kernel_rfl),
    zs_of (t := 56) (v := .nilFunc) (by kernel_rfl),
    zs_of (t := 57) (v := .nilFunc) (by kernel_rfl),
    zs_of (t := 58) (v := .nilFunc) (by kernel_rfl),
    zs_of (t := 59) (v := .nilFunc) (by kernel_rfl),
    zs_of (t := 60) (v := .nilFunc) (by kernel_rfl),
    zs_of (t := 62) (v := .nilFunc) (by kernel_rfl),
    zs_of (t := 63) (v := .nilFunc) (by kernel_rfl),
    zs_of (t := 64) (v := (.agg #[(.int .i64 0), (.int .i64 0), (.int .i64 0), (.int .u8 0)])) (by kernel_rfl),
    zs_of (t := 65) (v := (.agg #[(.int .i64 0), (.int .i64 0), (.int .i64 0), (.int .u8 0)])) (by kernel_rfl),
    zs_of (t := 66) (v := .nilFunc) (by kernel_rfl),
    zs_of (t := 67) (v := .nilFunc) (by kernel_rfl),
    zs_of (t := 68) (v := .nilFunc) (by kernel_rfl),
    zs_of (t := 69) (v := .nilFunc) (by kernel_rfl),
    zs_of (t := 70) (v := .nilFunc) (by kernel_rfl),
    zs_of (t := 71) (v := .nilFunc) (by kernel_rfl),
    zs_of (t := 72) (v := .nilFunc) (by kernel_rfl),
    zs_of (t := 73) (v := .nilFunc) (by kernel_rfl),
    zs_of (t := 74) (v := .nilFunc) (by kernel_rfl),
    zs_of (t := 75) (v := .nilFunc) (by kernel_rfl),
    zs_of (t := 76) (v := (.agg #[(.int .i64 0), (.int .u8 0), (.slice none 0 0), (.map none)])) (by kernel_rfl),
    zs_of (t := 77) (v := (.agg #[(.int .i64 0), (.int .u8 0), (.slice none 0 0), (.map none)])) (by kernel_rfl),
    zs_of (t := 78) (v := .nilFunc) (by kernel_rfl),
    zs_of (t := 79) (v := .nilFunc) (by kernel_rfl),
    zs_of (t := 80) (v := .nilFunc) (by kernel_rfl),
    zs_of (t := 81) (v := .nilFunc) (by kernel_rfl),
    zs_of (t := 82) (v := .nilFunc) (by kernel_rfl),
    zs_of (t := 83) (v := .nilFunc) (by kernel_rfl),
    zs_of (t := 84) (v := .nilFunc) (by kernel_rfl),
    zs_of (t := 85) (v := .nilFunc) (by kernel_rfl),
    zs_of (t := 86) (v := .nilFunc) (by kernel_rfl),
    zs_of (t := 87) (v := .nilFunc) (by kernel_rfl),
    zs_of (t := 89) (v := .nilFunc) (by kernel_rfl),
    zs_of (t := 90) (v := .nilFunc) (by kernel_rfl),
    zs_of (t := 91) (v := .nilFunc) (by kernel_rfl),
    zs_of (t := 92) (v := .nilFunc) (by kernel_rfl),
    zs_of (t := 93) (v := .nilFunc) (by kernel_rfl),
    zs_of (t := 94) (v := .nilFunc) (by kernel_rfl),
    zs_of (t := 95) (v := (.int .u64 0)) (by kernel_rfl),
    zs_of (t := 96) (v := .nilFunc) (by kernel_rfl),
    zs_of (t := 97) (v := (.int .i64 0)) (by kernel_rfl),
    zs_of (t := 99) (v := .nilFunc) (by kernel_rfl),
    zs_of (t := 100) (v := .nilFunc) (by kernel_rfl),
    zs_of (t := 101) (v := .nilFunc) (by kernel_rfl),
    zs_of (t := 102) (v := .nilFunc) (by kernel_rfl),
    zs_of (t := 104) (v := .nilFunc) (by kernel_rfl),
    zs_of (t := 105) (v := .nilFunc) (by kernel_rfl),
    zs_of (t := 106) (v := (.int .u32 0)) (by kernel_rfl),
    zs_of (t := 107) (v := .nilFunc) (by kernel_rfl),
    zs_of (t := 108) (v := (.int .u64 0)) (by kernel_rfl),
    zs_of (t := 109) (v := (.int .u64 0)) (by kernel_rfl),
    zs_of (t := 110) (v := .nilFunc) (by kernel_rfl),
    zs_of (t := 111) (v := .nilFunc) (by kernel_rfl),
    zs_of (t := 112) (v := .nilFunc) (by kernel_rfl),
    zs_of (t := 113) (v := (.pointer none)) (by kernel_rfl),
    zs_of (t := 114) (v := .nilFunc) (by kernel_rfl),
    zs_of (t := 115) (v := (.pointer none)) (by kernel_rfl),
    zs_of (t := 117) (v := .nilFunc) (by kernel_rfl),
    zs_of (t := 118) (v := .nilFunc) (by kernel_rfl),
    zs_of (t := 119) (v := (.agg #[(.pointer none), (.pointer none), (.pointer none), (.string ⟨#[]⟩)])) (by kernel_rfl),
    zs_of (t := 120) (v := (.agg #[(.pointer none), (.pointer none), (.pointer none), (.string ⟨#[]⟩)])) (by kernel_rfl),
    zs_of (t := 124) (v := .nilFunc) (by kernel_rfl),
    zs_of (t := 125) (v := (.int .u8 0)) (by kernel_rfl),
    zs_of (t := 126) (v := (.int .u8 0)) (by kernel_rfl),
    zs_of (t := 127) (v := .nilFunc) (by kernel_rfl),
    zs_of (t := 128) (v := (.pointer none)) (by kernel_rfl),
    zs_of (t := 129) (v := (.int .i32 0)) (by kernel_rfl),
    zs_of (t := 130) (v := (.int .i32 0)) (by kernel_rfl),
    zs_of (t := 131) (v := (.agg #[(.int .u64 0), (.int .u64 0), (.int .u32 0), (.int .u8 0), (.int .u8 0), (.int .u8 0), (.int .u8 0), .nilFunc, (.pointer none), (.int .i32 0), (.int .i32 0)])) (by kernel_rfl),
    zs_of (t := 132) (v := (.agg #[(.int .u64 0), (.int .u64 0), (.int .u32 0), (.int .u8 0), (.int .u8 0), (.int .u8 0), (.int .u8 0), .nilFunc, (.pointer none), (.int .i32 0), (.int .i32 0)])) (by kernel_rfl),
    zs_of (t := 133) (v := (.agg #[(.int .i64 0), (.int .i64 0), (.int .u8 0), (.int .i64 0)])) (by kernel_rfl),
    zs_of (t := 134) (v := (.agg #[(.int .i64 0), (.int .i64 0), (.int .u8 0), (.int .i64 0)])) (by kernel_rfl)⟩
theorem ty_fo7 : ∀ f off, ([0, 1, 2, 3] : List Nat)[f]? = some off → ∀ a w, (Instr.fieldAt 7 (.pointer (some a)) f).run Try.prog w = .ok (.pointer (some (a.add off))) w := by
  intro f off h a w
  rcases f with _ | _ | _ | _ | f <;> simp at h <;> subst h <;> go_simp
theorem ty_fo8 : ∀ f off, ([0, 1, 2, 3] : List Nat)[f]? = some off → ∀ a w, (Instr.fieldAt 8 (.pointer (some a)) f).run Try.prog w = .ok (.pointer (some (a.add off))) w := by
  intro f off h a w
  rcases f with _ | _ | _ | _ | f <;> simp at h <;> subst h <;> go_simp
theorem ty_fo13 : ∀ f off, ([0, 1] : List Nat)[f]? = some off → ∀ a w, (Instr.fieldAt 13 (.pointer (some a)) f).run Try.prog w = .ok (.pointer (some (a.add off))) w := by
  intro f off h a w
  rcases f with _ | _ | f <;> simp at h <;> subst h <;> go_simp
theorem ty_fo14 : ∀ f off, ([0, 1] : List Nat)[f]? = some off → ∀ a w, (Instr.fieldAt 14 (.pointer (some a)) f).run Try.prog w = .ok (.pointer (some (a.add off))) w := by
  intro f off h a w
  rcases f with _ | _ | f <;> simp at h <;> subst h <;> go_simp
theorem ty_fo18 : ∀ f off, ([0] : List Nat)[f]? = some off → ∀ a w, (Instr.fieldAt 18 (.pointer (some a)) f).run Try.prog w = .ok (.pointer (some (a.add off))) w := by
  intro f off h a w
  rcases f with _ | f <;> simp at h <;> subst h <;> go_simp
theorem ty_fo19 : ∀ f off, ([0] : List Nat)[f]? = some off → ∀ a w, (Instr.fieldAt 19 (.pointer (some a)) f).run Try.prog w = .ok (.pointer (some (a.add off))) w := by
  intro f off h a w
  rcases f with _ | f <;> simp at h <;> subst h <;> go_simp
theorem ty_fo42 : ∀ f off, ([0, 1, 2] : List Nat)[f]? = some off → ∀ a w, (Instr.fieldAt 42 (.pointer (some a)) f).run Try.prog w = .ok (.pointer (some (a.add off))) w := by
  intro f off h a w
  rcases f with _ | _ | _ | f <;> simp at h <;> subst h <;> go_simp
theorem ty_fo43 : ∀ f off, ([0, 1, 2] : List Nat)[f]? = some off → ∀ a w, (Instr.fieldAt 43 (.pointer (some a)) f).run Try.prog w = .ok (.pointer (some (a.add off))) w := by
  intro f off h a w
  rcases f with _ | _ | _ | f <;> simp at h <;> subst h <;> go_simp
theorem ty_fo45 : ∀ f off, ([0, 1] : List Nat)[f]? = some off → ∀ a w, (Instr.fieldAt 45 (.pointer (some a)) f).run Try.prog w = .ok (.pointer (some (a.add off))) w := by
  intro f off h a w
  rcases f with _ | _ | f <;> simp at h <;> subst h <;> go_simp
theorem ty_fo46 : ∀ f off, ([0, 1] : List Nat)[f]? = some off → ∀ a w, (Instr.fieldAt 46 (.pointer (some a)) f).run Try.prog w = .ok (.pointer (some (a.add off))) w := by
  intro f off h a w
  rcases f with _ | _ | f <;> simp at h <;> subst h <;> go_simp
theorem ty_fo64 : ∀ f off, ([0, 1, 2, 3] : List Nat)[f]? = some off → ∀ a w, (Instr.fieldAt 64 (.pointer (some a)) f).run Try.prog w = .ok (.pointer (some (a.add off))) w := by
  intro f off h a w
  rcases f with _ | _ | _ | _ | f <;> simp at h <;> subst h <;> go_simp
theorem ty_fo65 : ∀ f off, ([0, 1, 2, 3] : List Nat)[f]? = some off → ∀ a w, (Instr.fieldAt 65 (.pointer (some a)) f).run Try.prog w = .ok (.pointer (some (a.add off))) w := by
  intro f off h a w
  rcases f with _ | _ | _ | _ | f <;> simp at h <;> subst h <;> go_simp
theorem ty_fo76 : ∀ f off, ([0, 3] : List Nat)[f]? = some off → ∀ a w, (Instr.fieldAt 76 (.pointer (some a)) f).run Try.prog w = .ok (.pointer (some (a.add off))) w := by
  intro f off h a w
  rcases f with _ | _ | f <;> simp at h <;> subst h <;> go_simp
theorem ty_fo77 : ∀ f off, ([0, 3] : List Nat)[f]? = some off → ∀ a w, (Instr.fieldAt 77 (.pointer (some a)) f).run Try.prog w = .ok (.pointer (some (a.add off))) w := by
  intro f off h a w
  rcases f with _ | _ | f <;> simp at h <;> subst h <;> go_simp
theorem ty_fo119 : ∀ f off, ([0, 1, 2, 3] : List Nat)[f]? = some off → ∀ a w, (Instr.fieldAt 119 (.pointer (some a)) f).run Try.prog w = .ok (.pointer (some (a.add off))) w := by
  intro f off h a w
  rcases f with _ | _ | _ | _ | f <;> simp at h <;> subst h <;> go_simp
theorem ty_fo120 : ∀ f off, ([0, 1, 2, 3] : List Nat)[f]? = some off → ∀ a w, (Instr.fieldAt 120 (.pointer (some a)) f).run Try.prog w = .ok (.pointer (some (a.add off))) w := by
  intro f off h a w
  rcases f with _ | _ | _ | _ | f <;> simp at h <;> subst h <;> go_simp
theorem ty_fo131 : ∀ f off, ([0, 1, 2, 3, 4, 5, 6, 7, 8, 9, 10] : List Nat)[f]? = some off → ∀ a w, (Instr.fieldAt 131 (.pointer (some a)) f).run Try.prog w = .ok (.pointer (some (a.add off))) w := by
  intro f off h a w
  rcases f with _ | _ | _ | _ | _ | _ | _ | _ | _ | _ | _ | f <;> simp at h <;> subst h <;> go_simp
theorem ty_fo132 : ∀ f off, ([0, 1, 2, 3, 4, 5, 6, 7, 8, 9, 10] : List Nat)[f]? = some off → ∀ a w, (Instr.fieldAt 132 (.pointer (some a)) f).run Try.prog w = .ok (.pointer (some (a.add off))) w := by
  intro f off h a w
  rcases f with _ | _ | _ | _ | _ | _ | _ | _ | _ | _ | _ | f <;> simp at h <;> subst h <;> go_simp
theorem ty_fo133 : ∀ f off, ([0, 1, 2, 3] : List Nat)[f]? = some off → ∀ a w, (Instr.fieldAt 133 (.pointer (some a)) f).run Try.prog w = .ok (.pointer (some (a.add off))) w := by
  intro f off h a w
  rcases f with _ | _ | _ | _ | f <;> simp at h <;> subst h <;> go_simp
theorem ty_fo134 : ∀ f off, ([0, 1, 2, 3] : List Nat)[f]? = some off → ∀ a w, (Instr.fieldAt 134 (.pointer (some a)) f).run Try.prog w = .ok (.pointer (some (a.add off))) w := by
  intro f off h a w
  rcases f with _ | _ | _ | _ | f <;> simp at h <;> subst h <;> go_simp
set_option maxRecDepth 10000 in
theorem ty_hfo : ∀ p ∈ ty_fo, ∀ f off, p.2[f]? = some off → ∀ a w, (Instr.fieldAt p.1 (.pointer (some a)) f).run Try.prog w = .ok (.pointer (some (a.add off))) w := by
  unfold ty_fo
  simp only [List.mem_cons, List.not_mem_nil, or_false, forall_eq_or_imp, forall_eq]
  exact ⟨ty_fo7,
    ty_fo8,
    ty_fo13,
    ty_fo14,
    ty_fo18,
    ty_fo19,
    ty_fo42,
    ty_fo43,
    ty_fo45,
    ty_fo46,
    ty_fo64,
    ty_fo65,
    ty_fo76,
    ty_fo77,
    ty_fo119,
    ty_fo120,
    ty_fo131,
    ty_fo132,
    ty_fo133,
    ty_fo134⟩
set_option maxRecDepth 10000 in
theorem ty_hel : ∀ p ∈ ty_el, Try.prog.underlying p.1 = some (.slice p.2) := by
  unfold ty_el
  simp only [List.mem_cons, List.not_mem_nil, or_false, forall_eq_or_imp, forall_eq]
  exact ⟨Try.underlying22,
    Try.underlying23,
    Try.underlying26,
    Try.underlying40,
    Try.underlying41,
    Try.underlying55⟩
set_option maxRecDepth 10000 in
theorem ty_hik : ∀ p ∈ ty_ik, Try.prog.underlying p.1 = some (.int p.2) := by
  unfold ty_ik
  simp only [List.mem_cons, List.not_mem_nil, or_false, forall_eq_or_imp, forall_eq]
  exact ⟨Try.underlying2,
    Try.underlying3,
    Try.underlying5,
    Try.underlying6,
    Try.underlying12,
    Try.underlying21,
    Try.underlying27,
    Try.underlying95,
    Try.underlying97,
    Try.underlying106,
    Try.underlying108,
    Try.underlying109,
    Try.underlying125,
    Try.underlying126,
    Try.underlying129,
    Try.underlying130⟩
set_option maxRecDepth 10000 in
theorem ty_hmp : ∀ p ∈ ty_mp, Try.prog.underlying p.1 = some (.map p.2.1 p.2.2) := by
  unfold ty_mp
  simp only [List.mem_cons, List.not_mem_nil, or_false, forall_eq_or_imp, forall_eq]
  exact Try.underlying44
theorem ty_mixed : Try.prog.follows .mixedOrders = true := by kernel_rfl
def ty_inf : List (Nat × Value × Nat × Nat) := [(3, (.int .i64 0), 1, 8), (4, (.bool false), 1, 1), (26, (.slice none 0 0), 1, 24), (43, (.agg #[(.int .i64 0), (.int .u8 0), (.slice none 0 0)]), 3, 40), (65, (.agg #[(.int .i64 0), (.int .i64 0), (.int .i64 0), (.int .u8 0)]), 4, 32), (134, (.agg #[(.int .i64 0), (.int .i64 0), (.int .u8 0), (.int .i64 0)]), 4, 32)]
set_option maxRecDepth 10000 in
theorem ty_hinf : ∀ p ∈ ty_inf, (Try.prog.info? p.1).map (fun i => (i.zero, i.size, i.bytes)) = some (some p.2.1, p.2.2.1, p.2.2.2) := by
  unfold ty_inf
  simp only [List.mem_cons, List.not_mem_nil, or_false, forall_eq_or_imp, forall_eq]
  exact ⟨(by kernel_rfl),
    (by kernel_rfl),
    (by kernel_rfl),
    (by kernel_rfl),
    (by kernel_rfl),
    (by kernel_rfl)⟩
def T_ : Tys Try.prog := ⟨ty_mixed, ty_tk, ty_htk, ty_zs, ty_hzs, ty_fo, ty_hfo, ty_el, ty_hel, ty_ik, ty_hik, ty_mp, ty_hmp⟩
def TR_ : TysR Try.prog := { T_ with inf := ty_inf, hinf := ty_hinf }
theorem ty_bl7 : ∀ (parts : Array (Nat × Value)) (cs : Array Value) (w : World), Instr.fill (fun i => ([(0, 1), (1, 1), (2, 1), (3, 1)] : List (Nat × Nat))[i]?) #[(.int .i64 0), (.int .i64 0), (.bool false), (.int .u8 0)] parts.toList = some cs → (Instr.build 7 parts).run Try.prog w = .ok (.agg cs) w := by
  intro parts cs w h
  unfold Instr.build
  have hz : (zeroValue 7).run Try.prog w = .ok (.agg #[(.int .i64 0), (.int .i64 0), (.bool false), (.int .u8 0)]) w := ty_hzs (7, .agg #[(.int .i64 0), (.int .i64 0), (.bool false), (.int .u8 0)]) (look_mem (l := ty_zs) rfl) w
  have hu := run_underlying Try.underlying7 w
  simp only [Sem.run_bind, hz, hu, Result.andThen_ok, Value.cells]
  simp [Array.mapM_eq_foldlM]
  rw [h]
  rfl
theorem ty_bl8 : ∀ (parts : Array (Nat × Value)) (cs : Array Value) (w : World), Instr.fill (fun i => ([(0, 1), (1, 1), (2, 1), (3, 1)] : List (Nat × Nat))[i]?) #[(.int .i64 0), (.int .i64 0), (.bool false), (.int .u8 0)] parts.toList = some cs → (Instr.build 8 parts).run Try.prog w = .ok (.agg cs) w := by
  intro parts cs w h
  unfold Instr.build
  have hz : (zeroValue 8).run Try.prog w = .ok (.agg #[(.int .i64 0), (.int .i64 0), (.bool false), (.int .u8 0)]) w := ty_hzs (8, .agg #[(.int .i64 0), (.int .i64 0), (.bool false), (.int .u8 0)]) (look_mem (l := ty_zs) rfl) w
  have hu := run_underlying Try.underlying8 w
  simp only [Sem.run_bind, hz, hu, Result.andThen_ok, Value.cells]
  simp [Array.mapM_eq_foldlM]
  rw [h]
  rfl
theorem ty_bl13 : ∀ (parts : Array (Nat × Value)) (cs : Array Value) (w : World), Instr.fill (fun i => ([(0, 1), (1, 1)] : List (Nat × Nat))[i]?) #[(.string ⟨#[]⟩), (.int .u64 0)] parts.toList = some cs → (Instr.build 13 parts).run Try.prog w = .ok (.agg cs) w := by
  intro parts cs w h
  unfold Instr.build
  have hz : (zeroValue 13).run Try.prog w = .ok (.agg #[(.string ⟨#[]⟩), (.int .u64 0)]) w := ty_hzs (13, .agg #[(.string ⟨#[]⟩), (.int .u64 0)]) (look_mem (l := ty_zs) rfl) w
  have hu := run_underlying Try.underlying13 w
  simp only [Sem.run_bind, hz, hu, Result.andThen_ok, Value.cells]
  simp [Array.mapM_eq_foldlM]
  rw [h]
  rfl
theorem ty_bl14 : ∀ (parts : Array (Nat × Value)) (cs : Array Value) (w : World), Instr.fill (fun i => ([(0, 1), (1, 1)] : List (Nat × Nat))[i]?) #[(.string ⟨#[]⟩), (.int .u64 0)] parts.toList = some cs → (Instr.build 14 parts).run Try.prog w = .ok (.agg cs) w := by
  intro parts cs w h
  unfold Instr.build
  have hz : (zeroValue 14).run Try.prog w = .ok (.agg #[(.string ⟨#[]⟩), (.int .u64 0)]) w := ty_hzs (14, .agg #[(.string ⟨#[]⟩), (.int .u64 0)]) (look_mem (l := ty_zs) rfl) w
  have hu := run_underlying Try.underlying14 w
  simp only [Sem.run_bind, hz, hu, Result.andThen_ok, Value.cells]
  simp [Array.mapM_eq_foldlM]
  rw [h]
  rfl
theorem ty_bl18 : ∀ (parts : Array (Nat × Value)) (cs : Array Value) (w : World), Instr.fill (fun i => ([(0, 1)] : List (Nat × Nat))[i]?) #[(.pointer none)] parts.toList = some cs → (Instr.build 18 parts).run Try.prog w = .ok (.agg cs) w := by
  intro parts cs w h
  unfold Instr.build
  have hz : (zeroValue 18).run Try.prog w = .ok (.agg #[(.pointer none)]) w := ty_hzs (18, .agg #[(.pointer none)]) (look_mem (l := ty_zs) rfl) w
  have hu := run_underlying Try.underlying18 w
  simp only [Sem.run_bind, hz, hu, Result.andThen_ok, Value.cells]
  simp [Array.mapM_eq_foldlM]
  rw [h]
  rfl
theorem ty_bl19 : ∀ (parts : Array (Nat × Value)) (cs : Array Value) (w : World), Instr.fill (fun i => ([(0, 1)] : List (Nat × Nat))[i]?) #[(.pointer none)] parts.toList = some cs → (Instr.build 19 parts).run Try.prog w = .ok (.agg cs) w := by
  intro parts cs w h
  unfold Instr.build
  have hz : (zeroValue 19).run Try.prog w = .ok (.agg #[(.pointer none)]) w := ty_hzs (19, .agg #[(.pointer none)]) (look_mem (l := ty_zs) rfl) w
  have hu := run_underlying Try.underlying19 w
  simp only [Sem.run_bind, hz, hu, Result.andThen_ok, Value.cells]
  simp [Array.mapM_eq_foldlM]
  rw [h]
  rfl
theorem ty_bl42 : ∀ (parts : Array (Nat × Value)) (cs : Array Value) (w : World), Instr.fill (fun i => ([(0, 1), (1, 1), (2, 1)] : List (Nat × Nat))[i]?) #[(.int .i64 0), (.int .u8 0), (.slice none 0 0)] parts.toList = some cs → (Instr.build 42 parts).run Try.prog w = .ok (.agg cs) w := by
  intro parts cs w h
  unfold Instr.build
  have hz : (zeroValue 42).run Try.prog w = .ok (.agg #[(.int .i64 0), (.int .u8 0), (.slice none 0 0)]) w := ty_hzs (42, .agg #[(.int .i64 0), (.int .u8 0), (.slice none 0 0)]) (look_mem (l := ty_zs) rfl) w
  have hu := run_underlying Try.underlying42 w
  simp only [Sem.run_bind, hz, hu, Result.andThen_ok, Value.cells]
  simp [Array.mapM_eq_foldlM]
  rw [h]
  rfl
theorem ty_bl43 : ∀ (parts : Array (Nat × Value)) (cs : Array Value) (w : World), Instr.fill (fun i => ([(0, 1), (1, 1), (2, 1)] : List (Nat × Nat))[i]?) #[(.int .i64 0), (.int .u8 0), (.slice none 0 0)] parts.toList = some cs → (Instr.build 43 parts).run Try.prog w = .ok (.agg cs) w := by
  intro parts cs w h
  unfold Instr.build
  have hz : (zeroValue 43).run Try.prog w = .ok (.agg #[(.int .i64 0), (.int .u8 0), (.slice none 0 0)]) w := ty_hzs (43, .agg #[(.int .i64 0), (.int .u8 0), (.slice none 0 0)]) (look_mem (l := ty_zs) rfl) w
  have hu := run_underlying Try.underlying43 w
  simp only [Sem.run_bind, hz, hu, Result.andThen_ok, Value.cells]
  simp [Array.mapM_eq_foldlM]
  rw [h]
  rfl
theorem ty_bl45 : ∀ (parts : Array (Nat × Value)) (cs : Array Value) (w : World), Instr.fill (fun i => ([(0, 1), (1, 1)] : List (Nat × Nat))[i]?) #[(.slice none 0 0), (.map none)] parts.toList = some cs → (Instr.build 45 parts).run Try.prog w = .ok (.agg cs) w := by
  intro parts cs w h
  unfold Instr.build
  have hz : (zeroValue 45).run Try.prog w = .ok (.agg #[(.slice none 0 0), (.map none)]) w := ty_hzs (45, .agg #[(.slice none 0 0), (.map none)]) (look_mem (l := ty_zs) rfl) w
  have hu := run_underlying Try.underlying45 w
  simp only [Sem.run_bind, hz, hu, Result.andThen_ok, Value.cells]
  simp [Array.mapM_eq_foldlM]
  rw [h]
  rfl
theorem ty_bl46 : ∀ (parts : Array (Nat × Value)) (cs : Array Value) (w : World), Instr.fill (fun i => ([(0, 1), (1, 1)] : List (Nat × Nat))[i]?) #[(.slice none 0 0), (.map none)] parts.toList = some cs → (Instr.build 46 parts).run Try.prog w = .ok (.agg cs) w := by
  intro parts cs w h
  unfold Instr.build
  have hz : (zeroValue 46).run Try.prog w = .ok (.agg #[(.slice none 0 0), (.map none)]) w := ty_hzs (46, .agg #[(.slice none 0 0), (.map none)]) (look_mem (l := ty_zs) rfl) w
  have hu := run_underlying Try.underlying46 w
  simp only [Sem.run_bind, hz, hu, Result.andThen_ok, Value.cells]
  simp [Array.mapM_eq_foldlM]
  rw [h]
  rfl
theorem ty_bl64 : ∀ (parts : Array (Nat × Value)) (cs : Array Value) (w : World), Instr.fill (fun i => ([(0, 1), (1, 1), (2, 1), (3, 1)] : List (Nat × Nat))[i]?) #[(.int .i64 0), (.int .i64 0), (.int .i64 0), (.int .u8 0)] parts.toList = some cs → (Instr.build 64 parts).run Try.prog w = .ok (.agg cs) w := by
  intro parts cs w h
  unfold Instr.build
  have hz : (zeroValue 64).run Try.prog w = .ok (.agg #[(.int .i64 0), (.int .i64 0), (.int .i64 0), (.int .u8 0)]) w := ty_hzs (64, .agg #[(.int .i64 0), (.int .i64 0), (.int .i64 0), (.int .u8 0)]) (look_mem (l := ty_zs) rfl) w
  have hu := run_underlying Try.underlying64 w
  simp only [Sem.run_bind, hz, hu, Result.andThen_ok, Value.cells]
  simp [Array.mapM_eq_foldlM]
  rw [h]
  rfl
theorem ty_bl65 : ∀ (parts : Array (Nat × Value)) (cs : Array Value) (w : World), Instr.fill (fun i => ([(0, 1), (1, 1), (2, 1), (3, 1)] : List (Nat × Nat))[i]?) #[(.int .i64 0), (.int .i64 0), (.int .i64 0), (.int .u8 0)] parts.toList = some cs → (Instr.build 65 parts).run Try.prog w = .ok (.agg cs) w := by
  intro parts cs w h
  unfold Instr.build
  have hz : (zeroValue 65).run Try.prog w = .ok (.agg #[(.int .i64 0), (.int .i64 0), (.int .i64 0), (.int .u8 0)]) w := ty_hzs (65, .agg #[(.int .i64 0), (.int .i64 0), (.int .i64 0), (.int .u8 0)]) (look_mem (l := ty_zs) rfl) w
  have hu := run_underlying Try.underlying65 w
  simp only [Sem.run_bind, hz, hu, Result.andThen_ok, Value.cells]
  simp [Array.mapM_eq_foldlM]
  rw [h]
  rfl
theorem ty_bl76 : ∀ (parts : Array (Nat × Value)) (cs : Array Value) (w : World), Instr.fill (fun i => ([(0, 3), (3, 1)] : List (Nat × Nat))[i]?) #[(.int .i64 0), (.int .u8 0), (.slice none 0 0), (.map none)] parts.toList = some cs → (Instr.build 76 parts).run Try.prog w = .ok (.agg cs) w := by
  intro parts cs w h
  unfold Instr.build
  have hz : (zeroValue 76).run Try.prog w = .ok (.agg #[(.int .i64 0), (.int .u8 0), (.slice none 0 0), (.map none)]) w := ty_hzs (76, .agg #[(.int .i64 0), (.int .u8 0), (.slice none 0 0), (.map none)]) (look_mem (l := ty_zs) rfl) w
  have hu := run_underlying Try.underlying76 w
  simp only [Sem.run_bind, hz, hu, Result.andThen_ok, Value.cells]
  simp [Array.mapM_eq_foldlM]
  rw [h]
  rfl
theorem ty_bl77 : ∀ (parts : Array (Nat × Value)) (cs : Array Value) (w : World), Instr.fill (fun i => ([(0, 3), (3, 1)] : List (Nat × Nat))[i]?) #[(.int .i64 0), (.int .u8 0), (.slice none 0 0), (.map none)] parts.toList = some cs → (Instr.build 77 parts).run Try.prog w = .ok (.agg cs) w := by
  intro parts cs w h
  unfold Instr.build
  have hz : (zeroValue 77).run Try.prog w = .ok (.agg #[(.int .i64 0), (.int .u8 0), (.slice none 0 0), (.map none)]) w := ty_hzs (77, .agg #[(.int .i64 0), (.int .u8 0), (.slice none 0 0), (.map none)]) (look_mem (l := ty_zs) rfl) w
  have hu := run_underlying Try.underlying77 w
  simp only [Sem.run_bind, hz, hu, Result.andThen_ok, Value.cells]
  simp [Array.mapM_eq_foldlM]
  rw [h]
  rfl
theorem ty_bl119 : ∀ (parts : Array (Nat × Value)) (cs : Array Value) (w : World), Instr.fill (fun i => ([(0, 1), (1, 1), (2, 1), (3, 1)] : List (Nat × Nat))[i]?) #[(.pointer none), (.pointer none), (.pointer none), (.string ⟨#[]⟩)] parts.toList = some cs → (Instr.build 119 parts).run Try.prog w = .ok (.agg cs) w := by
  intro parts cs w h
  unfold Instr.build
  have hz : (zeroValue 119).run Try.prog w = .ok (.agg #[(.pointer none), (.pointer none), (.pointer none), (.string ⟨#[]⟩)]) w := ty_hzs (119, .agg #[(.pointer none), (.pointer none), (.pointer none), (.string ⟨#[]⟩)]) (look_mem (l := ty_zs) rfl) w
  have hu := run_underlying Try.underlying119 w
  simp only [Sem.run_bind, hz, hu, Result.andThen_ok, Value.cells]
  simp [Array.mapM_eq_foldlM]
  rw [h]
  rfl
theorem ty_bl120 : ∀ (parts : Array (Nat × Value)) (cs : Array Value) (w : World), Instr.fill (fun i => ([(0, 1), (1, 1), (2, 1), (3, 1)] : List (Nat × Nat))[i]?) #[(.pointer none), (.pointer none), (.pointer none), (.string ⟨#[]⟩)] parts.toList = some cs → (Instr.build 120 parts).run Try.prog w = .ok (.agg cs) w := by
  intro parts cs w h
  unfold Instr.build
  have hz : (zeroValue 120).run Try.prog w = .ok (.agg #[(.pointer none), (.pointer none), (.pointer none), (.string ⟨#[]⟩)]) w := ty_hzs (120, .agg #[(.pointer none), (.pointer none), (.pointer none), (.string ⟨#[]⟩)]) (look_mem (l := ty_zs) rfl) w
  have hu := run_underlying Try.underlying120 w
  simp only [Sem.run_bind, hz, hu, Result.andThen_ok, Value.cells]
  simp [Array.mapM_eq_foldlM]
  rw [h]
  rfl
theorem ty_bl131 : ∀ (parts : Array (Nat × Value)) (cs : Array Value) (w : World), Instr.fill (fun i => ([(0, 1), (1, 1), (2, 1), (3, 1), (4, 1), (5, 1), (6, 1), (7, 1), (8, 1), (9, 1), (10, 1)] : List (Nat × Nat))[i]?) #[(.int .u64 0), (.int .u64 0), (.int .u32 0), (.int .u8 0), (.int .u8 0), (.int .u8 0), (.int .u8 0), .nilFunc, (.pointer none), (.int .i32 0), (.int .i32 0)] parts.toList = some cs → (Instr.build 131 parts).run Try.prog w = .ok (.agg cs) w := by
  intro parts cs w h
  unfold Instr.build
  have hz : (zeroValue 131).run Try.prog w = .ok (.agg #[(.int .u64 0), (.int .u64 0), (.int .u32 0), (.int .u8 0), (.int .u8 0), (.int .u8 0), (.int .u8 0), .nilFunc, (.pointer none), (.int .i32 0), (.int .i32 0)]) w := ty_hzs (131, .agg #[(.int .u64 0), (.int .u64 0), (.int .u32 0), (.int .u8 0), (.int .u8 0), (.int .u8 0), (.int .u8 0), .nilFunc, (.pointer none), (.int .i32 0), (.int .i32 0)]) (look_mem (l := ty_zs) rfl) w
  have hu := run_underlying Try.underlying131 w
  simp only [Sem.run_bind, hz, hu, Result.andThen_ok, Value.cells]
  simp [Array.mapM_eq_foldlM]
  rw [h]
  rfl
theorem ty_bl132 : ∀ (parts : Array (Nat × Value)) (cs : Array Value) (w : World), Instr.fill (fun i => ([(0, 1), (1, 1), (2, 1), (3, 1), (4, 1), (5, 1), (6, 1), (7, 1), (8, 1), (9, 1), (10, 1)] : List (Nat × Nat))[i]?) #[(.int .u64 0), (.int .u64 0), (.int .u32 0), (.int .u8 0), (.int .u8 0), (.int .u8 0), (.int .u8 0), .nilFunc, (.pointer none), (.int .i32 0), (.int .i32 0)] parts.toList = some cs → (Instr.build 132 parts).run Try.prog w = .ok (.agg cs) w := by
  intro parts cs w h
  unfold Instr.build
  have hz : (zeroValue 132).run Try.prog w = .ok (.agg #[(.int .u64 0), (.int .u64 0), (.int .u32 0), (.int .u8 0), (.int .u8 0), (.int .u8 0), (.int .u8 0), .nilFunc, (.pointer none), (.int .i32 0), (.int .i32 0)]) w := ty_hzs (132, .agg #[(.int .u64 0), (.int .u64 0), (.int .u32 0), (.int .u8 0), (.int .u8 0), (.int .u8 0), (.int .u8 0), .nilFunc, (.pointer none), (.int .i32 0), (.int .i32 0)]) (look_mem (l := ty_zs) rfl) w
  have hu := run_underlying Try.underlying132 w
  simp only [Sem.run_bind, hz, hu, Result.andThen_ok, Value.cells]
  simp [Array.mapM_eq_foldlM]
  rw [h]
  rfl
theorem ty_bl133 : ∀ (parts : Array (Nat × Value)) (cs : Array Value) (w : World), Instr.fill (fun i => ([(0, 1), (1, 1), (2, 1), (3, 1)] : List (Nat × Nat))[i]?) #[(.int .i64 0), (.int .i64 0), (.int .u8 0), (.int .i64 0)] parts.toList = some cs → (Instr.build 133 parts).run Try.prog w = .ok (.agg cs) w := by
  intro parts cs w h
  unfold Instr.build
  have hz : (zeroValue 133).run Try.prog w = .ok (.agg #[(.int .i64 0), (.int .i64 0), (.int .u8 0), (.int .i64 0)]) w := ty_hzs (133, .agg #[(.int .i64 0), (.int .i64 0), (.int .u8 0), (.int .i64 0)]) (look_mem (l := ty_zs) rfl) w
  have hu := run_underlying Try.underlying133 w
  simp only [Sem.run_bind, hz, hu, Result.andThen_ok, Value.cells]
  simp [Array.mapM_eq_foldlM]
  rw [h]
  rfl
theorem ty_bl134 : ∀ (parts : Array (Nat × Value)) (cs : Array Value) (w : World), Instr.fill (fun i => ([(0, 1), (1, 1), (2, 1), (3, 1)] : List (Nat × Nat))[i]?) #[(.int .i64 0), (.int .i64 0), (.int .u8 0), (.int .i64 0)] parts.toList = some cs → (Instr.build 134 parts).run Try.prog w = .ok (.agg cs) w := by
  intro parts cs w h
  unfold Instr.build
  have hz : (zeroValue 134).run Try.prog w = .ok (.agg #[(.int .i64 0), (.int .i64 0), (.int .u8 0), (.int .i64 0)]) w := ty_hzs (134, .agg #[(.int .i64 0), (.int .i64 0), (.int .u8 0), (.int .i64 0)]) (look_mem (l := ty_zs) rfl) w
  have hu := run_underlying Try.underlying134 w
  simp only [Sem.run_bind, hz, hu, Result.andThen_ok, Value.cells]
  simp [Array.mapM_eq_foldlM]
  rw [h]
  rfl
def ty_bl : List (Nat × List (Nat × Nat) × Array Value) := [(7, [(0, 1), (1, 1), (2, 1), (3, 1)], #[(.int .i64 0), (.int .i64 0), (.bool false), (.int .u8 0)]), (8, [(0, 1), (1, 1), (2, 1), (3, 1)], #[(.int .i64 0), (.int .i64 0), (.bool false), (.int .u8 0)]), (13, [(0, 1), (1, 1)], #[(.string ⟨#[]⟩), (.int .u64 0)]), (14, [(0, 1), (1, 1)], #[(.string ⟨#[]⟩), (.int .u64 0)]), (18, [(0, 1)], #[(.pointer none)]), (19, [(0, 1)], #[(.pointer none)]), (42, [(0, 1), (1, 1), (2, 1)], #[(.int .i64 0), (.int .u8 0), (.slice none 0 0)]), (43, [(0, 1), (1, 1), (2, 1)], #[(.int .i64 0), (.int .u8 0), (.slice none 0 0)]), (45, [(0, 1), (1, 1)], #[(.slice none 0 0), (.map none)]), (46, [(0, 1), (1, 1)], #[(.slice none 0 0), (.map none)]), (64, [(0, 1), (1, 1), (2, 1), (3, 1)], #[(.int .i64 0), (.int .i64 0), (.int .i64 0), (.int .u8 0)]), (65, [(0, 1), (1, 1), (2, 1), (3, 1)], #[(.int .i64 0), (.int .i64 0), (.int .i64 0), (.int .u8 0)]), (76, [(0, 3), (3, 1)], #[(.int .i64 0), (.int .u8 0), (.slice none 0 0), (.map none)]), (77, [(0, 3), (3, 1)], #[(.int .i64 0), (.int .u8 0), (.slice none 0 0), (.map none)]), (119, [(0, 1), (1, 1), (2, 1), (3, 1)], #[(.pointer none), (.pointer none), (.pointer none), (.string ⟨#[]⟩)]), (120, [(0, 1), (1, 1), (2, 1), (3, 1)], #[(.pointer none), (.pointer none), (.pointer none), (.string ⟨#[]⟩)]), (131, [(0, 1), (1, 1), (2, 1), (3, 1), (4, 1), (5, 1), (6, 1), (7, 1), (8, 1), (9, 1), (10, 1)], #[(.int .u64 0), (.int .u64 0), (.int .u32 0), (.int .u8 0), (.int .u8 0), (.int .u8 0), (.int .u8 0), .nilFunc, (.pointer none), (.int .i32 0), (.int .i32 0)]), (132, [(0, 1), (1, 1), (2, 1), (3, 1), (4, 1), (5, 1), (6, 1), (7, 1), (8, 1), (9, 1), (10, 1)], #[(.int .u64 0), (.int .u64 0), (.int .u32 0), (.int .u8 0), (.int .u8 0), (.int .u8 0), (.int .u8 0), .nilFunc, (.pointer none), (.int .i32 0), (.int .i32 0)]), (133, [(0, 1), (1, 1), (2, 1), (3, 1)], #[(.int .i64 0), (.int .i64 0), (.int .u8 0), (.int .i64 0)]), (134, [(0, 1), (1, 1), (2, 1), (3, 1)], #[(.int .i64 0), (.int .i64 0), (.int .u8 0), (.int .i64 0)])]
set_option maxRecDepth 10000 in
theorem ty_hbl : ∀ p ∈ ty_bl, ∀ (parts : Array (Nat × Value)) (cs : Array Value) (w : World), Instr.fill (fun i => p.2.1[i]?) p.2.2 parts.toList = some cs → (Instr.build p.1 parts).run Try.prog w = .ok (.agg cs) w := by
  unfold ty_bl
  simp only [List.mem_cons, List.not_mem_nil, or_false, forall_eq_or_imp, forall_eq]
  exact ⟨ty_bl7,
    ty_bl8,
    ty_bl13,
    ty_bl14,
    ty_bl18,
    ty_bl19,
    ty_bl42,
    ty_bl43,
    ty_bl45,
    ty_bl46,
    ty_bl64,
    ty_bl65,
    ty_bl76,
    ty_bl77,
    ty_bl119,
    ty_bl120,
    ty_bl131,
    ty_bl132,
    ty_bl133,
    ty_bl134⟩
def TB_ : TysB Try.prog := { TR_ with bl := ty_bl, hbl := ty_hbl }
end Go.Proofs.Ytcmepdamemnbkaa
