/- What SX asks of this seat's types (written by wip/tools/gen_tys.py). / The kinds of this seat's values (printed by the kit's kinds.py). / trust.in: all numbers of a list are from lo to hi; slices.IndexFunc, ContainsFunc, Index, Contains over whole numbers. / trust: what its functions answer, in plain Lean. / trust.recorded: are records valid? / trust.known, trust.Check. -/
import Derived.Test.YtcmepdamemnbkaaProg
import Derived.Test.YtcmepdamemnbkaaPkLawTrustRests1
import Derived.KernelRfl
import Derived.Test.YtcmepdamemnbkaaWWords
namespace Go.Proofs.Ytcmepdamemnbkaa
open Go.RowKit
set_option linter.unusedVariables false
set_option linter.unusedSimpArgs false
def aggD : TypeDesc → Bool
  | .struct _ | .array _ _ => true
  | _ => false
theorem tk_of {P : Program} {t k : Nat} {d : TypeDesc} (hu : P.underlying t = some d) (hd : aggD d = Nat.blt 0 k) (hi : (P.info? t).map (·.size) = some (bif Nat.beq k 0 then 1 else k)) :
    (∀ w, (isAgg (t, k).1).run P w = .ok (Nat.blt 0 (t, k).2) w) ∧ (∀ w, (sizeOf (t, k).1).run P w = .ok (bif Nat.beq (t, k).2 0 then 1 else (t, k).2) w) := by
  refine ⟨fun w => ?_, fun w => ?_⟩
  · show (isAgg t).run P w = .ok (Nat.blt 0 k) w
    rw [← hd]
    unfold isAgg
    rw [Sem.run_bind, run_underlying hu w]
    cases d <;> rfl
  · obtain ⟨i, h1, h2⟩ := Option.map_eq_some_iff.1 hi
    show (sizeOf t).run P w = .ok (bif Nat.beq k 0 then 1 else k) w
    rw [← h2]
    simp [sizeOf, typeInfo, h1]
theorem zs_of {P : Program} {t : Nat} {v : Value} (hi : (P.info? t).bind (·.zero) = some v) : ∀ w, (zeroValue (t, v).1).run P w = .ok (t, v).2 w := by
  intro w
  obtain ⟨i, h1, h2⟩ := Option.bind_eq_some_iff.1 hi
  show (zeroValue t).run P w = .ok v w
  simp [zeroValue, typeInfo, h1, h2]
def ty_tk : List (Nat × Nat) := [(1, 0), (2, 0), (3, 0), (4, 0), (5, 0), (6, 0), (7, 4), (8, 4), (9, 0), (10, 0), (11, 0), (12, 0), (13, 2), (14, 2), (15, 0), (16, 0), (17, 0), (18, 1), (19, 1), (21, 0), (22, 0), (23, 0), (24, 0), (25, 0), (26, 0), (27, 0), (29, 0), (31, 0), (32, 0), (33, 0), (34, 0), (35, 0), (36, 0), (37, 0), (38, 0), (39, 0), (40, 0), (41, 0), (42, 3), (43, 3), (44, 0), (45, 2), (46, 2), (48, 0), (49, 0), (50, 0), (51, 0), (52, 0), (53, 0), (54, 0), (55, 0), (56, 0), (57, 0), (58, 0), (59, 0), (60, 0), (62, 0), (63, 0), (64, 4), (65, 4), (66, 0), (67, 0), (68, 0), (69, 0), (70, 0), (71, 0), (72, 0), (73, 0), (74, 0), (75, 0), (76, 4), (77, 4), (78, 0), (79, 0), (80, 0), (81, 0), (82, 0), (83, 0), (84, 0), (85, 0), (86, 0), (87, 0), (89, 0), (90, 0), (91, 0), (92, 0), (93, 0), (94, 0), (95, 0), (96, 0), (97, 0), (99, 0), (100, 0), (101, 0), (102, 0), (104, 0), (105, 0), (106, 0), (107, 0), (108, 0), (109, 0), (110, 0), (111, 0), (112, 0), (113, 0), (114, 0), (115, 0), (117, 0), (118, 0), (119, 4), (120, 4), (124, 0), (125, 0), (126, 0), (127, 0), (128, 0), (129, 0), (130, 0), (131, 11), (132, 11), (133, 4), (134, 4)]
def ty_zs : List (Nat × Value) := [(1, .nilFunc), (2, (.int .i64 0)), (3, (.int .i64 0)), (4, (.bool false)), (5, (.int .u8 0)), (6, (.int .u8 0)), (7, (.agg #[(.int .i64 0), (.int .i64 0), (.bool false), (.int .u8 0)])), (8, (.agg #[(.int .i64 0), (.int .i64 0), (.bool false), (.int .u8 0)])), (9, (.string ⟨#[]⟩)), (10, (.string ⟨#[]⟩)), (11, (.string ⟨#[]⟩)), (12, (.int .u64 0)), (13, (.agg #[(.string ⟨#[]⟩), (.int .u64 0)])), (14, (.agg #[(.string ⟨#[]⟩), (.int .u64 0)])), (15, (.pointer none)), (16, (.pointer none)), (17, (.pointer none)), (18, (.agg #[(.pointer none)])), (19, (.agg #[(.pointer none)])), (21, (.int .i32 0)), (22, (.slice none 0 0)), (23, (.slice none 0 0)), (24, .nilFunc), (25, .nilFunc), (26, (.slice none 0 0)), (27, (.int .i64 0)), (29, .nilFunc), (31, .nilFunc), (32, .nilFunc), (33, .nilFunc), (34, .nilFunc), (35, .nilFunc), (36, .nilFunc), (37, .nilFunc), (38, .nilFunc), (39, .nilFunc), (40, (.slice none 0 0)), (41, (.slice none 0 0)), (42, (.agg #[(.int .i64 0), (.int .u8 0), (.slice none 0 0)])), (43, (.agg #[(.int .i64 0), (.int .u8 0), (.slice none 0 0)])), (44, (.map none)), (45, (.agg #[(.slice none 0 0), (.map none)])), (46, (.agg #[(.slice none 0 0), (.map none)])), (48, .nilFunc), (49, .nilFunc), (50, .nilFunc), (51, .nilFunc), (52, .nilFunc), (53, .nilFunc), (54, .nilFunc), (55, (.slice none 0 0)), (56, .nilFunc), (57, .nilFunc), (58, .nilFunc), (59, .nilFunc), (60, .nilFunc), (62, .nilFunc), (63, .nilFunc), (64, (.agg #[(.int .i64 0), (.int .i64 0), (.int .i64 0), (.int .u8 0)])), (65, (.agg #[(.int .i64 0), (.int .i64 0), (.int .i64 0), (.int .u8 0)])), (66, .nilFunc), (67, .nilFunc), (68, .nilFunc), (69, .nilFunc), (70, .nilFunc), (71, .nilFunc), (72, .nilFunc), (73, .nilFunc), (74, .nilFunc), (75, .nilFunc), (76, (.agg #[(.int .i64 0), (.int .u8 0), (.slice none 0 0), (.map none)])), (77, (.agg #[(.int .i64 0), (.int .u8 0), (.slice none 0 0), (.map none)])), (78, .nilFunc), (79, .nilFunc), (80, .nilFunc), (81, .nilFunc), (82, .nilFunc), (83, .nilFunc), (84, .nilFunc), (85, .nilFunc), (86, .nilFunc), (87, .nilFunc), (89, .nilFunc), (90, .nilFunc), (91, .nilFunc), (92, .nilFunc), (93, .nilFunc), (94, .nilFunc), (95, (.int .u64 0)), (96, .nilFunc), (97, (.int .i64 0)), (99, .nilFunc), (100, .nilFunc), (101, .nilFunc), (102, .nilFunc), (104, .nilFunc), (105, .nilFunc), (106, (.int .u32 0)), (107, .nilFunc), (108, (.int .u64 0)), (109, (.int .u64 0)), (110, .nilFunc), (111, .nilFunc), (112, .nilFunc), (113, (.pointer none)), (114, .nilFunc), (115, (.pointer none)), (117, .nilFunc), (118, .nilFunc), (119, (.agg #[(.pointer none), (.pointer none), (.pointer none), (.string ⟨#[]⟩)])), (120, (.agg #[(.pointer none), (.pointer none), (.pointer none), (.string ⟨#[]⟩)])), (124, .nilFunc), (125, (.int .u8 0)), (126, (.int .u8 0)), (127, .nilFunc), (128, (.pointer none)), (129, (.int .i32 0)), (130, (.int .i32 0)), (131, (.agg #[(.int .u64 0), (.int .u64 0), (.int .u32 0), (.int .u8 0), (.int .u8 0), (.int .u8 0), (.int .u8 0), .nilFunc, (.pointer none), (.int .i32 0), (.int .i32 0)])), (132, (.agg #[(.int .u64 0), (.int .u64 0), (.int .u32 0), (.int .u8 0), (.int .u8 0), (.int .u8 0), (.int .u8 0), .nilFunc, (.pointer none), (.int .i32 0), (.int .i32 0)])), (133, (.agg #[(.int .i64 0), (.int .i64 0), (.int .u8 0), (.int .i64 0)])), (134, (.agg #[(.int .i64 0), (.int .i64 0), (.int .u8 0), (.int .i64 0)]))]
def ty_fo : List (Nat × List Nat) := [(7, [0, 1, 2, 3]), (8, [0, 1, 2, 3]), (13, [0, 1]), (14, [0, 1]), (18, [0]), (19, [0]), (42, [0, 1, 2]), (43, [0, 1, 2]), (45, [0, 1]), (46, [0, 1]), (64, [0, 1, 2, 3]), (65, [0, 1, 2, 3]), (76, [0, 3]), (77, [0, 3]), (119, [0, 1, 2, 3]), (120, [0, 1, 2, 3]), (131, [0, 1, 2, 3, 4, 5, 6, 7, 8, 9, 10]), (132, [0, 1, 2, 3, 4, 5, 6, 7, 8, 9, 10]), (133, [0, 1, 2, 3]), (134, [0, 1, 2, 3])]
def ty_el : List (Nat × Nat) := [(22, 43), (23, 65), (26, 3), (40, 134), (41, 26), (55, 4)]
def ty_ik : List (Nat × IntKind) := [(2, .i64), (3, .i64), (5, .u8), (6, .u8), (12, .u64), (21, .i32), (27, .i64), (95, .u64), (97, .i64), (106, .u32), (108, .u64), (109, .u64), (125, .u8), (126, .u8), (129, .i32), (130, .i32)]
def ty_mp : List (Nat × Nat × Nat) := [(44, 3, 4)]
set_option maxRecDepth 10000 in
theorem ty_htk : ∀ p ∈ ty_tk, (∀ w, (isAgg p.1).run Try.prog w = .ok (Nat.blt 0 p.2) w) ∧ (∀ w, (sizeOf p.1).run Try.prog w = .ok (bif Nat.beq p.2 0 then 1 else p.2) w) := by
  unfold ty_tk
  simp only [List.mem_cons, List.not_mem_nil, or_false, forall_eq_or_imp, forall_eq]
  exact ⟨tk_of (k := 0) Try.underlying1 rfl (by kernel_rfl),
    tk_of (k := 0) Try.underlying2 rfl (by kernel_rfl),
    tk_of (k := 0) Try.underlying3 rfl (by kernel_rfl),
    tk_of (k := 0) Try.underlying4 rfl (by kernel_rfl),
    tk_of (k := 0) Try.underlying5 rfl (by kernel_rfl),
    tk_of (k := 0) Try.underlying6 rfl (by kernel_rfl),
    tk_of (k := 4) Try.underlying7 rfl (by kernel_rfl),
    tk_of (k := 4) Try.underlying8 rfl (by kernel_rfl),
    tk_of (k := 0) Try.underlying9 rfl (by kernel_rfl),
    tk_of (k := 0) Try.underlying10 rfl (by kernel_rfl),
    tk_of (k := 0) Try.underlying11 rfl (by kernel_rfl),
    tk_of (k := 0) Try.underlying12 rfl (by kernel_rfl),
    tk_of (k := 2) Try.underlying13 rfl (by kernel_rfl),
    tk_of (k := 2) Try.underlying14 rfl (by kernel_rfl),
    tk_of (k := 0) Try.underlying15 rfl (by kernel_rfl),
    tk_of (k := 0) Try.underlying16 rfl (by kernel_rfl),
    tk_of (k := 0) Try.underlying17 rfl (by kernel_rfl),
    tk_of (k := 1) Try.underlying18 rfl (by kernel_rfl),
    tk_of (k := 1) Try.underlying19 rfl (by kernel_rfl),
    tk_of (k := 0) Try.underlying21 rfl (by kernel_rfl),
    tk_of (k := 0) Try.underlying22 rfl (by kernel_rfl),
    tk_of (k := 0) Try.underlying23 rfl (by kernel_rfl),
    tk_of (k := 0) Try.underlying24 rfl (by kernel_rfl),
    tk_of (k := 0) Try.underlying25 rfl (by kernel_rfl),
    tk_of (k := 0) Try.underlying26 rfl (by kernel_rfl),
    tk_of (k := 0) Try.underlying27 rfl (by kernel_rfl),
    tk_of (k := 0) Try.underlying29 rfl (by kernel_rfl),
    tk_of (k := 0) Try.underlying31 rfl (by kernel_rfl),
    tk_of (k := 0) Try.underlying32 rfl (by kernel_rfl),
    tk_of (k := 0) Try.underlying33 rfl (by kernel_rfl),
    tk_of (k := 0) Try.underlying34 rfl (by kernel_rfl),
    tk_of (k := 0) Try.underlying35 rfl (by kernel_rfl),
    tk_of (k := 0) Try.underlying36 rfl (by kernel_rfl),
    tk_of (k := 0) Try.underlying37 rfl (by kernel_rfl),
    tk_of (k := 0) Try.underlying38 rfl (by kernel_rfl),
    tk_of (k := 0) Try.underlying39 rfl (by kernel_rfl),
    tk_of (k := 0) Try.underlying40 rfl (by kernel_rfl),
    tk_of (k := 0) Try.underlying41 rfl (by kernel_rfl),
    tk_of (k := 3) Try.underlying42 rfl (by kernel_rfl),
    tk_of (k := 3) Try.underlying43 rfl (by kernel_rfl),
    tk_of (k := 0) Try.underlying44 rfl (by kernel_rfl),
    tk_of (k := 2) Try.underlying45 rfl (by kernel_rfl),
    tk_of (k := 2) Try.underlying46 rfl (by kernel_rfl),
    tk_of (k := 0) Try.underlying48 rfl (by kernel_rfl),
    tk_of (k := 0) Try.underlying49 rfl (by kernel_rfl),
    tk_of (k := 0) Try.underlying50 rfl (by kernel_rfl),
    tk_of (k := 0) Try.underlying51 rfl (by kernel_rfl),
    tk_of (k := 0) Try.underlying52 rfl (by kernel_rfl),
    tk_of (k := 0) Try.underlying53 rfl (by kernel_rfl),
    tk_of (k := 0) Try.underlying54 rfl (by kernel_rfl),
    tk_of (k := 0) Try.underlying55 rfl (by kernel_rfl),
    tk_of (k := 0) Try.underlying56 rfl (by kernel_rfl),
    tk_of (k := 0) Try.underlying57 rfl (by kernel_rfl),
    tk_of (k := 0) Try.underlying58 rfl (by kernel_rfl),
    tk_of (k := 0) Try.underlying59 rfl (by kernel_rfl),
    tk_of (k := 0) Try.underlying60 rfl (by kernel_rfl),
    tk_of (k := 0) Try.underlying62 rfl (by kernel_rfl),
    tk_of (k := 0) Try.underlying63 rfl (by kernel_rfl),
    tk_of (k := 4) Try.underlying64 rfl (by kernel_rfl),
    tk_of (k := 4) Try.underlying65 rfl (by kernel_rfl),
    tk_of (k := 0) Try.underlying66 rfl (by kernel_rfl),
    tk_of (k := 0) Try.underlying67 rfl (by kernel_rfl),
    tk_of (k := 0) Try.underlying68 rfl (by kernel_rfl),
    tk_of (k := 0) Try.underlying69 rfl (by kernel_rfl),
    tk_of (k := 0) Try.underlying70 rfl (by kernel_rfl),
    tk_of (k := 0) Try.underlying71 rfl (by kernel_rfl),
    tk_of (k := 0) Try.underlying72 rfl (by kernel_rfl),
    tk_of (k := 0) Try.underlying73 rfl (by kernel_rfl),
    tk_of (k := 0) Try.underlying74 rfl (by kernel_rfl),
    tk_of (k := 0) Try.underlying75 rfl (by kernel_rfl),
    tk_of (k := 4) Try.underlying76 rfl (by kernel_rfl),
    tk_of (k := 4) Try.underlying77 rfl (by kernel_rfl),
    tk_of (k := 0) Try.underlying78 rfl (by kernel_rfl),
    tk_of (k := 0) Try.underlying79 rfl (by kernel_rfl),
    tk_of (k := 0) Try.underlying80 rfl (by kernel_rfl),
    tk_of (k := 0) Try.underlying81 rfl (by kernel_rfl),
    tk_of (k := 0) Try.underlying82 rfl (by kernel_rfl),
    tk_of (k := 0) Try.underlying83 rfl (by kernel_rfl),
    tk_of (k := 0) Try.underlying84 rfl (by kernel_rfl),
    tk_of (k := 0) Try.underlying85 rfl (by kernel_rfl),
    tk_of (k := 0) Try.underlying86 rfl (by kernel_rfl),
    tk_of (k := 0) Try.underlying87 rfl (by kernel_rfl),
    tk_of (k := 0) Try.underlying89 rfl (by kernel_rfl),
    tk_of (k := 0) Try.underlying90 rfl (by kernel_rfl),
    tk_of (k := 0) Try.underlying91 rfl (by kernel_rfl),
    tk_of (k := 0) Try.underlying92 rfl (by kernel_rfl),
    tk_of (k := 0) Try.underlying93 rfl (by kernel_rfl),
    tk_of (k := 0) Try.underlying94 rfl (by kernel_rfl),
    tk_of (k := 0) Try.underlying95 rfl (by kernel_rfl),
    tk_of (k := 0) Try.underlying96 rfl (by kernel_rfl),
    tk_of (k := 0) Try.underlying97 rfl (by kernel_rfl),
    tk_of (k := 0) Try.underlying99 rfl (by kernel_rfl),
    tk_of (k := 0) Try.underlying100 rfl (by kernel_rfl),
    tk_of (k := 0) Try.underlying101 rfl (by kernel_rfl),
    tk_of (k := 0) Try.underlying102 rfl (by kernel_rfl),
    tk_of (k := 0) Try.underlying104 rfl (by kernel_rfl),
    tk_of (k := 0) Try.underlying105 rfl (by kernel_rfl),
    tk_of (k := 0) Try.underlying106 rfl (by kernel_rfl),
    tk_of (k := 0) Try.underlying107 rfl (by kernel_rfl),
    tk_of (k := 0) Try.underlying108 rfl (by kernel_rfl),
    tk_of (k := 0) Try.underlying109 rfl (by kernel_rfl),
    tk_of (k := 0) Try.underlying110 rfl (by kernel_rfl),
    tk_of (k := 0) Try.underlying111 rfl (by kernel_rfl),
    tk_of (k := 0) Try.underlying112 rfl (by kernel_rfl),
    tk_of (k := 0) Try.underlying113 rfl (by kernel_rfl),
    tk_of (k := 0) Try.underlying114 rfl (by kernel_rfl),
    tk_of (k := 0) Try.underlying115 rfl (by kernel_rfl),
    tk_of (k := 0) Try.underlying117 rfl (by kernel_rfl),
    tk_of (k := 0) Try.underlying118 rfl (by kernel_rfl),
    tk_of (k := 4) Try.underlying119 rfl (by kernel_rfl),
    tk_of (k := 4) Try.underlying120 rfl (by kernel_rfl),
    tk_of (k := 0) Try.underlying124 rfl (by kernel_rfl),
    tk_of (k := 0) Try.underlying125 rfl (by kernel_rfl),
    tk_of (k := 0) Try.underlying126 rfl (by kernel_rfl),
    tk_of (k := 0) Try.underlying127 rfl (by kernel_rfl),
    tk_of (k := 0) Try.underlying128 rfl (by kernel_rfl),
    tk_of (k := 0) Try.underlying129 rfl (by kernel_rfl),
    tk_of (k := 0) Try.underlying130 rfl (by kernel_rfl),
    tk_of (k := 11) Try.underlying131 rfl (by kernel_rfl),
    tk_of (k := 11) Try.underlying132 rfl (by kernel_rfl),
    tk_of (k := 4) Try.underlying133 rfl (by kernel_rfl),
    tk_of (k := 4) Try.underlying134 rfl (by kernel_rfl)⟩
set_option maxRecDepth 10000 in
theorem ty_hzs : ∀ p ∈ ty_zs, ∀ w, (zeroValue p.1).run Try.prog w = .ok p.2 w := by
  unfold ty_zs
  simp only [List.mem_cons, List.not_mem_nil, or_false, forall_eq_or_imp, forall_eq]
  exact ⟨zs_of (t := 1) (v := .nilFunc) (by kernel_rfl),
    zs_of (t := 2) (v := (.int .i64 0)) (by kernel_rfl),
    zs_of (t := 3) (v := (.int .i64 0)) (by kernel_rfl),
    zs_of (t := 4) (v := (.bool false)) (by kernel_rfl),
    zs_of (t := 5) (v := (.int .u8 0)) (by kernel_rfl),
    zs_of (t := 6) (v := (.int .u8 0)) (by kernel_rfl),
    zs_of (t := 7) (v := (.agg #[(.int .i64 0), (.int .i64 0), (.bool false), (.int .u8 0)])) (by kernel_rfl),
    zs_of (t := 8) (v := (.agg #[(.int .i64 0), (.int .i64 0), (.bool false), (.int .u8 0)])) (by kernel_rfl),
    zs_of (t := 9) (v := (.string ⟨#[]⟩)) (by kernel_rfl),
    zs_of (t := 10) (v := (.string ⟨#[]⟩)) (by kernel_rfl),
    zs_of (t := 11) (v := (.string ⟨#[]⟩)) (by kernel_rfl),
    zs_of (t := 12) (v := (.int .u64 0)) (by kernel_rfl),
    zs_of (t := 13) (v := (.agg #[(.string ⟨#[]⟩), (.int .u64 0)])) (by kernel_rfl),
    zs_of (t := 14) (v := (.agg #[(.string ⟨#[]⟩), (.int .u64 0)])) (by kernel_rfl),
    zs_of (t := 15) (v := (.pointer none)) (by kernel_rfl),
    zs_of (t := 16) (v := (.pointer none)) (by kernel_rfl),
    zs_of (t := 17) (v := (.pointer none)) (by kernel_rfl),
    zs_of (t := 18) (v := (.agg #[(.pointer none)])) (by kernel_rfl),
    zs_of (t := 19) (v := (.agg #[(.pointer none)])) (by kernel_rfl),
    zs_of (t := 21) (v := (.int .i32 0)) (by kernel_rfl),
    zs_of (t := 22) (v := (.slice none 0 0)) (by kernel_rfl),
    zs_of (t := 23) (v := (.slice none 0 0)) (by kernel_rfl),
    zs_of (t := 24) (v := .nilFunc) (by kernel_rfl),
    zs_of (t := 25) (v := .nilFunc) (by kernel_rfl),
    zs_of (t := 26) (v := (.slice none 0 0)) (by kernel_rfl),
    zs_of (t := 27) (v := (.int .i64 0)) (by kernel_rfl),
    zs_of (t := 29) (v := .nilFunc) (by kernel_rfl),
    zs_of (t := 31) (v := .nilFunc) (by kernel_rfl),
    zs_of (t := 32) (v := .nilFunc) (by kernel_rfl),
    zs_of (t := 33) (v := .nilFunc) (by kernel_rfl),
    zs_of (t := 34) (v := .nilFunc) (by kernel_rfl),
    zs_of (t := 35) (v := .nilFunc) (by kernel_rfl),
    zs_of (t := 36) (v := .nilFunc) (by kernel_rfl),
    zs_of (t := 37) (v := .nilFunc) (by kernel_rfl),
    zs_of (t := 38) (v := .nilFunc) (by kernel_rfl),
    zs_of (t := 39) (v := .nilFunc) (by kernel_rfl),
    zs_of (t := 40) (v := (.slice none 0 0)) (by kernel_rfl),
    zs_of (t := 41) (v := (.slice none 0 0)) (by kernel_rfl),
    zs_of (t := 42) (v := (.agg #[(.int .i64 0), (.int .u8 0), (.slice none 0 0)])) (by kernel_rfl),
    zs_of (t := 43) (v := (.agg #[(.int .i64 0), (.int .u8 0), (.slice none 0 0)])) (by kernel_rfl),
    zs_of (t := 44) (v := (.map none)) (by kernel_rfl),
    zs_of (t := 45) (v := (.agg #[(.slice none 0 0), (.map none)])) (by kernel_rfl),
    zs_of (t := 46) (v := (.agg #[(.slice none 0 0), (.map none)])) (by kernel_rfl),
    zs_of (t := 48) (v := .nilFunc) (by kernel_rfl),
    zs_of (t := 49) (v := .nilFunc) (by kernel_rfl),
    zs_of (t := 50) (v := .nilFunc) (by kernel_rfl),
    zs_of (t := 51) (v := .nilFunc) (by kernel_rfl),
    zs_of (t := 52) (v := .nilFunc) (by kernel_rfl),
    zs_of (t := 53) (v := .nilFunc) (by kernel_rfl),
    zs_of (t := 54) (v := .nilFunc) (by kernel_rfl),
    zs_of (t := 55) (v := (.slice none 0 0)) (by kernel_rfl),
    zs_of (t := 56) (v := .nilFunc) (by kernel_rfl),
    zs_of (t := 57) (v := .nilFunc) (by kernel_rfl),
    zs_of (t := 58) (v := .nilFunc) (by kernel_rfl),
    zs_of (t := 59) (v := .nilFunc) (by kernel_rfl),
    zs_of (t := 60) (v := .nilFunc) (by kernel_rfl),
    zs_of (t := 62) (v := .nilFunc) (by kernel_rfl),
    zs_of (t := 63) (v := .nilFunc) (by kernel_rfl),
    zs_of (t := 64) (v := (.agg #[(.int .i64 0), (.int .i64 0), (.int .i64 0), (.int .u8 0)])) (by kernel_rfl),
    zs_of (t := 65) (v := (.agg #[(.int .i64 0), (.int .i64 0), (.int .i64 0), (.int .u8 0)])) (by kernel_rfl),
    zs_of (t := 66) (v := .nilFunc) (by kernel_rfl),
    zs_of (t := 67) (v := .nilFunc) (by kernel_rfl),
    zs_of (t := 68) (v := .nilFunc) (by kernel_rfl),
    zs_of (t := 69) (v := .nilFunc) (by kernel_rfl),
    zs_of (t := 70) (v := .nilFunc) (by kernel_rfl),
    zs_of (t := 71) (v := .nilFunc) (by kernel_rfl),
    zs_of (t := 72) (v := .nilFunc) (by kernel_rfl),
    zs_of (t := 73) (v := .nilFunc) (by kernel_rfl),
    zs_of (t := 74) (v := .nilFunc) (by kernel_rfl),
    zs_of (t := 75) (v := .nilFunc) (by kernel_rfl),
    zs_of (t := 76) (v := (.agg #[(.int .i64 0), (.int .u8 0), (.slice none 0 0), (.map none)])) (by kernel_rfl),
    zs_of (t := 77) (v := (.agg #[(.int .i64 0), (.int .u8 0), (.slice none 0 0), (.map none)])) (by kernel_rfl),
    zs_of (t := 78) (v := .nilFunc) (by kernel_rfl),
    zs_of (t := 79) (v := .nilFunc) (by kernel_rfl),
    zs_of (t := 80) (v := .nilFunc) (by kernel_rfl),
    zs_of (t := 81) (v := .nilFunc) (by kernel_rfl),
    zs_of (t := 82) (v := .nilFunc) (by kernel_rfl),
    zs_of (t := 83) (v := .nilFunc) (by kernel_rfl),
    zs_of (t := 84) (v := .nilFunc) (by kernel_rfl),
    zs_of (t := 85) (v := .nilFunc) (by kernel_rfl),
    zs_of (t := 86) (v := .nilFunc) (by kernel_rfl),
    zs_of (t := 87) (v := .nilFunc) (by kernel_rfl),
    zs_of (t := 89) (v := .nilFunc) (by kernel_rfl),
    zs_of (t := 90) (v := .nilFunc) (by kernel_rfl),
    zs_of (t := 91) (v := .nilFunc) (by kernel_rfl),
    zs_of (t := 92) (v := .nilFunc) (by kernel_rfl),
    zs_of (t := 93) (v := .nilFunc) (by kernel_rfl),
    zs_of (t := 94) (v := .nilFunc) (by kernel_rfl),
    zs_of (t := 95) (v := (.int .u64 0)) (by kernel_rfl),
    zs_of (t := 96) (v := .nilFunc) (by kernel_rfl),
    zs_of (t := 97) (v := (.int .i64 0)) (by kernel_rfl),
    zs_of (t := 99) (v := .nilFunc) (by kernel_rfl),
    zs_of (t := 100) (v := .nilFunc) (by kernel_rfl),
    zs_of (t := 101) (v := .nilFunc) (by kernel_rfl),
    zs_of (t := 102) (v := .nilFunc) (by kernel_rfl),
    zs_of (t := 104) (v := .nilFunc) (by kernel_rfl),
    zs_of (t := 105) (v := .nilFunc) (by kernel_rfl),
    zs_of (t := 106) (v := (.int .u32 0)) (by kernel_rfl),
    zs_of (t := 107) (v := .nilFunc) (by kernel_rfl),
    zs_of (t := 108) (v := (.int .u64 0)) (by kernel_rfl),
    zs_of (t := 109) (v := (.int .u64 0)) (by kernel_rfl),
    zs_of (t := 110) (v := .nilFunc) (by kernel_rfl),
    zs_of (t := 111) (v := .nilFunc) (by kernel_rfl),
    zs_of (t := 112) (v := .nilFunc) (by kernel_rfl),
    zs_of (t := 113) (v := (.pointer none)) (by kernel_rfl),
    zs_of (t := 114) (v := .nilFunc) (by kernel_rfl),
    zs_of (t := 115) (v := (.pointer none)) (by kernel_rfl),
    zs_of (t := 117) (v := .nilFunc) (by kernel_rfl),
    zs_of (t := 118) (v := .nilFunc) (by kernel_rfl),
    zs_of (t := 119) (v := (.agg #[(.pointer none), (.pointer none), (.pointer none), (.string ⟨#[]⟩)])) (by kernel_rfl),
    zs_of (t := 120) (v := (.agg #[(.pointer none), (.pointer none), (.pointer none), (.string ⟨#[]⟩)])) (by kernel_rfl),
    zs_of (t := 124) (v := .nilFunc) (by kernel_rfl),
    zs_of (t := 125) (v := (.int .u8 0)) (by kernel_rfl),
    zs_of (t := 126) (v := (.int .u8 0)) (by kernel_rfl),
    zs_of (t := 127) (v := .nilFunc) (by kernel_rfl),
    zs_of (t := 128) (v := (.pointer none)) (by kernel_rfl),
    zs_of (t := 129) (v := (.int .i32 0)) (by kernel_rfl),
    zs_of (t := 130) (v := (.int .i32 0)) (by kernel_rfl),
    zs_of (t := 131) (v := (.agg #[(.int .u64 0), (.int .u64 0), (.int .u32 0), (.int .u8 0), (.int .u8 0), (.int .u8 0), (.int .u8 0), .nilFunc, (.pointer none), (.int .i32 0), (.int .i32 0)])) (by kernel_rfl),
    zs_of (t := 132) (v := (.agg #[(.int .u64 0), (.int .u64 0), (.int .u32 0), (.int .u8 0), (.int .u8 0), (.int .u8 0), (.int .u8 0), .nilFunc, (.pointer none), (.int .i32 0), (.int .i32 0)])) (by kernel_rfl),
    zs_of (t := 133) (v := (.agg #[(.int .i64 0), (.int .i64 0), (.int .u8 0), (.int .i64 0)])) (by kernel_rfl),
    zs_of (t := 134) (v := (.agg #[(.int .i64 0), (.int .i64 0), (.int .u8 0), (.int .i64 0)])) (by kernel_rfl)⟩
theorem ty_fo7 : ∀ f off, ([0, 1, 2, 3] : List Nat)[f]? = some off → ∀ a w, (Instr.fieldAt 7 (.pointer (some a)) f).run Try.prog w = .ok (.pointer (some (a.add off))) w := by
  intro f off h a w
  rcases f with _ | _ | _ | _ | f <;> simp at h <;> subst h <;> go_simp
theorem ty_fo8 : ∀ f off, ([0, 1, 2, 3] : List Nat)[f]? = some off → ∀ a w, (Instr.fieldAt 8 (.pointer (some a)) f).run Try.prog w = .ok (.pointer (some (a.add off))) w := by
  intro f off h a w
  rcases f with _ | _ | _ | _ | f <;> simp at h <;> subst h <;> go_simp
theorem ty_fo13 : ∀ f off, ([0, 1] : List Nat)[f]? = some off → ∀ a w, (Instr.fieldAt 13 (.pointer (some a)) f).run Try.prog w = .ok (.pointer (some (a.add off))) w := by
  intro f off h a w
  rcases f with _ | _ | f <;> simp at h <;> subst h <;> go_simp
theorem ty_fo14 : ∀ f off, ([0, 1] : List Nat)[f]? = some off → ∀ a w, (Instr.fieldAt 14 (.pointer (some a)) f).run Try.prog w = .ok (.pointer (some (a.add off))) w := by
  intro f off h a w
  rcases f with _ | _ | f <;> simp at h <;> subst h <;> go_simp
theorem ty_fo18 : ∀ f off, ([0] : List Nat)[f]? = some off → ∀ a w, (Instr.fieldAt 18 (.pointer (some a)) f).run Try.prog w = .ok (.pointer (some (a.add off))) w := by
  intro f off h a w
  rcases f with _ | f <;> simp at h <;> subst h <;> go_simp
theorem ty_fo19 : ∀ f off, ([0] : List Nat)[f]? = some off → ∀ a w, (Instr.fieldAt 19 (.pointer (some a)) f).run Try.prog w = .ok (.pointer (some (a.add off))) w := by
  intro f off h a w
  rcases f with _ | f <;> simp at h <;> subst h <;> go_simp
theorem ty_fo42 : ∀ f off, ([0, 1, 2] : List Nat)[f]? = some off → ∀ a w, (Instr.fieldAt 42 (.pointer (some a)) f).run Try.prog w = .ok (.pointer (some (a.add off))) w := by
  intro f off h a w
  rcases f with _ | _ | _ | f <;> simp at h <;> subst h <;> go_simp
theorem ty_fo43 : ∀ f off, ([0, 1, 2] : List Nat)[f]? = some off → ∀ a w, (Instr.fieldAt 43 (.pointer (some a)) f).run Try.prog w = .ok (.pointer (some (a.add off))) w := by
  intro f off h a w
  rcases f with _ | _ | _ | f <;> simp at h <;> subst h <;> go_simp
theorem ty_fo45 : ∀ f off, ([0, 1] : List Nat)[f]? = some off → ∀ a w, (Instr.fieldAt 45 (.pointer (some a)) f).run Try.prog w = .ok (.pointer (some (a.add off))) w := by
  intro f off h a w
  rcases f with _ | _ | f <;> simp at h <;> subst h <;> go_simp
theorem ty_fo46 : ∀ f off, ([0, 1] : List Nat)[f]? = some off → ∀ a w, (Instr.fieldAt 46 (.pointer (some a)) f).run Try.prog w = .ok (.pointer (some (a.add off))) w := by
  intro f off h a w
  rcases f with _ | _ | f <;> simp at h <;> subst h <;> go_simp
theorem ty_fo64 : ∀ f off, ([0, 1, 2, 3] : List Nat)[f]? = some off → ∀ a w, (Instr.fieldAt 64 (.pointer (some a)) f).run Try.prog w = .ok (.pointer (some (a.add off))) w := by
  intro f off h a w
  rcases f with _ | _ | _ | _ | f <;> simp at h <;> subst h <;> go_simp
theorem ty_fo65 : ∀ f off, ([0, 1, 2, 3] : List Nat)[f]? = some off → ∀ a w, (Instr.fieldAt 65 (.pointer (some a)) f).run Try.prog w = .ok (.pointer (some (a.add off))) w := by
  intro f off h a w
  rcases f with _ | _ | _ | _ | f <;> simp at h <;> subst h <;> go_simp
theorem ty_fo76 : ∀ f off, ([0, 3] : List Nat)[f]? = some off → ∀ a w, (Instr.fieldAt 76 (.pointer (some a)) f).run Try.prog w = .ok (.pointer (some (a.add off))) w := by
  intro f off h a w
  rcases f with _ | _ | f <;> simp at h <;> subst h <;> go_simp
theorem ty_fo77 : ∀ f off, ([0, 3] : List Nat)[f]? = some off → ∀ a w, (Instr.fieldAt 77 (.pointer (some a)) f).run Try.prog w = .ok (.pointer (some (a.add off))) w := by
  intro f off h a w
  rcases f with _ | _ | f <;> simp at h <;> subst h <;> go_simp
theorem ty_fo119 : ∀ f off, ([0, 1, 2, 3] : List Nat)[f]? = some off → ∀ a w, (Instr.fieldAt 119 (.pointer (some a)) f).run Try.prog w = .ok (.pointer (some (a.add off))) w := by
  intro f off h a w
  rcases f with _ | _ | _ | _ | f <;> simp at h <;> subst h <;> go_simp
theorem ty_fo120 : ∀ f off, ([0, 1, 2, 3] : List Nat)[f]? = some off → ∀ a w, (Instr.fieldAt 120 (.pointer (some a)) f).run Try.prog w = .ok (.pointer (some (a.add off))) w := by
  intro f off h a w
  rcases f with _ | _ | _ | _ | f <;> simp at h <;> subst h <;> go_simp
theorem ty_fo131 : ∀ f off, ([0, 1, 2, 3, 4, 5, 6, 7, 8, 9, 10] : List Nat)[f]? = some off → ∀ a w, (Instr.fieldAt 131 (.pointer (some a)) f).run Try.prog w = .ok (.pointer (some (a.add off))) w := by
  intro f off h a w
  rcases f with _ | _ | _ | _ | _ | _ | _ | _ | _ | _ | _ | f <;> simp at h <;> subst h <;> go_simp
theorem ty_fo132 : ∀ f off, ([0, 1, 2, 3, 4, 5, 6, 7, 8, 9, 10] : List Nat)[f]? = some off → ∀ a w, (Instr.fieldAt 132 (.pointer (some a)) f).run Try.prog w = .ok (.pointer (some (a.add off))) w := by
  intro f off h a w
  rcases f with _ | _ | _ | _ | _ | _ | _ | _ | _ | _ | _ | f <;> simp at h <;> subst h <;> go_simp
theorem ty_fo133 : ∀ f off, ([0, 1, 2, 3] : List Nat)[f]? = some off → ∀ a w, (Instr.fieldAt 133 (.pointer (some a)) f).run Try.prog w = .ok (.pointer (some (a.add off))) w := by
  intro f off h a w
  rcases f with _ | _ | _ | _ | f <;> simp at h <;> subst h <;> go_simp
theorem ty_fo134 : ∀ f off, ([0, 1, 2, 3] : List Nat)[f]? = some off → ∀ a w, (Instr.fieldAt 134 (.pointer (some a)) f).run Try.prog w = .ok (.pointer (some (a.add off))) w := by
  intro f off h a w
  rcases f with _ | _ | _ | _ | f <;> simp at h <;> subst h <;> go_simp
set_option maxRecDepth 10000 in
theorem ty_hfo : ∀ p ∈ ty_fo, ∀ f off, p.2[f]? = some off → ∀ a w, (Instr.fieldAt p.1 (.pointer (some a)) f).run Try.prog w = .ok (.pointer (some (a.add off))) w := by
  unfold ty_fo
  simp only [List.mem_cons, List.not_mem_nil, or_false, forall_eq_or_imp, forall_eq]
  exact ⟨ty_fo7,
    ty_fo8,
    ty_fo13,
    ty_fo14,
    ty_fo18,
    ty_fo19,
    ty_fo42,
    ty_fo43,
    ty_fo45,
    ty_fo46,
    ty_fo64,
    ty_fo65,
    ty_fo76,
    ty_fo77,
    ty_fo119,
    ty_fo120,
    ty_fo131,
    ty_fo132,
    ty_fo133,
    ty_fo134⟩
set_option maxRecDepth 10000 in
theorem ty_hel : ∀ p ∈ ty_el, Try.prog.underlying p.1 = some (.slice p.2) := by
  unfold ty_el
  simp only [List.mem_cons, List.not_mem_nil, or_false, forall_eq_or_imp, forall_eq]
  exact ⟨Try.underlying22,
    Try.underlying23,
    Try.underlying26,
    Try.underlying40,
    Try.underlying41,
    Try.underlying55⟩
set_option maxRecDepth 10000 in
theorem ty_hik : ∀ p ∈ ty_ik, Try.prog.underlying p.1 = some (.int p.2) := by
  unfold ty_ik
  simp only [List.mem_cons, List.not_mem_nil, or_false, forall_eq_or_imp, forall_eq]
  exact ⟨Try.underlying2,
    Try.underlying3,
    Try.underlying5,
    Try.underlying6,
    Try.underlying12,
    Try.underlying21,
    Try.underlying27,
    Try.underlying95,
    Try.underlying97,
    Try.underlying106,
    Try.underlying108,
    Try.underlying109,
    Try.underlying125,
    Try.underlying126,
    Try.underlying129,
    Try.underlying130⟩
set_option maxRecDepth 10000 in
theorem ty_hmp : ∀ p ∈ ty_mp, Try.prog.underlying p.1 = some (.map p.2.1 p.2.2) := by
  unfold ty_mp
  simp only [List.mem_cons, List.not_mem_nil, or_false, forall_eq_or_imp, forall_eq]
  exact Try.underlying44
theorem ty_mixed : Try.prog.follows .mixedOrders = true := by kernel_rfl
def ty_inf : List (Nat × Value × Nat × Nat) := [(3, (.int .i64 0), 1, 8), (4, (.bool false), 1, 1), (26, (.slice none 0 0), 1, 24), (43, (.agg #[(.int .i64 0), (.int .u8 0), (.slice none 0 0)]), 3, 40), (65, (.agg #[(.int .i64 0), (.int .i64 0), (.int .i64 0), (.int .u8 0)]), 4, 32), (134, (.agg #[(.int .i64 0), (.int .i64 0), (.int .u8 0), (.int .i64 0)]), 4, 32)]
set_option maxRecDepth 10000 in
theorem ty_hinf : ∀ p ∈ ty_inf, (Try.prog.info? p.1).map (fun i => (i.zero, i.size, i.bytes)) = some (some p.2.1, p.2.2.1, p.2.2.2) := by
  unfold ty_inf
  simp only [List.mem_cons, List.not_mem_nil, or_false, forall_eq_or_imp, forall_eq]
  exact ⟨(by kernel_rfl),
    (by kernel_rfl),
    (by kernel_rfl),
    (by kernel_rfl),
    (by kernel_rfl),
    (by kernel_rfl)⟩
def T_ : Tys Try.prog := ⟨ty_mixed, ty_tk, ty_htk, ty_zs, ty_hzs, ty_fo, ty_hfo, ty_el, ty_hel, ty_ik, ty_hik, ty_mp, ty_hmp⟩
def TR_ : TysR Try.prog := { T_ with inf := ty_inf, hinf := ty_hinf }
theorem ty_bl7 : ∀ (parts : Array (Nat × Value)) (cs : Array Value) (w : World), Instr.fill (fun i => ([(0, 1), (1, 1), (2, 1), (3, 1)] : List (Nat × Nat))[i]?) #[(.int .i64 0), (.int .i64 0), (.bool false), (.int .u8 0)] parts.toList = some cs → (Instr.build 7 parts).run Try.prog w = .ok (.agg cs) w := by
  intro parts cs w h
  unfold Instr.build
  have hz : (zeroValue 7).run Try.prog w = .ok (.agg #[(.int .i64 0), (.int .i64 0), (.bool false), (.int .u8 0)]) w := ty_hzs (7, .agg #[(.int .i64 0), (.int .i64 0), (.bool false), (.int .u8 0)]) (look_mem (l := ty_zs) rfl) w
  have hu := run_underlying Try.underlying7 w
  simp only [Sem.run_bind, hz, hu, Result.andThen_ok, Value.cells]
  simp [Array.mapM_eq_foldlM]
  rw [h]
  rfl
theorem ty_bl8 : ∀ (parts : Array (Nat × Value)) (cs : Array Value) (w : World), Instr.fill (fun i => ([(0, 1), (1, 1), (2, 1), (3, 1)] : List (Nat × Nat))[i]?) #[(.int .i64 0), (.int .i64 0), (.bool false), (.int .u8 0)] parts.toList = some cs → (Instr.build 8 parts).run Try.prog w = .ok (.agg cs) w := by
  intro parts cs w h
  unfold Instr.build
  have hz : (zeroValue 8).run Try.prog w = .ok (.agg #[(.int .i64 0), (.int .i64 0), (.bool false), (.int .u8 0)]) w := ty_hzs (8, .agg #[(.int .i64 0), (.int .i64 0), (.bool false), (.int .u8 0)]) (look_mem (l := ty_zs) rfl) w
  have hu := run_underlying Try.underlying8 w
  simp only [Sem.run_bind, hz, hu, Result.andThen_ok, Value.cells]
  simp [Array.mapM_eq_foldlM]
  rw [h]
  rfl
theorem ty_bl13 : ∀ (parts : Array (Nat × Value)) (cs : Array Value) (w : World), Instr.fill (fun i => ([(0, 1), (1, 1)] : List (Nat × Nat))[i]?) #[(.string ⟨#[]⟩), (.int .u64 0)] parts.toList = some cs → (Instr.build 13 parts).run Try.prog w = .ok (.agg cs) w := by
  intro parts cs w h
  unfold Instr.build
  have hz : (zeroValue 13).run Try.prog w = .ok (.agg #[(.string ⟨#[]⟩), (.int .u64 0)]) w := ty_hzs (13, .agg #[(.string ⟨#[]⟩), (.int .u64 0)]) (look_mem (l := ty_zs) rfl) w
  have hu := run_underlying Try.underlying13 w
  simp only [Sem.run_bind, hz, hu, Result.andThen_ok, Value.cells]
  simp [Array.mapM_eq_foldlM]
  rw [h]
  rfl
theorem ty_bl14 : ∀ (parts : Array (Nat × Value)) (cs : Array Value) (w : World), Instr.fill (fun i => ([(0, 1), (1, 1)] : List (Nat × Nat))[i]?) #[(.string ⟨#[]⟩), (.int .u64 0)] parts.toList = some cs → (Instr.build 14 parts).run Try.prog w = .ok (.agg cs) w := by
  intro parts cs w h
  unfold Instr.build
  have hz : (zeroValue 14).run Try.prog w = .ok (.agg #[(.string ⟨#[]⟩), (.int .u64 0)]) w := ty_hzs (14, .agg #[(.string ⟨#[]⟩), (.int .u64 0)]) (look_mem (l := ty_zs) rfl) w
  have hu := run_underlying Try.underlying14 w
  simp only [Sem.run_bind, hz, hu, Result.andThen_ok, Value.cells]
  simp [Array.mapM_eq_foldlM]
  rw [h]
  rfl
theorem ty_bl18 : ∀ (parts : Array (Nat × Value)) (cs : Array Value) (w : World), Instr.fill (fun i => ([(0, 1)] : List (Nat × Nat))[i]?) #[(.pointer none)] parts.toList = some cs → (Instr.build 18 parts).run Try.prog w = .ok (.agg cs) w := by
  intro parts cs w h
  unfold Instr.build
  have hz : (zeroValue 18).run Try.prog w = .ok (.agg #[(.pointer none)]) w := ty_hzs (18, .agg #[(.pointer none)]) (look_mem (l := ty_zs) rfl) w
  have hu := run_underlying Try.underlying18 w
  simp only [Sem.run_bind, hz, hu, Result.andThen_ok, Value.cells]
  simp [Array.mapM_eq_foldlM]
  rw [h]
  rfl
theorem ty_bl19 : ∀ (parts : Array (Nat × Value)) (cs : Array Value) (w : World), Instr.fill (fun i => ([(0, 1)] : List (Nat × Nat))[i]?) #[(.pointer none)] parts.toList = some cs → (Instr.build 19 parts).run Try.prog w = .ok (.agg cs) w := by
  intro parts cs w h
  unfold Instr.build
  have hz : (zeroValue 19).run Try.prog w = .ok (.agg #[(.pointer none)]) w := ty_hzs (19, .agg #[(.pointer none)]) (look_mem (l := ty_zs) rfl) w
  have hu := run_underlying Try.underlying19 w
  simp only [Sem.run_bind, hz, hu, Result.andThen_ok, Value.cells]
  simp [Array.mapM_eq_foldlM]
  rw [h]
  rfl
theorem ty_bl42 : ∀ (parts : Array (Nat × Value)) (cs : Array Value) (w : World), Instr.fill (fun i => ([(0, 1), (1, 1), (2, 1)] : List (Nat × Nat))[i]?) #[(.int .i64 0), (.int .u8 0), (.slice none 0 0)] parts.toList = some cs → (Instr.build 42 parts).run Try.prog w = .ok (.agg cs) w := by
  intro parts cs w h
  unfold Instr.build
  have hz : (zeroValue 42).run Try.prog w = .ok (.agg #[(.int .i64 0), (.int .u8 0), (.slice none 0 0)]) w := ty_hzs (42, .agg #[(.int .i64 0), (.int .u8 0), (.slice none 0 0)]) (look_mem (l := ty_zs) rfl) w
  have hu := run_underlying Try.underlying42 w
  simp only [Sem.run_bind, hz, hu, Result.andThen_ok, Value.cells]
  simp [Array.mapM_eq_foldlM]
  rw [h]
  rfl
theorem ty_bl43 : ∀ (parts : Array (Nat × Value)) (cs : Array Value) (w : World), Instr.fill (fun i => ([(0, 1), (1, 1), (2, 1)] : List (Nat × Nat))[i]?) #[(.int .i64 0), (.int .u8 0), (.slice none 0 0)] parts.toList = some cs → (Instr.build 43 parts).run Try.prog w = .ok (.agg cs) w := by
  intro parts cs w h
  unfold Instr.build
  have hz : (zeroValue 43).run Try.prog w = .ok (.agg #[(.int .i64 0), (.int .u8 0), (.slice none 0 0)]) w := ty_hzs (43, .agg #[(.int .i64 0), (.int .u8 0), (.slice none 0 0)]) (look_mem (l := ty_zs) rfl) w
  have hu := run_underlying Try.underlying43 w
  simp only [Sem.run_bind, hz, hu, Result.andThen_ok, Value.cells]
  simp [Array.mapM_eq_foldlM]
  rw [h]
  rfl
theorem ty_bl45 : ∀ (parts : Array (Nat × Value)) (cs : Array Value) (w : World), Instr.fill (fun i => ([(0, 1), (1, 1)] : List (Nat × Nat))[i]?) #[(.slice none 0 0), (.map none)] parts.toList = some cs → (Instr.build 45 parts).run Try.prog w = .ok (.agg cs) w := by
  intro parts cs w h
  unfold Instr.build
  have hz : (zeroValue 45).run Try.prog w = .ok (.agg #[(.slice none 0 0), (.map none)]) w := ty_hzs (45, .agg #[(.slice none 0 0), (.map none)]) (look_mem (l := ty_zs) rfl) w
  have hu := run_underlying Try.underlying45 w
  simp only [Sem.run_bind, hz, hu, Result.andThen_ok, Value.cells]
  simp [Array.mapM_eq_foldlM]
  rw [h]
  rfl
theorem ty_bl46 : ∀ (parts : Array (Nat × Value)) (cs : Array Value) (w : World), Instr.fill (fun i => ([(0, 1), (1, 1)] : List (Nat × Nat))[i]?) #[(.slice none 0 0), (.map none)] parts.toList = some cs → (Instr.build 46 parts).run Try.prog w = .ok (.agg cs) w := by
  intro parts cs w h
  unfold Instr.build
  have hz : (zeroValue 46).run Try.prog w = .ok (.agg #[(.slice none 0 0), (.map none)]) w := ty_hzs (46, .agg #[(.slice none 0 0), (.map none)]) (look_mem (l := ty_zs) rfl) w
  have hu := run_underlying Try.underlying46 w
  simp only [Sem.run_bind, hz, hu, Result.andThen_ok, Value.cells]
  simp [Array.mapM_eq_foldlM]
  rw [h]
  rfl
theorem ty_bl64 : ∀ (parts : Array (Nat × Value)) (cs : Array Value) (w : World), Instr.fill (fun i => ([(0, 1), (1, 1), (2, 1), (3, 1)] : List (Nat × Nat))[i]?) #[(.int .i64 0), (.int .i64 0), (.int .i64 0), (.int .u8 0)] parts.toList = some cs → (Instr.build 64 parts).run Try.prog w = .ok (.agg cs) w := by
  intro parts cs w h
  unfold Instr.build
  have hz : (zeroValue 64).run Try.prog w = .ok (.agg #[(.int .i64 0), (.int .i64 0), (.int .i64 0), (.int .u8 0)]) w := ty_hzs (64, .agg #[(.int .i64 0), (.int .i64 0), (.int .i64 0), (.int .u8 0)]) (look_mem (l := ty_zs) rfl) w
  have hu := run_underlying Try.underlying64 w
  simp only [Sem.run_bind, hz, hu, Result.andThen_ok, Value.cells]
  simp [Array.mapM_eq_foldlM]
  rw [h]
  rfl
theorem ty_bl65 : ∀ (parts : Array (Nat × Value)) (cs : Array Value) (w : World), Instr.fill (fun i => ([(0, 1), (1, 1), (2, 1), (3, 1)] : List (Nat × Nat))[i]?) #[(.int .i64 0), (.int .i64 0), (.int .i64 0), (.int .u8 0)] parts.toList = some cs → (Instr.build 65 parts).run Try.prog w = .ok (.agg cs) w := by
  intro parts cs w h
  unfold Instr.build
  have hz : (zeroValue 65).run Try.prog w = .ok (.agg #[(.int .i64 0), (.int .i64 0), (.int .i64 0), (.int .u8 0)]) w := ty_hzs (65, .agg #[(.int .i64 0), (.int .i64 0), (.int .i64 0), (.int .u8 0)]) (look_mem (l := ty_zs) rfl) w
  have hu := run_underlying Try.underlying65 w
  simp only [Sem.run_bind, hz, hu, Result.andThen_ok, Value.cells]
  simp [Array.mapM_eq_foldlM]
  rw [h]
  rfl
theorem ty_bl76 : ∀ (parts : Array (Nat × Value)) (cs : Array Value) (w : World), Instr.fill (fun i => ([(0, 3), (3, 1)] : List (Nat × Nat))[i]?) #[(.int .i64 0), (.int .u8 0), (.slice none 0 0), (.map none)] parts.toList = some cs → (Instr.build 76 parts).run Try.prog w = .ok (.agg cs) w := by
  intro parts cs w h
  unfold Instr.build
  have hz : (zeroValue 76).run Try.prog w = .ok (.agg #[(.int .i64 0), (.int .u8 0), (.slice none 0 0), (.map none)]) w := ty_hzs (76, .agg #[(.int .i64 0), (.int .u8 0), (.slice none 0 0), (.map none)]) (look_mem (l := ty_zs) rfl) w
  have hu := run_underlying Try.underlying76 w
  simp only [Sem.run_bind, hz, hu, Result.andThen_ok, Value.cells]
  simp [Array.mapM_eq_foldlM]
  rw [h]
  rfl
theorem ty_bl77 : ∀ (parts : Array (Nat × Value)) (cs : Array Value) (w : World), Instr.fill (fun i => ([(0, 3), (3, 1)] : List (Nat × Nat))[i]?) #[(.int .i64 0), (.int .u8 0), (.slice none 0 0), (.map none)] parts.toList = some cs → (Instr.build 77 parts).run Try.prog w = .ok (.agg cs) w := by
  intro parts cs w h
  unfold Instr.build
  have hz : (zeroValue 77).run Try.prog w = .ok (.agg #[(.int .i64 0), (.int .u8 0), (.slice none 0 0), (.map none)]) w := ty_hzs (77, .agg #[(.int .i64 0), (.int .u8 0), (.slice none 0 0), (.map none)]) (look_mem (l := ty_zs) rfl) w
  have hu := run_underlying Try.underlying77 w
  simp only [Sem.run_bind, hz, hu, Result.andThen_ok, Value.cells]
  simp [Array.mapM_eq_foldlM]
  rw [h]
  rfl
theorem ty_bl119 : ∀ (parts : Array (Nat × Value)) (cs : Array Value) (w : World), Instr.fill (fun i => ([(0, 1), (1, 1), (2, 1), (3, 1)] : List (Nat × Nat))[i]?) #[(.pointer none), (.pointer none), (.pointer none), (.string ⟨#[]⟩)] parts.toList = some cs → (Instr.build 119 parts).run Try.prog w = .ok (.agg cs) w := by
  intro parts cs w h
  unfold Instr.build
  have hz : (zeroValue 119).run Try.prog w = .ok (.agg #[(.pointer none), (.pointer none), (.pointer none), (.string ⟨#[]⟩)]) w := ty_hzs (119, .agg #[(.pointer none), (.pointer none), (.pointer none), (.string ⟨#[]⟩)]) (look_mem (l := ty_zs) rfl) w
  have hu := run_underlying Try.underlying119 w
  simp only [Sem.run_bind, hz, hu, Result.andThen_ok, Value.cells]
  simp [Array.mapM_eq_foldlM]
  rw [h]
  rfl
theorem ty_bl120 : ∀ (parts : Array (Nat × Value)) (cs : Array Value) (w : World), Instr.fill (fun i => ([(0, 1), (1, 1), (2, 1), (3, 1)] : List (Nat × Nat))[i]?) #[(.pointer none), (.pointer none), (.pointer none), (.string ⟨#[]⟩)] parts.toList = some cs → (Instr.build 120 parts).run Try.prog w = .ok (.agg cs) w := by
  intro parts cs w h
  unfold Instr.build
  have hz : (zeroValue 120).run Try.prog w = .ok (.agg #[(.pointer none), (.pointer none), (.pointer none), (.string ⟨#[]⟩)]) w := ty_hzs (120, .agg #[(.pointer none), (.pointer none), (.pointer none), (.string ⟨#[]⟩)]) (look_mem (l := ty_zs) rfl) w
  have hu := run_underlying Try.underlying120 w
  simp only [Sem.run_bind, hz, hu, Result.andThen_ok, Value.cells]
  simp [Array.mapM_eq_foldlM]
  rw [h]
  rfl
theorem ty_bl131 : ∀ (parts : Array (Nat × Value)) (cs : Array Value) (w : World), Instr.fill (fun i => ([(0, 1), (1, 1), (2, 1), (3, 1), (4, 1), (5, 1), (6, 1), (7, 1), (8, 1), (9, 1), (10, 1)] : List (Nat × Nat))[i]?) #[(.int .u64 0), (.int .u64 0), (.int .u32 0), (.int .u8 0), (.int .u8 0), (.int .u8 0), (.int .u8 0), .nilFunc, (.pointer none), (.int .i32 0), (.int .i32 0)] parts.toList = some cs → (Instr.build 131 parts).run Try.prog w = .ok (.agg cs) w := by
  intro parts cs w h
  unfold Instr.build
  have hz : (zeroValue 131).run Try.prog w = .ok (.agg #[(.int .u64 0), (.int .u64 0), (.int .u32 0), (.int .u8 0), (.int .u8 0), (.int .u8 0), (.int .u8 0), .nilFunc, (.pointer none), (.int .i32 0), (.int .i32 0)]) w := ty_hzs (131, .agg #[(.int .u64 0), (.int .u64 0), (.int .u32 0), (.int .u8 0), (.int .u8 0), (.int .u8 0), (.int .u8 0), .nilFunc, (.pointer none), (.int .i32 0), (.int .i32 0)]) (look_mem (l := ty_zs) rfl) w
  have hu := run_underlying Try.underlying131 w
  simp only [Sem.run_bind, hz, hu, Result.andThen_ok, Value.cells]
  simp [Array.mapM_eq_foldlM]
  rw [h]
  rfl
theorem ty_bl132 : ∀ (parts : Array (Nat × Value)) (cs : Array Value) (w : World), Instr.fill (fun i => ([(0, 1), (1, 1), (2, 1), (3, 1), (4, 1), (5, 1), (6, 1), (7, 1), (8, 1), (9, 1), (10, 1)] : List (Nat × Nat))[i]?) #[(.int .u64 0), (.int .u64 0), (.int .u32 0), (.int .u8 0), (.int .u8 0), (.int .u8 0), (.int .u8 0), .nilFunc, (.pointer none), (.int .i32 0), (.int .i32 0)] parts.toList = some cs → (Instr.build 132 parts).run Try.prog w = .ok (.agg cs) w := by
  intro parts cs w h
  unfold Instr.build
  have hz : (zeroValue 132).run Try.prog w = .ok (.agg #[(.int .u64 0), (.int .u64 0), (.int .u32 0), (.int .u8 0), (.int .u8 0), (.int .u8 0), (.int .u8 0), .nilFunc, (.pointer none), (.int .i32 0), (.int .i32 0)]) w := ty_hzs (132, .agg #[(.int .u64 0), (.int .u64 0), (.int .u32 0), (.int .u8 0), (.int .u8 0), (.int .u8 0), (.int .u8 0), .nilFunc, (.pointer none), (.int .i32 0), (.int .i32 0)]) (look_mem (l := ty_zs) rfl) w
  have hu := run_underlying Try.underlying132 w
  simp only [Sem.run_bind, hz, hu, Result.andThen_ok, Value.cells]
  simp [Array.mapM_eq_foldlM]
  rw [h]
  rfl
theorem ty_bl133 : ∀ (parts : Array (Nat × Value)) (cs : Array Value) (w : World), Instr.fill (fun i => ([(0, 1), (1, 1), (2, 1), (3, 1)] : List (Nat × Nat))[i]?) #[(.int .i64 0), (.int .i64 0), (.int .u8 0), (.int .i64 0)] parts.toList = some cs → (Instr.build 133 parts).run Try.prog w = .ok (.agg cs) w := by
  intro parts cs w h
  unfold Instr.build
  have hz : (zeroValue 133).run Try.prog w = .ok (.agg #[(.int .i64 0), (.int .i64 0), (.int .u8 0), (.int .i64 0)]) w := ty_hzs (133, .agg #[(.int .i64 0), (.int .i64 0), (.int .u8 0), (.int .i64 0)]) (look_mem (l := ty_zs) rfl) w
  have hu := run_underlying Try.underlying133 w
  simp only [Sem.run_bind, hz, hu, Result.andThen_ok, Value.cells]
  simp [Array.mapM_eq_foldlM]
  rw [h]
  rfl
theorem ty_bl134 : ∀ (parts : Array (Nat × Value)) (cs : Array Value) (w : World), Instr.fill (fun i => ([(0, 1), (1, 1), (2, 1), (3, 1)] : List (Nat × Nat))[i]?) #[(.int .i64 0), (.int .i64 0), (.int .u8 0), (.int .i64 0)] parts.toList = some cs → (Instr.build 134 parts).run Try.prog w = .ok (.agg cs) w := by
  intro parts cs w h
  unfold Instr.build
  have hz : (zeroValue 134).run Try.prog w = .ok (.agg #[(.int .i64 0), (.int .i64 0), (.int .u8 0), (.int .i64 0)]) w := ty_hzs (134, .agg #[(.int .i64 0), (.int .i64 0), (.int .u8 0), (.int .i64 0)]) (look_mem (l := ty_zs) rfl) w
  have hu := run_underlying Try.underlying134 w
  simp only [Sem.run_bind, hz, hu, Result.andThen_ok, Value.cells]
  simp [Array.mapM_eq_foldlM]
  rw [h]
  rfl
def ty_bl : List (Nat × List (Nat × Nat) × Array Value) := [(7, [(0, 1), (1, 1), (2, 1), (3, 1)], #[(.int .i64 0), (.int .i64 0), (.bool false), (.int .u8 0)]), (8, [(0, 1), (1, 1), (2, 1), (3, 1)], #[(.int .i64 0), (.int .i64 0), (.bool false), (.int .u8 0)]), (13, [(0, 1), (1, 1)], #[(.string ⟨#[]⟩), (.int .u64 0)]), (14, [(0, 1), (1, 1)], #[(.string ⟨#[]⟩), (.int .u64 0)]), (18, [(0, 1)], #[(.pointer none)]), (19, [(0, 1)], #[(.pointer none)]), (42, [(0, 1), (1, 1), (2, 1)], #[(.int .i64 0), (.int .u8 0), (.slice none 0 0)]), (43, [(0, 1), (1, 1), (2, 1)], #[(.int .i64 0), (.int .u8 0), (.slice none 0 0)]), (45, [(0, 1), (1, 1)], #[(.slice none 0 0), (.map none)]), (46, [(0, 1), (1, 1)], #[(.slice none 0 0), (.map none)]), (64, [(0, 1), (1, 1), (2, 1), (3, 1)], #[(.int .i64 0), (.int .i64 0), (.int .i64 0), (.int .u8 0)]), (65, [(0, 1), (1, 1), (2, 1), (3, 1)], #[(.int .i64 0), (.int .i64 0), (.int .i64 0), (.int .u8 0)]), (76, [(0, 3), (3, 1)], #[(.int .i64 0), (.int .u8 0), (.slice none 0 0), (.map none)]), (77, [(0, 3), (3, 1)], #[(.int .i64 0), (.int .u8 0), (.slice none 0 0), (.map none)]), (119, [(0, 1), (1, 1), (2, 1), (3, 1)], #[(.pointer none), (.pointer none), (.pointer none), (.string ⟨#[]⟩)]), (120, [(0, 1), (1, 1), (2, 1), (3, 1)], #[(.pointer none), (.pointer none), (.pointer none), (.string ⟨#[]⟩)]), (131, [(0, 1), (1, 1), (2, 1), (3, 1), (4, 1), (5, 1), (6, 1), (7, 1), (8, 1), (9, 1), (10, 1)], #[(.int .u64 0), (.int .u64 0), (.int .u32 0), (.int .u8 0), (.int .u8 0), (.int .u8 0), (.int .u8 0), .nilFunc, (.pointer none), (.int .i32 0), (.int .i32 0)]), (132, [(0, 1), (1, 1), (2, 1), (3, 1), (4, 1), (5, 1), (6, 1), (7, 1), (8, 1), (9, 1), (10, 1)], #[(.int .u64 0), (.int .u64 0), (.int .u32 0), (.int .u8 0), (.int .u8 0), (.int .u8 0), (.int .u8 0), .nilFunc, (.pointer none), (.int .i32 0), (.int .i32 0)]), (133, [(0, 1), (1, 1), (2, 1), (3, 1)], #[(.int .i64 0), (.int .i64 0), (.int .u8 0), (.int .i64 0)]), (134, [(0, 1), (1, 1), (2, 1), (3, 1)], #[(.int .i64 0), (.int .i64 0), (.int .u8 0), (.int .i64 0)])]
set_option maxRecDepth 10000 in
theorem ty_hbl : ∀ p ∈ ty_bl, ∀ (parts : Array (Nat × Value)) (cs : Array Value) (w : World), Instr.fill (fun i => p.2.1[i]?) p.2.2 parts.toList = some cs → (Instr.build p.1 parts).run Try.prog w = .ok (.agg cs) w := by
  unfold ty_bl
  simp only [List.mem_cons, List.not_mem_nil, or_false, forall_eq_or_imp, forall_eq]
  exact ⟨ty_bl7,
    ty_bl8,
    ty_bl13,
    ty_bl14,
    ty_bl18,
    ty_bl19,
    ty_bl42,
    ty_bl43,
    ty_bl45,
    ty_bl46,
    ty_bl64,
    ty_bl65,
    ty_bl76,
    ty_bl77,
    ty_bl119,
    ty_bl120,
    ty_bl131,
    ty_bl132,
    ty_bl133,
    ty_bl134⟩
def TB_ : TysB Try.prog := { TR_ with bl := ty_bl, hbl := ty_hbl }
end Go.Proofs.Ytcmepdamemnbkaa
namespace Go.Proofs.Ytcmepdamemnbkaa
open Go.RowKit Go.Proofs.YtcmepdamemnbkaaW.PrintWords
set_option linter.unusedVariables false
set_option linter.unusedSimpArgs false
def rd_L2 (xs : List (List Int)) (i : Int) : (List Int) := xs.getD i.toNat ([] : List Int)
theorem at_L2 {w : World} {A : Option Addr} {n : Nat} {xs : List (List Int)} (h : Kd.C (Kd.slice 3 (Kd.int .i64)) w A n xs) (i : Int) (h0 : 0 ≤ i) (h1 : i < n) : ∃ ad A0 c0, A = some ad ∧ w.cell? (ad.add i.toNat) = some (.slice A0 (rd_L2 xs i).length c0) ∧ (rd_L2 xs i).length ≤ c0 ∧ (Kd.int .i64).C w A0 (rd_L2 xs i).length (rd_L2 xs i) := by
  obtain ⟨ad, c, e, _, hK, hc0⟩ := Kd.C_get h ([] : List Int) i h0 h1
  have hc : ∀ j u, c[j]? = some u → w.cell? (ad.add (i.toNat * 1 + j)) = some u := hc0
  obtain ⟨A0, c0, rfl, l0, g0⟩ := hK
  exact ⟨ad, A0, c0, e, by have hq := hc 0 _ rfl; rwa [Nat.mul_one, Nat.add_zero] at hq, l0, g0⟩

def rd_L3 (xs : List (List (List Int))) (i : Int) : (List (List Int)) := xs.getD i.toNat ([] : List (List Int))
theorem at_L3 {w : World} {A : Option Addr} {n : Nat} {xs : List (List (List Int))} (h : Kd.C (Kd.slice 26 (Kd.slice 3 (Kd.int .i64))) w A n xs) (i : Int) (h0 : 0 ≤ i) (h1 : i < n) : ∃ ad A0 c0, A = some ad ∧ w.cell? (ad.add i.toNat) = some (.slice A0 (rd_L3 xs i).length c0) ∧ (rd_L3 xs i).length ≤ c0 ∧ (Kd.slice 3 (Kd.int .i64)).C w A0 (rd_L3 xs i).length (rd_L3 xs i) := by
  obtain ⟨ad, c, e, _, hK, hc0⟩ := Kd.C_get h ([] : List (List Int)) i h0 h1
  have hc : ∀ j u, c[j]? = some u → w.cell? (ad.add (i.toNat * 1 + j)) = some u := hc0
  obtain ⟨A0, c0, rfl, l0, g0⟩ := hK
  exact ⟨ad, A0, c0, e, by have hq := hc 0 _ rfl; rwa [Nat.mul_one, Nat.add_zero] at hq, l0, g0⟩

/-! #### struct type 43 -/
structure S43 where
  f0 : Int
  f1 : Int
  f2 : (List (List Int))
def z43 : S43 := ⟨(0 : Int), (0 : Int), ([] : List (List Int))⟩
def k43 : Kd S43 := Kd.iso (Kd.pair (Kd.int .i64) (Kd.pair (Kd.int .u8) (Kd.slice 26 (Kd.slice 3 (Kd.int .i64))))) (fun x : S43 => (x.f0, x.f1, x.f2))
theorem k43_open {w : World} {x : S43} {cs : List Value} (h : k43.K w x cs) : ∃ A2 c2, cs = [.int .i64 x.f0, .int .u8 x.f1, .slice A2 x.f2.length c2] ∧ x.f2.length ≤ c2 ∧ (Kd.slice 3 (Kd.int .i64)).C w A2 x.f2.length x.f2 := by
  obtain ⟨_, _, rfl, rfl, ⟨_, _, rfl, rfl, ⟨A2, c2, rfl, l2, g2⟩⟩⟩ := h
  exact ⟨A2, c2, rfl, l2, g2⟩
theorem k43_openM {w : World} {base : Nat} {ok : Nat → Prop} {x : S43} {cs : List Value} (h : k43.M w base ok x cs) : ∃ v2, cs = [.int .i64 x.f0, .int .u8 x.f1, v2] ∧ (Kd.slice 3 (Kd.int .i64)).R 26 w base ok v2 x.f2 := by
  obtain ⟨_, _, rfl, rfl, ⟨_, _, rfl, rfl, ⟨v2, rfl, g2⟩⟩⟩ := h
  exact ⟨v2, rfl, g2⟩
theorem k43_mk (w : World) (x : S43) {A2 : Option Addr} {c2 : Nat} (l2 : x.f2.length ≤ c2) (g2 : (Kd.slice 3 (Kd.int .i64)).C w A2 x.f2.length x.f2) : k43.K w x [.int .i64 x.f0, .int .u8 x.f1, .slice A2 x.f2.length c2] := ⟨[.int .i64 x.f0], [.int .u8 x.f1, .slice A2 x.f2.length c2], rfl, rfl, ⟨[.int .u8 x.f1], [.slice A2 x.f2.length c2], rfl, rfl, ⟨A2, c2, rfl, l2, g2⟩⟩⟩
theorem k43_mkM (w : World) (base : Nat) (ok : Nat → Prop) (x : S43) {v2 : Value} (g2 : (Kd.slice 3 (Kd.int .i64)).R 26 w base ok v2 x.f2) : k43.M w base ok x [.int .i64 x.f0, .int .u8 x.f1, v2] := ⟨[.int .i64 x.f0], [.int .u8 x.f1, v2], rfl, rfl, ⟨[.int .u8 x.f1], [v2], rfl, rfl, ⟨v2, rfl, g2⟩⟩⟩
def rd_T43 (xs : List S43) (i : Int) : S43 := xs.getD i.toNat z43
theorem at_T43 {w : World} {A : Option Addr} {n : Nat} {xs : List S43} (h : Kd.C k43 w A n xs) (i : Int) (h0 : 0 ≤ i) (h1 : i < n) : ∃ ad A2 c2, A = some ad ∧ w.cell? (ad.add (i.toNat * 3)) = some (.int .i64 (rd_T43 xs i).f0) ∧ w.cell? ⟨(ad.add (i.toNat * 3)).block, (ad.add (i.toNat * 3)).off + 1, none⟩ = some (.int .u8 (rd_T43 xs i).f1) ∧ w.cell? ⟨(ad.add (i.toNat * 3)).block, (ad.add (i.toNat * 3)).off + 2, none⟩ = some (.slice A2 (rd_T43 xs i).f2.length c2) ∧ (rd_T43 xs i).f2.length ≤ c2 ∧ (Kd.slice 3 (Kd.int .i64)).C w A2 (rd_T43 xs i).f2.length (rd_T43 xs i).f2 := by
  obtain ⟨ad, c, e, _, hK, hc0⟩ := Kd.C_get h z43 i h0 h1
  have hc : ∀ j u, c[j]? = some u → w.cell? (ad.add (i.toNat * 3 + j)) = some u := hc0
  obtain ⟨A2, c2, rfl, l2, g2⟩ := k43_open hK
  exact ⟨ad, A2, c2, e, hc 0 _ rfl, by rw [← add_field _ _ 1 (by omega)]; exact hc 1 _ rfl, by rw [← add_field _ _ 2 (by omega)]; exact hc 2 _ rfl, l2, g2⟩

def rd_L5 (xs : List (List S43)) (i : Int) : (List S43) := xs.getD i.toNat ([] : List S43)
theorem at_L5 {w : World} {A : Option Addr} {n : Nat} {xs : List (List S43)} (h : Kd.C (Kd.slice 43 k43) w A n xs) (i : Int) (h0 : 0 ≤ i) (h1 : i < n) : ∃ ad A0 c0, A = some ad ∧ w.cell? (ad.add i.toNat) = some (.slice A0 (rd_L5 xs i).length c0) ∧ (rd_L5 xs i).length ≤ c0 ∧ k43.C w A0 (rd_L5 xs i).length (rd_L5 xs i) := by
  obtain ⟨ad, c, e, _, hK, hc0⟩ := Kd.C_get h ([] : List S43) i h0 h1
  have hc : ∀ j u, c[j]? = some u → w.cell? (ad.add (i.toNat * 1 + j)) = some u := hc0
  obtain ⟨A0, c0, rfl, l0, g0⟩ := hK
  exact ⟨ad, A0, c0, e, by have hq := hc 0 _ rfl; rwa [Nat.mul_one, Nat.add_zero] at hq, l0, g0⟩

/-! #### struct type 65 -/
structure S65 where
  f0 : Int
  f1 : Int
  f2 : Int
  f3 : Int
def z65 : S65 := ⟨(0 : Int), (0 : Int), (0 : Int), (0 : Int)⟩
def k65 : Kd S65 := Kd.iso (Kd.pair (Kd.int .i64) (Kd.pair (Kd.int .i64) (Kd.pair (Kd.int .i64) (Kd.int .u8)))) (fun x : S65 => (x.f0, x.f1, x.f2, x.f3))
theorem k65_open {w : World} {x : S65} {cs : List Value} (h : k65.K w x cs) : cs = [.int .i64 x.f0, .int .i64 x.f1, .int .i64 x.f2, .int .u8 x.f3] := by
  obtain ⟨_, _, rfl, rfl, ⟨_, _, rfl, rfl, ⟨_, _, rfl, rfl, rfl⟩⟩⟩ := h
  exact rfl
theorem k65_openM {w : World} {base : Nat} {ok : Nat → Prop} {x : S65} {cs : List Value} (h : k65.M w base ok x cs) : cs = [.int .i64 x.f0, .int .i64 x.f1, .int .i64 x.f2, .int .u8 x.f3] := by
  obtain ⟨_, _, rfl, rfl, ⟨_, _, rfl, rfl, ⟨_, _, rfl, rfl, rfl⟩⟩⟩ := h
  exact rfl
theorem k65_mk (w : World) (x : S65)  : k65.K w x [.int .i64 x.f0, .int .i64 x.f1, .int .i64 x.f2, .int .u8 x.f3] := ⟨[.int .i64 x.f0], [.int .i64 x.f1, .int .i64 x.f2, .int .u8 x.f3], rfl, rfl, ⟨[.int .i64 x.f1], [.int .i64 x.f2, .int .u8 x.f3], rfl, rfl, ⟨[.int .i64 x.f2], [.int .u8 x.f3], rfl, rfl, rfl⟩⟩⟩
theorem k65_mkM (w : World) (base : Nat) (ok : Nat → Prop) (x : S65)  : k65.M w base ok x [.int .i64 x.f0, .int .i64 x.f1, .int .i64 x.f2, .int .u8 x.f3] := ⟨[.int .i64 x.f0], [.int .i64 x.f1, .int .i64 x.f2, .int .u8 x.f3], rfl, rfl, ⟨[.int .i64 x.f1], [.int .i64 x.f2, .int .u8 x.f3], rfl, rfl, ⟨[.int .i64 x.f2], [.int .u8 x.f3], rfl, rfl, rfl⟩⟩⟩
def rd_T65 (xs : List S65) (i : Int) : S65 := xs.getD i.toNat z65
theorem at_T65 {w : World} {A : Option Addr} {n : Nat} {xs : List S65} (h : Kd.C k65 w A n xs) (i : Int) (h0 : 0 ≤ i) (h1 : i < n) : ∃ ad , A = some ad ∧ w.cell? (ad.add (i.toNat * 4)) = some (.int .i64 (rd_T65 xs i).f0) ∧ w.cell? ⟨(ad.add (i.toNat * 4)).block, (ad.add (i.toNat * 4)).off + 1, none⟩ = some (.int .i64 (rd_T65 xs i).f1) ∧ w.cell? ⟨(ad.add (i.toNat * 4)).block, (ad.add (i.toNat * 4)).off + 2, none⟩ = some (.int .i64 (rd_T65 xs i).f2) ∧ w.cell? ⟨(ad.add (i.toNat * 4)).block, (ad.add (i.toNat * 4)).off + 3, none⟩ = some (.int .u8 (rd_T65 xs i).f3) := by
  obtain ⟨ad, c, e, _, hK, hc0⟩ := Kd.C_get h z65 i h0 h1
  have hc : ∀ j u, c[j]? = some u → w.cell? (ad.add (i.toNat * 4 + j)) = some u := hc0
  obtain rfl := k65_open hK
  exact ⟨ad, e, hc 0 _ rfl, by rw [← add_field _ _ 1 (by omega)]; exact hc 1 _ rfl, by rw [← add_field _ _ 2 (by omega)]; exact hc 2 _ rfl, by rw [← add_field _ _ 3 (by omega)]; exact hc 3 _ rfl⟩

def rd_L7 (xs : List (List S65)) (i : Int) : (List S65) := xs.getD i.toNat ([] : List S65)
theorem at_L7 {w : World} {A : Option Addr} {n : Nat} {xs : List (List S65)} (h : Kd.C (Kd.slice 65 k65) w A n xs) (i : Int) (h0 : 0 ≤ i) (h1 : i < n) : ∃ ad A0 c0, A = some ad ∧ w.cell? (ad.add i.toNat) = some (.slice A0 (rd_L7 xs i).length c0) ∧ (rd_L7 xs i).length ≤ c0 ∧ k65.C w A0 (rd_L7 xs i).length (rd_L7 xs i) := by
  obtain ⟨ad, c, e, _, hK, hc0⟩ := Kd.C_get h ([] : List S65) i h0 h1
  have hc : ∀ j u, c[j]? = some u → w.cell? (ad.add (i.toNat * 1 + j)) = some u := hc0
  obtain ⟨A0, c0, rfl, l0, g0⟩ := hK
  exact ⟨ad, A0, c0, e, by have hq := hc 0 _ rfl; rwa [Nat.mul_one, Nat.add_zero] at hq, l0, g0⟩

/-! #### struct type 134 -/
structure S134 where
  f0 : Int
  f1 : Int
  f2 : Int
  f3 : Int
def z134 : S134 := ⟨(0 : Int), (0 : Int), (0 : Int), (0 : Int)⟩
def k134 : Kd S134 := Kd.iso (Kd.pair (Kd.int .i64) (Kd.pair (Kd.int .i64) (Kd.pair (Kd.int .u8) (Kd.int .i64)))) (fun x : S134 => (x.f0, x.f1, x.f2, x.f3))
theorem k134_open {w : World} {x : S134} {cs : List Value} (h : k134.K w x cs) : cs = [.int .i64 x.f0, .int .i64 x.f1, .int .u8 x.f2, .int .i64 x.f3] := by
  obtain ⟨_, _, rfl, rfl, ⟨_, _, rfl, rfl, ⟨_, _, rfl, rfl, rfl⟩⟩⟩ := h
  exact rfl
theorem k134_openM {w : World} {base : Nat} {ok : Nat → Prop} {x : S134} {cs : List Value} (h : k134.M w base ok x cs) : cs = [.int .i64 x.f0, .int .i64 x.f1, .int .u8 x.f2, .int .i64 x.f3] := by
  obtain ⟨_, _, rfl, rfl, ⟨_, _, rfl, rfl, ⟨_, _, rfl, rfl, rfl⟩⟩⟩ := h
  exact rfl
theorem k134_mk (w : World) (x : S134)  : k134.K w x [.int .i64 x.f0, .int .i64 x.f1, .int .u8 x.f2, .int .i64 x.f3] := ⟨[.int .i64 x.f0], [.int .i64 x.f1, .int .u8 x.f2, .int .i64 x.f3], rfl, rfl, ⟨[.int .i64 x.f1], [.int .u8 x.f2, .int .i64 x.f3], rfl, rfl, ⟨[.int .u8 x.f2], [.int .i64 x.f3], rfl, rfl, rfl⟩⟩⟩
theorem k134_mkM (w : World) (base : Nat) (ok : Nat → Prop) (x : S134)  : k134.M w base ok x [.int .i64 x.f0, .int .i64 x.f1, .int .u8 x.f2, .int .i64 x.f3] := ⟨[.int .i64 x.f0], [.int .i64 x.f1, .int .u8 x.f2, .int .i64 x.f3], rfl, rfl, ⟨[.int .i64 x.f1], [.int .u8 x.f2, .int .i64 x.f3], rfl, rfl, ⟨[.int .u8 x.f2], [.int .i64 x.f3], rfl, rfl, rfl⟩⟩⟩
def rd_T134 (xs : List S134) (i : Int) : S134 := xs.getD i.toNat z134
theorem at_T134 {w : World} {A : Option Addr} {n : Nat} {xs : List S134} (h : Kd.C k134 w A n xs) (i : Int) (h0 : 0 ≤ i) (h1 : i < n) : ∃ ad , A = some ad ∧ w.cell? (ad.add (i.toNat * 4)) = some (.int .i64 (rd_T134 xs i).f0) ∧ w.cell? ⟨(ad.add (i.toNat * 4)).block, (ad.add (i.toNat * 4)).off + 1, none⟩ = some (.int .i64 (rd_T134 xs i).f1) ∧ w.cell? ⟨(ad.add (i.toNat * 4)).block, (ad.add (i.toNat * 4)).off + 2, none⟩ = some (.int .u8 (rd_T134 xs i).f2) ∧ w.cell? ⟨(ad.add (i.toNat * 4)).block, (ad.add (i.toNat * 4)).off + 3, none⟩ = some (.int .i64 (rd_T134 xs i).f3) := by
  obtain ⟨ad, c, e, _, hK, hc0⟩ := Kd.C_get h z134 i h0 h1
  have hc : ∀ j u, c[j]? = some u → w.cell? (ad.add (i.toNat * 4 + j)) = some u := hc0
  obtain rfl := k134_open hK
  exact ⟨ad, e, hc 0 _ rfl, by rw [← add_field _ _ 1 (by omega)]; exact hc 1 _ rfl, by rw [← add_field _ _ 2 (by omega)]; exact hc 2 _ rfl, by rw [← add_field _ _ 3 (by omega)]; exact hc 3 _ rfl⟩

def rd_L9 (xs : List (List S134)) (i : Int) : (List S134) := xs.getD i.toNat ([] : List S134)
theorem at_L9 {w : World} {A : Option Addr} {n : Nat} {xs : List (List S134)} (h : Kd.C (Kd.slice 134 k134) w A n xs) (i : Int) (h0 : 0 ≤ i) (h1 : i < n) : ∃ ad A0 c0, A = some ad ∧ w.cell? (ad.add i.toNat) = some (.slice A0 (rd_L9 xs i).length c0) ∧ (rd_L9 xs i).length ≤ c0 ∧ k134.C w A0 (rd_L9 xs i).length (rd_L9 xs i) := by
  obtain ⟨ad, c, e, _, hK, hc0⟩ := Kd.C_get h ([] : List S134) i h0 h1
  have hc : ∀ j u, c[j]? = some u → w.cell? (ad.add (i.toNat * 1 + j)) = some u := hc0
  obtain ⟨A0, c0, rfl, l0, g0⟩ := hK
  exact ⟨ad, A0, c0, e, by have hq := hc 0 _ rfl; rwa [Nat.mul_one, Nat.add_zero] at hq, l0, g0⟩

end Go.Proofs.Ytcmepdamemnbkaa
namespace Go.Proofs.Ytcmepdamemnbkaa
open Go.RowKit Go.Proofs.YtcmepdamemnbkaaW.PrintWords
set_option linter.unusedVariables false
set_option linter.unusedSimpArgs false

theorem ro1 {w : World} {p : Addr} {v : Value} (h : w.cell? p = some v) : RO w XNone p [v] := fun j u hj => by
  cases j with
  | zero => simp at hj; subst hj; rw [Addr.add_zero']; exact ⟨h, fun x => x⟩
  | succ j => simp at hj
theorem int_at {w : World} {A : Option Addr} {n : Nat} {zs : List Int} (h : Kd.C (Kd.int .i64) w A n zs) (k : Nat) (hk : k < n) : ∃ ad, A = some ad ∧ RO w XNone (ad.add ((k : Int).toNat * szN 0)) [.int .i64 (zs.getD k 0)] := by
  obtain ⟨ad, e, hc⟩ := Kd.at_int h (k : Int) (by omega) (by omega)
  refine ⟨ad, e, ro1 ?_⟩
  have : (k : Int).toNat * szN 0 = (k : Int).toNat := by simp [szN]
  rw [this, hc]
  simp [rd]
theorem in1_calls (x lo hi : Int) (B C : Nat) (w : World) (hB : w.cell? ⟨B, 0, none⟩ = some (.int .i64 lo)) (hC : w.cell? ⟨C, 0, none⟩ = some (.int .i64 hi)) :
    Calls Try.prog 52 #[.int .i64 x, .pointer (some ⟨B, 0, none⟩), .pointer (some ⟨C, 0, none⟩)] w fun e w' => e = .returned (.bool (decide (x < lo) || decide (hi < x))) ∧ Below w.heap.size w w' := by
  have r1 := ro1 hB
  have r2 := ro1 hC
  refine x_calls (X := XNone) Try.func52 rfl rfl rfl ?_
  with_reducible repeat refine xc_seq ?_
  with_reducible refine xc_region ?_
  refine xo_asg rfl rfl rfl ?_
  with_reducible refine xo_nil ?_
  with_reducible repeat (first | refine xq_then ?_ | refine xq_blockN ?_ | refine xq_scopeN ?_)
  cases h : decide (x < lo)
  all_goals
    with_reducible repeat refine xc_seq ?_
    with_reducible refine xc_region ?_
    refine xo_mv rfl rfl rfl ?_
    refine xo_loadR0 T_ rfl rfl rfl (by first | assumption | exact RO.fld (by assumption) rfl) rfl ?_
    refine xo_lss rfl rfl rfl rfl ?_
    refine xo_mv rfl rfl rfl ?_
    refine xo_as (i := 8) rfl (congrArg Value.bool h) ?_
    first
      | refine xo_not rfl rfl ?_
      | (refine xo_mv rfl rfl rfl ?_)
    first
      | refine xo_not rfl rfl ?_
      | (refine xo_loadR0 T_ rfl rfl rfl (by first | assumption | exact RO.fld (by assumption) rfl) rfl ?_)
    first
      | refine xo_not rfl rfl ?_
      | (refine xo_gtr rfl rfl rfl rfl ?_)
    first | refine xo_pickT rfl rfl rfl rfl ?_ | refine xo_pickF rfl rfl rfl rfl ?_
    refine xo_asg rfl rfl rfl ?_
    with_reducible refine xo_nil ?_
    with_reducible repeat (first | refine xq_then ?_ | refine xq_blockN ?_ | refine xq_scopeN ?_)
    with_reducible repeat refine xc_seq ?_
    with_reducible refine xc_ret ?_
    with_reducible repeat (first | refine xq_thenR ?_ | refine xq_blockR ?_ | refine xq_scopeR ?_)
    exact (xq_ret1 rfl rfl fun w' hw => ⟨rfl, hw.kx.below⟩)

/-- the place of the first element of which something is so, -1 if there is none -/
def idxF {α : Type} (p : α → Bool) : List α → Nat → Int
  | [], _ => -1
  | x :: r, i => if p x then (i : Int) else idxF p r (i + 1)
theorem idxF_hit {α : Type} (p : α → Bool) (z : α) : ∀ (zs : List α) (k i : Nat), k < zs.length → p (zs.getD k z) = true → (∀ j, j < k → p (zs.getD j z) = false) → idxF p zs i = ((i + k : Nat) : Int)
  | [], k, i, h, _, _ => absurd h (by simp)
  | x :: r, 0, i, _, h, _ => by simp [idxF] at h ⊢; simp [h]
  | x :: r, k + 1, i, hk, h, hn => by
    have h0 := hn 0 (by omega)
    simp at h0
    have := idxF_hit p z r k (i + 1) (by simpa using hk) (by simpa using h) (fun j hj => by simpa using hn (j + 1) (by omega))
    simp [idxF, h0, this]
    omega
theorem idxF_miss {α : Type} (p : α → Bool) (z : α) : ∀ (zs : List α) (i : Nat), (∀ j, j < zs.length → p (zs.getD j z) = false) → idxF p zs i = -1
  | [], _, _ => rfl
  | x :: r, i, h => by
    have h0 := h 0 (by simp)
    simp at h0
    simp [idxF, h0, idxF_miss p z r (i + 1) (fun j hj => by simpa using h (j + 1) (by simpa using hj))]
theorem idxF_any {α : Type} (p : α → Bool) : ∀ (zs : List α) (i : Nat), decide (0 ≤ idxF p zs i) = zs.any p
  | [], _ => rfl
  | x :: r, i => by
    by_cases h : p x = true
    · simp [idxF, h]
    · have h' : p x = false := by simpa using h
      simp [idxF, h', ← idxF_any p r (i + 1)]

/-- a closure over whole numbers that answers p, in whatever world that is as w is below its own blocks -/
def Asks (P : Program) (w : World) (g : Nat) (cs : List Value) (enc : Int → Value) (p : Int → Bool) : Prop :=
  ∀ (x : Int) (W : World), Below w.heap.size w W → Calls P g ([enc x] ++ cs).toArray W fun e W' => e = .returned (.bool (p x)) ∧ Below W.heap.size W W'
theorem indexFunc_calls (p : Int → Bool) (g : Nat) (cs : List Value) (eg : ∀ args w, (callFunc g args).run Try.prog w = .ok (.enter g args) w) (A : Option Addr) (c : Nat) (zs : List Int) (w : World)
    (hr : Kd.C (Kd.int .i64) w A zs.length zs) (hp : Asks Try.prog w g cs (.int .i64) p) :
    Calls Try.prog 49 #[.slice A zs.length c, .func (.func g) #[] cs.toArray] w fun e w' => e = .returned (.int .i64 (idxF p zs 0)) ∧ Below w.heap.size w w' := by
  have hn := hr.2.1
  refine x_calls (X := XNone) Try.func49 rfl rfl rfl ?_
  with_reducible repeat refine xc_seq ?_
  with_reducible refine xc_region ?_
  refine xo_asg rfl rfl rfl ?_
  with_reducible refine xo_nil ?_
  with_reducible repeat (first | refine xq_then ?_ | refine xq_blockN ?_ | refine xq_scopeN ?_)
  with_reducible repeat refine xc_seq ?_
  with_reducible refine xc_region ?_
  refine xo_mv rfl rfl rfl ?_
  refine xo_len T_ rfl rfl rfl rfl ?_
  refine xo_mv rfl rfl rfl ?_
  with_reducible refine xo_nil ?_
  with_reducible repeat (first | refine xq_then ?_ | refine xq_blockN ?_ | refine xq_scopeN ?_)
  with_reducible repeat refine xc_seq ?_
  with_reducible refine xc_block ?_
  refine xc_loop (γ := Nat) (fun k => k ≤ zs.length ∧ ∀ j, j < k → p (zs.getD j 0) = false) (fun k => [(0, .slice A zs.length c), (1, .func (.func g) #[] cs.toArray), (6, .slice A zs.length c), (7, .int .i64 (zs.length : Int)), (8, .int .i64 (k : Int))]) (fun _ => []) (fun k => zs.length - k) 0
    ⟨Nat.zero_le _, fun j hj => absurd hj (Nat.not_lt_zero _)⟩ ⟨rfl, rfl, rfl, rfl, rfl, trivial⟩ (List.Sublist.refl _) ?_
  rintro k ⟨hk, hno⟩
  with_reducible repeat refine xc_seq ?_
  with_reducible refine xc_region ?_
  refine xo_lss rfl rfl rfl rfl ?_
  with_reducible refine xo_nil ?_
  with_reducible repeat (first | refine xq_then ?_ | refine xq_blockN ?_ | refine xq_scopeN ?_)
  with_reducible repeat refine xc_seq ?_
  refine xc_cond rfl (fun h => ?_) (fun h => ?_)
  · have hlt : k < zs.length := by have := of_decide_eq_true h; omega
    obtain ⟨ad, rfl, r1⟩ := int_at hr k hlt
    with_reducible refine xc_skip ?_
    with_reducible repeat (first | refine xq_then ?_ | refine xq_blockN ?_ | refine xq_scopeN ?_)
    with_reducible repeat refine xc_seq ?_
    with_reducible refine xc_block ?_
    with_reducible repeat refine xc_seq ?_
    with_reducible refine xc_region ?_
    refine xo_mv rfl rfl rfl ?_
    refine xo_asg rfl rfl rfl ?_
    with_reducible refine xo_nil ?_
    with_reducible repeat (first | refine xq_then ?_ | refine xq_blockN ?_ | refine xq_scopeN ?_)
    with_reducible repeat refine xc_seq ?_
    with_reducible refine xc_region ?_
    refine xo_mv rfl rfl rfl ?_
    refine xo_mv rfl rfl rfl ?_
    refine xo_mv rfl rfl rfl ?_
    refine xo_ia T_ rfl rfl rfl rfl rfl ⟨by omega, by omega⟩ rfl ?_
    refine xo_loadR0 T_ rfl rfl rfl (by first | assumption | exact RO.fld (by assumption) rfl) rfl ?_
    refine xo_callB (fs := []) rfl rfl rfl eg rfl (fun w1 hw1 => hp _ _ hw1.kx.below) ?_
    with_reducible refine xo_nil ?_
    with_reducible repeat (first | refine xq_then ?_ | refine xq_blockN ?_ | refine xq_scopeN ?_)
    with_reducible repeat refine xc_seq ?_
    refine xc_cond rfl (fun h2 => ?_) (fun h2 => ?_)
    · with_reducible repeat refine xc_seq ?_
      with_reducible refine xc_region ?_
      refine xo_mv rfl rfl rfl ?_
      refine xo_asg rfl rfl rfl ?_
      with_reducible refine xo_nil ?_
      with_reducible repeat (first | refine xq_then ?_ | refine xq_blockN ?_ | refine xq_scopeN ?_)
      with_reducible repeat refine xc_seq ?_
      with_reducible refine xc_ret ?_
      with_reducible repeat (first | refine xq_thenR ?_ | refine xq_blockR ?_ | refine xq_scopeR ?_)
      exact (xq_ret1 rfl rfl fun w' hw => ⟨by rw [idxF_hit p 0 zs k 0 hlt h2 hno]; simp, hw.kx.below⟩)
    · with_reducible refine xc_skip ?_
      with_reducible repeat (first | refine xq_then ?_ | refine xq_blockN ?_ | refine xq_scopeN ?_)
      with_reducible repeat refine xc_seq ?_
      with_reducible refine xc_region ?_
      refine xo_add rfl rfl rfl (by omega) rfl ?_
      refine xo_mv rfl rfl rfl ?_
      with_reducible refine xo_nil ?_
      with_reducible repeat (first | refine xq_then ?_ | refine xq_blockN ?_ | refine xq_scopeN ?_)
      refine xq_again _ _ _ _ _ (k + 1) ⟨by omega, fun j hj => ?_⟩ (by omega) ⟨rfl, rfl, rfl, rfl, rfl, trivial⟩ (List.Sublist.refl _)
      by_cases e : j = k
      · subst e; exact h2
      · exact hno j (by omega)
  · have hge : ¬ k < zs.length := by have := of_decide_eq_false h; omega
    with_reducible refine xc_exit ?_
    with_reducible repeat (first | refine xq_blockX ?_ | refine xq_thenE ?_ | refine xq_blockE rfl ?_ | refine xq_scopeE ?_)
    with_reducible repeat (first | refine xq_then ?_ | refine xq_blockN ?_ | refine xq_scopeN ?_)
    with_reducible repeat refine xc_seq ?_
    with_reducible refine xc_region ?_
    refine xo_asg rfl rfl rfl ?_
    with_reducible refine xo_nil ?_
    with_reducible repeat (first | refine xq_then ?_ | refine xq_blockN ?_ | refine xq_scopeN ?_)
    with_reducible repeat refine xc_seq ?_
    with_reducible refine xc_ret ?_
    with_reducible repeat (first | refine xq_thenR ?_ | refine xq_blockR ?_ | refine xq_scopeR ?_)
    refine xq_ret1 rfl rfl fun w' hw => ⟨?_, hw.kx.below⟩
    rw [idxF_miss p 0 zs 0 (fun j hj => hno j (by omega))]
theorem containsFunc_calls (p : Int → Bool) (g : Nat) (cs : List Value) (eg : ∀ args w, (callFunc g args).run Try.prog w = .ok (.enter g args) w) (A : Option Addr) (c : Nat) (zs : List Int) (w : World)
    (hr : Kd.C (Kd.int .i64) w A zs.length zs) (hp : Asks Try.prog w g cs (.int .i64) p) :
    Calls Try.prog 51 #[.slice A zs.length c, .func (.func g) #[] cs.toArray] w fun e w' => e = .returned (.bool (zs.any p)) ∧ Below w.heap.size w w' := by
  rw [← idxF_any p zs 0]
  have eg2 := enters_of Try.func49 (by kernel_rfl) rfl
  refine x_calls (X := XNone) Try.func51 rfl rfl rfl ?_
  with_reducible repeat refine xc_seq ?_
  with_reducible refine xc_region ?_
  refine xo_asg rfl rfl rfl ?_
  with_reducible refine xo_nil ?_
  with_reducible repeat (first | refine xq_then ?_ | refine xq_blockN ?_ | refine xq_scopeN ?_)
  with_reducible repeat refine xc_seq ?_
  with_reducible refine xc_region ?_
  refine xo_mv rfl rfl rfl ?_
  refine xo_mv rfl rfl rfl ?_
  refine xo_callB (fs := []) (cs := []) rfl rfl rfl eg2 rfl (fun w1 hw1 => indexFunc_calls p g cs eg A c zs w1 (Kd.C_below hr hw1.kx.below) (fun x W hW => hp x W (below_step hw1.kx.below hW))) ?_
  refine xo_geq rfl rfl rfl rfl ?_
  refine xo_asg rfl rfl rfl ?_
  with_reducible refine xo_nil ?_
  with_reducible repeat (first | refine xq_then ?_ | refine xq_blockN ?_ | refine xq_scopeN ?_)
  with_reducible repeat refine xc_seq ?_
  with_reducible refine xc_ret ?_
  with_reducible repeat (first | refine xq_thenR ?_ | refine xq_blockR ?_ | refine xq_scopeR ?_)
  exact (xq_ret1 rfl rfl fun w' hw => ⟨rfl, hw.kx.below⟩)
def trust_in.f (a0 : Int) (a1 : Int) (l2 : List Int) : Option Bool := some (!l2.any fun x => decide (x < a0) || decide (a1 < x))
theorem trust_in.calls (a0 : Int) (a1 : Int) (A2 : Option Addr) (c2 : Nat) (l2 : List Int) (r : Bool) (w : World) (hr2 : Kd.C (Kd.int .i64) w A2 l2.length l2) (hc2 : l2.length ≤ c2) (h : trust_in.f a0 a1 l2 = some r) :
    Calls Try.prog 32 #[.int .i64 a0, .int .i64 a1, .slice A2 l2.length c2] w fun e w' => e = .returned (.bool r) ∧ Below w.heap.size w w' := by
  obtain rfl := Option.some.inj h
  have eg : ∀ args w, (callFunc 52 args).run Try.prog w = .ok (.enter 52 args) w := enters_of Try.func52 (by kernel_rfl) rfl
  have eg2 := enters_of Try.func51 (by kernel_rfl) rfl
  refine x_calls (X := XNone) Try.func32 rfl rfl rfl ?_
  with_reducible repeat refine xc_seq ?_
  with_reducible refine xc_region ?_
  refine xo_box rfl rfl rfl rfl (fun b3 => ?_)
  refine xo_box rfl rfl rfl rfl (fun b4 => ?_)
  refine xo_asg rfl rfl rfl ?_
  with_reducible refine xo_nil ?_
  with_reducible repeat (first | refine xq_then ?_ | refine xq_blockN ?_ | refine xq_scopeN ?_)
  with_reducible repeat refine xc_seq ?_
  with_reducible refine xc_region ?_
  refine xo_mv rfl rfl rfl ?_
  refine xo_mkf rfl rfl rfl rfl ?_
  refine xo_callB (fs := []) (cs := []) rfl rfl rfl eg2 rfl (fun w1 hw1 => containsFunc_calls (fun x => decide (x < a0) || decide (a1 < x)) _ [.pointer (some ⟨b3, 0, none⟩), .pointer (some ⟨b4, 0, none⟩)] eg A2 c2 l2 w1 (Kd.C_below hr2 hw1.kx.below)
    (fun x W hW => in1_calls x a0 a1 b3 b4 W ((hw1.below hW).cell (t := 3) (List.Mem.tail _ (List.Mem.head _)) 0 rfl) ((hw1.below hW).cell (List.Mem.head _) 0 rfl))) ?_
  refine xo_notOp rfl rfl rfl ?_
  refine xo_asg rfl rfl rfl ?_
  with_reducible refine xo_nil ?_
  with_reducible repeat (first | refine xq_then ?_ | refine xq_blockN ?_ | refine xq_scopeN ?_)
  with_reducible repeat refine xc_seq ?_
  with_reducible refine xc_ret ?_
  with_reducible repeat (first | refine xq_thenR ?_ | refine xq_blockR ?_ | refine xq_scopeR ?_)
  exact (xq_ret1 rfl rfl fun w' hw => ⟨rfl, hw.kx.below⟩)
end Go.Proofs.Ytcmepdamemnbkaa
namespace Go.Proofs.Ytcmepdamemnbkaa
open Go.RowKit Go.Proofs.YtcmepdamemnbkaaW.PrintWords
set_option linter.unusedVariables false
set_option linter.unusedSimpArgs false
abbrev RecT := S43
abbrev LetT := S65
abbrev recK : Kd RecT := k43
abbrev letK : Kd LetT := k65
abbrev waysK : Kd (List Int) := Kd.slice 3 (Kd.int .i64)
abbrev zRec : RecT := z43
abbrev zLet : LetT := z65
def recV (x : RecT) (A : Option Addr) (c : Nat) : List Value := [.int .i64 x.f0, .int .u8 x.f1, .slice A x.f2.length c]
def letV (x : LetT) : List Value := [.int .i64 x.f0, .int .i64 x.f1, .int .i64 x.f2, .int .u8 x.f3]
def Bytes (r : List RecT) : Prop := ∀ x ∈ r, 0 ≤ x.f1 ∧ x.f1 ≤ 255
def BytesL (l : List LetT) : Prop := ∀ x ∈ l, 0 ≤ x.f3 ∧ x.f3 ≤ 255

theorem ro_of {w : World} {p : Addr} {cs : List Value} (h : ∀ j v, cs[j]? = some v → w.cell? (p.add j) = some v) : RO w XNone p cs := fun j v hj => ⟨h j v hj, fun x => x⟩
theorem add_add (a : Addr) (m n : Nat) : (a.add m).add n = a.add (m + n) := by
  unfold Addr.add
  by_cases h1 : m = 0 <;> by_cases h2 : n = 0 <;> simp [h1, h2]
  omega
theorem at_of {α : Type} {d : Kd α} {w : World} {A : Option Addr} {n : Nat} {xs : List α} (h : Kd.C d w A n xs) (z : α) (k : Nat) (hk : k < n) :
    ∃ ad cs, A = some ad ∧ xs[k]? = some (xs.getD k z) ∧ d.K w (xs.getD k z) cs ∧ RO w XNone (ad.add (k * d.sz)) cs := by
  obtain ⟨ad, e, hc⟩ := h.2.2 (by omega)
  have hl : k < xs.length := by have := h.1; omega
  have hg : xs.getD k z = xs[k] := by simp [List.getD_eq_getElem?_getD, List.getElem?_eq_getElem hl]
  obtain ⟨cs, h1, h2, h3⟩ := hc k _ (List.getElem?_eq_getElem hl)
  rw [hg]
  exact ⟨ad, cs, e, List.getElem?_eq_getElem hl, h2, ro_of fun j v hj => by rw [add_add]; exact h3 j v hj⟩
theorem rec_at {w : World} {A : Option Addr} {n : Nat} {r : List RecT} (h : Kd.C recK w A n r) (k : Nat) (hk : k < n) :
    ∃ ad A2 c2, A = some ad ∧ RO w XNone (ad.add ((k : Int).toNat * szN 3)) (recV (r.getD k zRec) A2 c2) ∧ (r.getD k zRec).f2.length ≤ c2 ∧ Kd.C waysK w A2 (r.getD k zRec).f2.length (r.getD k zRec).f2 := by
  obtain ⟨ad, cs, e, _, hK, hR⟩ := at_of h zRec k hk
  obtain ⟨A2, c2, rfl, h1, h2⟩ := k43_open hK
  exact ⟨ad, A2, c2, e, hR, h1, h2⟩
theorem let_at {w : World} {A : Option Addr} {n : Nat} {r : List LetT} (h : Kd.C letK w A n r) (k : Nat) (hk : k < n) :
    ∃ ad, A = some ad ∧ RO w XNone (ad.add ((k : Int).toNat * szN 4)) (letV (r.getD k zLet)) := by
  obtain ⟨ad, cs, e, _, hK, hR⟩ := at_of h zLet k hk
  obtain rfl := k65_open hK
  exact ⟨ad, e, hR⟩
theorem way_at {w : World} {A : Option Addr} {n : Nat} {r : List (List Int)} (h : Kd.C waysK w A n r) (k : Nat) (hk : k < n) :
    ∃ ad A2 c2, A = some ad ∧ RO w XNone (ad.add ((k : Int).toNat * szN 0)) [.slice A2 (r.getD k []).length c2] ∧ (r.getD k []).length ≤ c2 ∧ Kd.C (Kd.int .i64) w A2 (r.getD k []).length (r.getD k []) := by
  obtain ⟨ad, cs, e, _, hK, hR⟩ := at_of h [] k hk
  obtain ⟨A2, c2, rfl, h1, h2⟩ := hK
  exact ⟨ad, A2, c2, e, hR, h1, h2⟩
theorem drop_at {α : Type} (xs : List α) (z : α) (k : Nat) (hk : k < xs.length) : xs.drop k = xs.getD k z :: xs.drop (k + 1) := by
  rw [List.drop_eq_getElem_cons hk]
  simp [List.getD_eq_getElem?_getD, List.getElem?_eq_getElem hk]
theorem getD_mem {α : Type} (xs : List α) (z : α) (k : Nat) (hk : k < xs.length) : xs.getD k z ∈ xs := by
  simp [List.getD_eq_getElem?_getD, List.getElem?_eq_getElem hk]
/-- a row of whole numbers of the call's own, as it is read -/
theorem C_cel {w0 : World} {X : Nat → Prop} {η : Hp} {w : World} (hw : WOK w0 X η w) {b : Nat} {wr : Bool} {xs : List Int} {t : TypeId} (hm : (b, wr, cel (xs.map (.int .i64)) t) ∈ η) (hl : xs.length ≤ 9223372036854775807) : Kd.C (Kd.int .i64) w (some ⟨b, 0, none⟩) xs.length xs := by
  refine ⟨rfl, hl, fun _ => ⟨_, rfl, fun j p hj => ⟨[.int .i64 p], rfl, rfl, fun i u hu => ?_⟩⟩⟩
  have hi : i = 0 := by
    have := (List.getElem?_eq_some_iff.1 hu).1
    simpa using this
  subst hi
  simp at hu
  subst hu
  rw [Addr.add_lit]
  refine hw.cell hm _ ?_
  simp [Kd.int, Kd.scalar, hj]

/-! ### answers -/
def inF (lo hi x : Int) : Bool := decide (lo ≤ x) && decide (x ≤ hi)
def knownF (r : List RecT) (id : Int) : Bool := r.any fun x => decide (x.f0 = id)
def wayF (bs : List Int) : Int → List Int → Bool
  | _, [] => true
  | past, n :: w => !(decide (n ≤ past) || !decide (n ∈ bs)) && wayF bs n w
def waysF (bs : List Int) (l : List (List Int)) : Bool := l.all fun w => wayF bs (-1) w && inF 1 4 w.length
def mostF (k : Int) : Int := if 3 ≤ k then 3 else 0
def recF : List Int → Int → List RecT → Bool
  | _, _, [] => true
  | bs, last, x :: r => (inF (last + 1) 9999 x.f0 && inF 1 4 x.f1 && inF (if 3 ≤ x.f1 then 1 else 0) (mostF x.f1) x.f2.length) && (waysF bs x.f2 && recF (insN x.f0 bs) x.f0 r)
def recordedF (r : List RecT) : Bool := recF [] (-1) r && decide (r.length ≤ 12)
theorem in_one (a0 a1 x : Int) : (!([x].any fun x => decide (x < a0) || decide (a1 < x))) = inF a0 a1 x := by
  unfold inF
  rw [Bool.eq_iff_iff]
  simp
/-- is one number in a span? -/
theorem in_calls {w0 : World} {X : Nat → Prop} {η : Hp} {w : World} (hw : WOK w0 X η w) (lo hi x : Int) {b : Nat} {wr : Bool} {t : TypeId} (hm : (b, wr, cel [.int .i64 x] t) ∈ η) :
    Calls Try.prog 32 #[.int .i64 lo, .int .i64 hi, .slice (some ⟨b, 0, none⟩) 1 1] w fun e w' => e = .returned (.bool (inF lo hi x)) ∧ Below w.heap.size w w' := by
  rw [← in_one]
  exact trust_in.calls lo hi (some ⟨b, 0, none⟩) 1 [x] _ w (C_cel hw (xs := [x]) hm (by simp)) (by simp) rfl
theorem in_enters : ∀ args w, (callFunc 32 args).run Try.prog w = .ok (.enter 32 args) w := enters_of Try.func32 (by kernel_rfl) rfl
end Go.Proofs.Ytcmepdamemnbkaa
namespace Go.Proofs.Ytcmepdamemnbkaa
open Go.RowKit Go.Proofs.YtcmepdamemnbkaaW.PrintWords
set_option linter.unusedVariables false
set_option linter.unusedSimpArgs false
theorem min_most (k : Int) : (if mostF k < 1 then mostF k else 1) = if 3 ≤ k then 1 else 0 := by
  unfold mostF
  split <;> simp
set_option maxHeartbeats 4000000 in
theorem recorded_calls (A : Option Addr) (c : Nat) (r : List RecT) (w : World) (hr : Kd.C recK w A r.length r) (hk : Bytes r) :
    Calls Try.prog 31 #[.slice A r.length c] w fun e w' => e = .returned (.bool (recordedF r)) ∧ Below w.heap.size w w' := by
  have hn := hr.2.1
  refine x_calls (X := XNone) Try.func31 rfl rfl rfl ?_
  with_reducible repeat refine xc_seq ?_
  with_reducible refine xc_region ?_
  refine xo_asg rfl rfl rfl ?_
  with_reducible refine xo_nil ?_
  with_reducible repeat (first | refine xq_then ?_ | refine xq_blockN ?_ | refine xq_scopeN ?_)
  with_reducible repeat refine xc_seq ?_
  with_reducible refine xc_region ?_
  refine xo_asg rfl rfl rfl ?_
  with_reducible refine xo_nil ?_
  with_reducible repeat (first | refine xq_then ?_ | refine xq_blockN ?_ | refine xq_scopeN ?_)
  with_reducible repeat refine xc_seq ?_
  with_reducible refine xc_region ?_
  refine xo_mkm rfl rfl (fun b13 => ?_)
  refine xo_asg rfl rfl rfl ?_
  with_reducible refine xo_nil ?_
  with_reducible repeat (first | refine xq_then ?_ | refine xq_blockN ?_ | refine xq_scopeN ?_)
  with_reducible repeat refine xc_seq ?_
  with_reducible refine xc_region ?_
  refine xo_mv rfl rfl rfl ?_
  refine xo_len T_ rfl rfl rfl rfl ?_
  refine xo_mv rfl rfl rfl ?_
  with_reducible refine xo_nil ?_
  with_reducible repeat (first | refine xq_then ?_ | refine xq_blockN ?_ | refine xq_scopeN ?_)
  with_reducible repeat refine xc_seq ?_
  with_reducible refine xc_block ?_
  refine xc_loop (γ := Nat × List Int × Int) (fun q => q.1 ≤ r.length ∧ -1 ≤ q.2.2 ∧ q.2.2 ≤ 9999 ∧ recF [] (-1) r = recF q.2.1 q.2.2 (r.drop q.1)) (fun q => [(0, .slice A r.length c), (3, .int .i64 q.2.2), (4, .map (some b13)), (14, .slice A r.length c), (15, .int .i64 (r.length : Int)), (16, .int .i64 (q.1 : Int))]) (fun q => [(b13, true, hmap (setV q.2.1))]) (fun q => r.length - q.1) (0, [], -1)
    ⟨Nat.zero_le _, by simp, by simp, rfl⟩ ⟨rfl, rfl, rfl, rfl, rfl, rfl, trivial⟩ (by repeat (first | exact List.Sublist.refl _ | apply List.Sublist.cons_cons | apply List.Sublist.cons | exact List.nil_sublist _)) ?_
  rintro ⟨k, bs, last⟩ ⟨hk1, hl0, hl1, hrec⟩
  simp only at hk1 hl0 hl1 hrec ⊢
  with_reducible repeat refine xc_seq ?_
  with_reducible refine xc_region ?_
  refine xo_lss rfl rfl rfl rfl ?_
  with_reducible refine xo_nil ?_
  with_reducible repeat (first | refine xq_then ?_ | refine xq_blockN ?_ | refine xq_scopeN ?_)
  with_reducible repeat refine xc_seq ?_
  refine xc_cond rfl (fun h => ?_) (fun h => ?_)
  · have hlt : k < r.length := by have := of_decide_eq_true h; omega
    obtain ⟨ad, A2, c2, rfl, r1, hc2, hw2⟩ := rec_at hr k hlt
    have hby := hk _ (getD_mem r zRec k hlt)
    rw [drop_at r zRec k hlt] at hrec
    generalize r.getD k zRec = x at *
    have hm2 := hw2.2.1
    with_reducible refine xc_skip ?_
    with_reducible repeat (first | refine xq_then ?_ | refine xq_blockN ?_ | refine xq_scopeN ?_)
    with_reducible repeat refine xc_seq ?_
    with_reducible refine xc_block ?_
    with_reducible repeat refine xc_seq ?_
    with_reducible refine xc_region ?_
    refine xo_ia T_ rfl rfl rfl rfl rfl ⟨by omega, by omega⟩ rfl ?_
    refine xo_loadRN T_ rfl rfl rfl (by assumption) rfl rfl ?_
    refine xo_alloc T_ rfl rfl rfl rfl (fun b6 => ?_)
    refine xo_store T_ rfl rfl rfl rfl (by repeat (first | exact List.Mem.head _ | apply List.Mem.tail | apply List.mem_append_right)) rfl rfl rfl rfl (by repeat (first | exact Upd.head | apply Upd.tail | apply Upd.app)) rfl ?_
    with_reducible refine xo_nil ?_
    with_reducible repeat (first | refine xq_then ?_ | refine xq_blockN ?_ | refine xq_scopeN ?_)
    with_reducible repeat refine xc_seq ?_
    with_reducible refine xc_region ?_
    refine xo_asg rfl rfl rfl ?_
    with_reducible refine xo_nil ?_
    with_reducible repeat (first | refine xq_then ?_ | refine xq_blockN ?_ | refine xq_scopeN ?_)
    refine xc_cut (γ := Unit) (fun _ => True) (fun _ => [(0, .slice (some ad) r.length c), (3, .int .i64 last), (4, .map (some b13)), (6, .pointer (some ⟨b6, 0, none⟩)), (7, .int .i64 (mostF x.f1)), (14, .slice (some ad) r.length c), (15, .int .i64 (r.length : Int)), (16, .int .i64 (k : Int))]) (fun _ => [(b6, true, cel (recV x A2 c2) 43), (b13, true, hmap (setV bs))]) ?_ (fun _ _ => ?_)
    · with_reducible repeat refine xc_seq ?_
      with_reducible refine xc_region ?_
      refine xo_fa T_ rfl rfl rfl rfl rfl ?_
      refine xo_load0 T_ rfl rfl rfl (by repeat (first | exact List.Mem.head _ | apply List.Mem.tail | apply List.mem_append_right)) rfl rfl ?_
      refine xo_geq rfl rfl rfl rfl ?_
      with_reducible refine xo_nil ?_
      with_reducible repeat (first | refine xq_then ?_ | refine xq_blockN ?_ | refine xq_scopeN ?_)
      with_reducible repeat refine xc_seq ?_
      refine xc_cond rfl (fun h3 => ?_) (fun h3 => ?_)
      · with_reducible repeat refine xc_seq ?_
        with_reducible refine xc_region ?_
        refine xo_asg rfl rfl rfl ?_
        with_reducible refine xo_nil ?_
        with_reducible repeat (first | refine xq_then ?_ | refine xq_blockN ?_ | refine xq_scopeN ?_)
        exact xq_meet _ _ _ () trivial ⟨rfl, rfl, rfl, rfl, by simp only [mostF, if_pos (of_decide_eq_true h3)]; rfl, rfl, rfl, rfl, trivial⟩ (by repeat (first | exact List.Sublist.refl _ | apply List.Sublist.cons_cons | apply List.Sublist.cons | exact List.nil_sublist _))
      · with_reducible refine xc_skip ?_
        with_reducible repeat (first | refine xq_then ?_ | refine xq_blockN ?_ | refine xq_scopeN ?_)
        exact xq_meet _ _ _ () trivial ⟨rfl, rfl, rfl, rfl, by simp only [mostF, if_neg (of_decide_eq_false h3)]; rfl, rfl, rfl, rfl, trivial⟩ (by repeat (first | exact List.Sublist.refl _ | apply List.Sublist.cons_cons | apply List.Sublist.cons | exact List.nil_sublist _))
    cases h1 : !inF (last + 1) 9999 x.f0 <;> cases h2 : !inF 1 4 x.f1 <;> cases h3 : !inF (if 3 ≤ x.f1 then 1 else 0) (mostF x.f1) x.f2.length
    all_goals
      with_reducible repeat refine xc_seq ?_
      with_reducible refine xc_region ?_
      refine xo_mv rfl rfl rfl ?_
      refine xo_add rfl rfl rfl (by omega) rfl ?_
      refine xo_fa T_ rfl rfl rfl rfl rfl ?_
      refine xo_load0 T_ rfl rfl rfl (by repeat (first | exact List.Mem.head _ | apply List.Mem.tail | apply List.mem_append_right)) rfl rfl ?_
      refine xo_bs1 T_ rfl rfl rfl rfl rfl rfl rfl rfl (fun b27 => ?_)
      refine xo_callB (fs := []) (cs := []) rfl rfl rfl in_enters rfl (fun w1 hw1 => in_calls hw1 _ _ _ (by repeat (first | exact List.Mem.head _ | apply List.Mem.tail | apply List.mem_append_right))) ?_
      refine xo_notOp rfl rfl rfl ?_
      refine xo_mv rfl rfl rfl ?_
      refine xo_as (i := 30) rfl (congrArg Value.bool h1) ?_
      first
        | refine xo_not rfl rfl ?_
        | (refine xo_fa T_ rfl rfl rfl rfl rfl ?_)
      first
        | refine xo_not rfl rfl ?_
        | (refine xo_load0 T_ rfl rfl rfl (by repeat (first | exact List.Mem.head _ | apply List.Mem.tail | apply List.mem_append_right)) rfl rfl ?_)
      first
        | refine xo_not rfl rfl ?_
        | (refine xo_conv T_ rfl rfl rfl rfl (IntWalk.i64_in _ ⟨by omega, by omega⟩) rfl ?_)
      first
        | refine xo_not rfl rfl ?_
        | (refine xo_bs1 T_ rfl rfl rfl rfl rfl rfl rfl rfl (fun b34 => ?_))
      first
        | refine xo_not rfl rfl ?_
        | (refine xo_callB (fs := []) (cs := []) rfl rfl rfl in_enters rfl (fun w1 hw1 => in_calls hw1 _ _ _ (by repeat (first | exact List.Mem.head _ | apply List.Mem.tail | apply List.mem_append_right))) ?_)
      first
        | refine xo_not rfl rfl ?_
        | (refine xo_notOp rfl rfl rfl ?_)
      first | refine xo_pickT rfl rfl rfl rfl ?_ | refine xo_pickF rfl rfl rfl rfl ?_
      refine xo_mv rfl rfl rfl ?_
      first | refine xo_as (i := 38) rfl (congrArg Value.bool h2) ?_ | skip
      first
        | refine xo_not rfl rfl ?_
        | (refine xo_mv rfl rfl rfl ?_)
      first
        | refine xo_not rfl rfl ?_
        | (refine xo_min rfl rfl rfl rfl ?_)
      first | refine xo_as (i := 40) rfl (congrArg (Value.int .i64) (min_most x.f1)) ?_ | skip
      first
        | refine xo_not rfl rfl ?_
        | (refine xo_mv rfl rfl rfl ?_)
      first
        | refine xo_not rfl rfl ?_
        | (refine xo_fa T_ rfl rfl rfl rfl rfl ?_)
      first
        | refine xo_not rfl rfl ?_
        | (refine xo_load0 T_ rfl rfl rfl (by repeat (first | exact List.Mem.head _ | apply List.Mem.tail | apply List.mem_append_right)) rfl rfl ?_)
      first
        | refine xo_not rfl rfl ?_
        | (refine xo_len T_ rfl rfl rfl rfl ?_)
      first
        | refine xo_not rfl rfl ?_
        | (refine xo_bs1 T_ rfl rfl rfl rfl rfl rfl rfl rfl (fun b45 => ?_))
      first
        | refine xo_not rfl rfl ?_
        | (refine xo_callB (fs := []) (cs := []) rfl rfl rfl in_enters rfl (fun w1 hw1 => in_calls hw1 _ _ _ (by repeat (first | exact List.Mem.head _ | apply List.Mem.tail | apply List.mem_append_right))) ?_)
      first
        | refine xo_not rfl rfl ?_
        | (refine xo_notOp rfl rfl rfl ?_)
      first | refine xo_pickT rfl rfl rfl rfl ?_ | refine xo_pickF rfl rfl rfl rfl ?_
      first | refine xo_as (i := 48) rfl (congrArg Value.bool h3) ?_ | skip
      with_reducible refine xo_nil ?_
      with_reducible repeat (first | refine xq_then ?_ | refine xq_blockN ?_ | refine xq_scopeN ?_)
      with_reducible repeat refine xc_seq ?_
      first | refine xc_condT rfl ?_ | refine xc_condF rfl ?_
    rotate_left
    iterate 7
      · with_reducible repeat refine xc_seq ?_
        with_reducible refine xc_region ?_
        refine xo_asg rfl rfl rfl ?_
        with_reducible refine xo_nil ?_
        with_reducible repeat (first | refine xq_then ?_ | refine xq_blockN ?_ | refine xq_scopeN ?_)
        with_reducible repeat refine xc_seq ?_
        with_reducible refine xc_ret ?_
        with_reducible repeat (first | refine xq_thenR ?_ | refine xq_blockR ?_ | refine xq_scopeR ?_)
        refine xq_ret1 rfl rfl fun w' hw => ⟨?_, hw.kx.below⟩
        rw [recordedF, hrec, recF]
        simp only [Bool.not_eq_true', Bool.not_eq_false'] at h1 h2 h3
        simp only [h1, h2, h3, Bool.false_and, Bool.and_false]
    simp only [Bool.not_eq_true', Bool.not_eq_false'] at h1 h2 h3
    have hx0 : last + 1 ≤ x.f0 ∧ x.f0 ≤ 9999 := by simpa [inF] using h1
    have hrec2 : recF [] (-1) r = (waysF bs x.f2 && recF (insN x.f0 bs) x.f0 (r.drop (k + 1))) := by rw [hrec, recF]; simp only [h1, h2, h3, Bool.true_and]
    clear hrec
    with_reducible refine xc_skip ?_
    with_reducible repeat (first | refine xq_then ?_ | refine xq_blockN ?_ | refine xq_scopeN ?_)
    with_reducible repeat refine xc_seq ?_
    with_reducible refine xc_region ?_
    refine xo_fa T_ rfl rfl rfl rfl rfl ?_
    refine xo_load0 T_ rfl rfl rfl (by repeat (first | exact List.Mem.head _ | apply List.Mem.tail | apply List.mem_append_right)) rfl rfl ?_
    refine xo_len T_ rfl rfl rfl rfl ?_
    refine xo_mv rfl rfl rfl ?_
    with_reducible refine xo_nil ?_
    with_reducible repeat (first | refine xq_then ?_ | refine xq_blockN ?_ | refine xq_scopeN ?_)
    with_reducible repeat refine xc_seq ?_
    with_reducible refine xc_block ?_
    refine xc_loop (γ := Nat) (fun j => j ≤ x.f2.length ∧ waysF bs x.f2 = waysF bs (x.f2.drop j)) (fun j => [(0, .slice (some ad) r.length c), (3, .int .i64 last), (4, .map (some b13)), (6, .pointer (some ⟨b6, 0, none⟩)), (14, .slice (some ad) r.length c), (15, .int .i64 (r.length : Int)), (16, .int .i64 (k : Int)), (50, .slice A2 x.f2.length c2), (51, .int .i64 (x.f2.length : Int)), (52, .int .i64 (j : Int))])
      (fun _ => [(b6, true, cel (recV x A2 c2) 43), (b13, true, hmap (setV bs))]) (fun j => x.f2.length - j) 0 ⟨Nat.zero_le _, rfl⟩ ⟨rfl, rfl, rfl, rfl, rfl, rfl, rfl, rfl, rfl, rfl, trivial⟩ (by repeat (first | exact List.Sublist.refl _ | apply List.Sublist.cons_cons | apply List.Sublist.cons | exact List.nil_sublist _)) ?_
    rintro j ⟨hj, hways⟩
    with_reducible repeat refine xc_seq ?_
    with_reducible refine xc_region ?_
    refine xo_lss rfl rfl rfl rfl ?_
    with_reducible refine xo_nil ?_
    with_reducible repeat (first | refine xq_then ?_ | refine xq_blockN ?_ | refine xq_scopeN ?_)
    with_reducible repeat refine xc_seq ?_
    refine xc_cond rfl (fun hj2 => ?_) (fun hj2 => ?_)
    · have hjl : j < x.f2.length := by have := of_decide_eq_true hj2; omega
      obtain ⟨ad2, A3, c3, rfl, r2, hc3, hw3⟩ := way_at hw2 j hjl
      rw [drop_at x.f2 [] j hjl] at hways
      generalize x.f2.getD j [] = way at *
      have hm3 := hw3.2.1
      with_reducible refine xc_skip ?_
      with_reducible repeat (first | refine xq_then ?_ | refine xq_blockN ?_ | refine xq_scopeN ?_)
      with_reducible repeat refine xc_seq ?_
      with_reducible refine xc_block ?_
      with_reducible repeat refine xc_seq ?_
      with_reducible refine xc_region ?_
      refine xo_ia T_ rfl rfl rfl rfl rfl ⟨by omega, by omega⟩ rfl ?_
      refine xo_loadR0 T_ rfl rfl rfl (by first | assumption | exact RO.fld (by assumption) rfl) rfl ?_
      refine xo_asg rfl rfl rfl ?_
      with_reducible refine xo_nil ?_
      with_reducible repeat (first | refine xq_then ?_ | refine xq_blockN ?_ | refine xq_scopeN ?_)
      with_reducible repeat refine xc_seq ?_
      with_reducible refine xc_region ?_
      refine xo_asg rfl rfl rfl ?_
      with_reducible refine xo_nil ?_
      with_reducible repeat (first | refine xq_then ?_ | refine xq_blockN ?_ | refine xq_scopeN ?_)
      with_reducible repeat refine xc_seq ?_
      with_reducible refine xc_region ?_
      refine xo_mv rfl rfl rfl ?_
      refine xo_len T_ rfl rfl rfl rfl ?_
      refine xo_mv rfl rfl rfl ?_
      with_reducible refine xo_nil ?_
      with_reducible repeat (first | refine xq_then ?_ | refine xq_blockN ?_ | refine xq_scopeN ?_)
      with_reducible repeat refine xc_seq ?_
      with_reducible refine xc_block ?_
      refine xc_loop (γ := Nat × Int) (fun q => q.1 ≤ way.length ∧ wayF bs (-1) way = wayF bs q.2 (way.drop q.1)) (fun q => [(0, .slice (some ad) r.length c), (3, .int .i64 last), (4, .map (some b13)), (6, .pointer (some ⟨b6, 0, none⟩)), (14, .slice (some ad) r.length c), (15, .int .i64 (r.length : Int)), (16, .int .i64 (k : Int)), (50, .slice (some ad2) x.f2.length c2), (51, .int .i64 (x.f2.length : Int)), (52, .int .i64 (j : Int)), (9, .slice A3 way.length c3), (10, .int .i64 q.2), (56, .slice A3 way.length c3), (57, .int .i64 (way.length : Int)), (58, .int .i64 (q.1 : Int))])
        (fun _ => [(b6, true, cel (recV x (some ad2) c2) 43), (b13, true, hmap (setV bs))]) (fun q => way.length - q.1) (0, -1) ⟨Nat.zero_le _, rfl⟩ ⟨rfl, rfl, rfl, rfl, rfl, rfl, rfl, rfl, rfl, rfl, rfl, rfl, rfl, rfl, rfl, trivial⟩ (by repeat (first | exact List.Sublist.refl _ | apply List.Sublist.cons_cons | apply List.Sublist.cons | exact List.nil_sublist _)) ?_
      rintro ⟨i, past⟩ ⟨hi, hway⟩
      simp only at hi hway ⊢
      with_reducible repeat refine xc_seq ?_
      with_reducible refine xc_region ?_
      refine xo_lss rfl rfl rfl rfl ?_
      with_reducible refine xo_nil ?_
      with_reducible repeat (first | refine xq_then ?_ | refine xq_blockN ?_ | refine xq_scopeN ?_)
      with_reducible repeat refine xc_seq ?_
      refine xc_cond rfl (fun hi2 => ?_) (fun hi2 => ?_)
      · have hil : i < way.length := by have := of_decide_eq_true hi2; omega
        obtain ⟨ad3, rfl, r3⟩ := int_at hw3 i hil
        rw [drop_at way 0 i hil] at hway
        generalize way.getD i 0 = y at *
        with_reducible refine xc_skip ?_
        with_reducible repeat (first | refine xq_then ?_ | refine xq_blockN ?_ | refine xq_scopeN ?_)
        with_reducible repeat refine xc_seq ?_
        with_reducible refine xc_block ?_
        with_reducible repeat refine xc_seq ?_
        with_reducible refine xc_region ?_
        refine xo_ia T_ rfl rfl rfl rfl rfl ⟨by omega, by omega⟩ rfl ?_
        refine xo_loadR0 T_ rfl rfl rfl (by first | assumption | exact RO.fld (by assumption) rfl) rfl ?_
        refine xo_asg rfl rfl rfl ?_
        with_reducible refine xo_nil ?_
        with_reducible repeat (first | refine xq_then ?_ | refine xq_blockN ?_ | refine xq_scopeN ?_)
        cases h4 : decide (y ≤ past) <;> cases h5 : !decide (y ∈ bs)
        all_goals
          with_reducible repeat refine xc_seq ?_
          with_reducible refine xc_region ?_
          refine xo_mv rfl rfl rfl ?_
          refine xo_mv rfl rfl rfl ?_
          refine xo_leq rfl rfl rfl rfl ?_
          refine xo_mv rfl rfl rfl ?_
          refine xo_as (i := 65) rfl (congrArg Value.bool h4) ?_
          first
            | refine xo_not rfl rfl ?_
            | (refine xo_mv rfl rfl rfl ?_)
          first
            | refine xo_not rfl rfl ?_
            | (refine xo_mv rfl rfl rfl ?_)
          first
            | refine xo_not rfl rfl ?_
            | (refine xo_sget T_ rfl rfl rfl rfl rfl rfl (by repeat (first | exact List.Mem.head _ | apply List.Mem.tail | apply List.mem_append_right)) rfl ?_)
          first
            | refine xo_not rfl rfl ?_
            | (refine xo_notOp rfl rfl rfl ?_)
          first | refine xo_pickT rfl rfl rfl rfl ?_ | refine xo_pickF rfl rfl rfl rfl ?_
          first | refine xo_as (i := 70) rfl (congrArg Value.bool h5) ?_ | skip
          with_reducible refine xo_nil ?_
          with_reducible repeat (first | refine xq_then ?_ | refine xq_blockN ?_ | refine xq_scopeN ?_)
          with_reducible repeat refine xc_seq ?_
          first | refine xc_condT rfl ?_ | refine xc_condF rfl ?_
        rotate_left
        iterate 3
          · with_reducible repeat refine xc_seq ?_
            with_reducible refine xc_region ?_
            refine xo_asg rfl rfl rfl ?_
            with_reducible refine xo_nil ?_
            with_reducible repeat (first | refine xq_then ?_ | refine xq_blockN ?_ | refine xq_scopeN ?_)
            with_reducible repeat refine xc_seq ?_
            with_reducible refine xc_ret ?_
            with_reducible repeat (first | refine xq_thenR ?_ | refine xq_blockR ?_ | refine xq_scopeR ?_)
            refine xq_ret1 rfl rfl fun w' hw => ⟨?_, hw.kx.below⟩
            rw [recordedF, hrec2, hways, waysF, List.all_cons, hway, wayF]
            simp only [h4, h5, Bool.or_true, Bool.true_or, Bool.or_false, Bool.not_true, Bool.false_and]
        with_reducible refine xc_skip ?_
        with_reducible repeat (first | refine xq_then ?_ | refine xq_blockN ?_ | refine xq_scopeN ?_)
        with_reducible repeat refine xc_seq ?_
        with_reducible refine xc_region ?_
        refine xo_mv rfl rfl rfl ?_
        refine xo_asg rfl rfl rfl ?_
        with_reducible refine xo_nil ?_
        with_reducible repeat (first | refine xq_then ?_ | refine xq_blockN ?_ | refine xq_scopeN ?_)
        with_reducible repeat refine xc_seq ?_
        with_reducible refine xc_region ?_
        refine xo_add rfl rfl rfl (by omega) rfl ?_
        refine xo_mv rfl rfl rfl ?_
        with_reducible refine xo_nil ?_
        with_reducible repeat (first | refine xq_then ?_ | refine xq_blockN ?_ | refine xq_scopeN ?_)
        refine xq_again _ _ _ _ _ (i + 1, y) ⟨hil, ?_⟩ (by first | omega | (simp only; omega)) ⟨rfl, rfl, rfl, rfl, rfl, rfl, rfl, rfl, rfl, rfl, rfl, rfl, rfl, rfl, rfl, trivial⟩ (by repeat (first | exact List.Sublist.refl _ | apply List.Sublist.cons_cons | apply List.Sublist.cons | exact List.nil_sublist _))
        rw [hway, wayF]
        simp only [h4, h5, Bool.or_self, Bool.not_false, Bool.true_and]
      · have hige : ¬ i < way.length := by have := of_decide_eq_false hi2; omega
        rw [List.drop_of_length_le (by omega)] at hway
        with_reducible refine xc_exit ?_
        with_reducible repeat (first | refine xq_blockX ?_ | refine xq_thenE ?_ | refine xq_blockE rfl ?_ | refine xq_scopeE ?_)
        with_reducible repeat (first | refine xq_then ?_ | refine xq_blockN ?_ | refine xq_scopeN ?_)
        with_reducible repeat refine xc_seq ?_
        with_reducible refine xc_region ?_
        refine xo_mv rfl rfl rfl ?_
        refine xo_len T_ rfl rfl rfl rfl ?_
        refine xo_bs1 T_ rfl rfl rfl rfl rfl rfl rfl rfl (fun b75 => ?_)
        refine xo_callB (fs := []) (cs := []) rfl rfl rfl in_enters rfl (fun w1 hw1 => in_calls hw1 _ _ _ (by repeat (first | exact List.Mem.head _ | apply List.Mem.tail | apply List.mem_append_right))) ?_
        refine xo_notOp rfl rfl rfl ?_
        with_reducible refine xo_nil ?_
        with_reducible repeat (first | refine xq_then ?_ | refine xq_blockN ?_ | refine xq_scopeN ?_)
        with_reducible repeat refine xc_seq ?_
        refine xc_cond rfl (fun h6 => ?_) (fun h6 => ?_)
        · with_reducible repeat refine xc_seq ?_
          with_reducible refine xc_region ?_
          refine xo_asg rfl rfl rfl ?_
          with_reducible refine xo_nil ?_
          with_reducible repeat (first | refine xq_then ?_ | refine xq_blockN ?_ | refine xq_scopeN ?_)
          with_reducible repeat refine xc_seq ?_
          with_reducible refine xc_ret ?_
          with_reducible repeat (first | refine xq_thenR ?_ | refine xq_blockR ?_ | refine xq_scopeR ?_)
          refine xq_ret1 rfl rfl fun w' hw => ⟨?_, hw.kx.below⟩
          rw [recordedF, hrec2, hways, waysF, List.all_cons]
          simp only [Bool.not_eq_true'] at h6
          simp only [h6, Bool.and_false, Bool.false_and]
        · with_reducible refine xc_skip ?_
          with_reducible repeat (first | refine xq_then ?_ | refine xq_blockN ?_ | refine xq_scopeN ?_)
          with_reducible repeat refine xc_seq ?_
          with_reducible refine xc_region ?_
          refine xo_add rfl rfl rfl (by omega) rfl ?_
          refine xo_mv rfl rfl rfl ?_
          with_reducible refine xo_nil ?_
          with_reducible repeat (first | refine xq_then ?_ | refine xq_blockN ?_ | refine xq_scopeN ?_)
          refine xq_again _ _ _ _ _ (j + 1) ⟨hjl, ?_⟩ (by first | omega | (simp only; omega)) ⟨rfl, rfl, rfl, rfl, rfl, rfl, rfl, rfl, rfl, rfl, trivial⟩ (by repeat (first | exact List.Sublist.refl _ | apply List.Sublist.cons_cons | apply List.Sublist.cons | exact List.nil_sublist _))
          rw [hways, waysF, List.all_cons, hway, wayF]
          simp only [Bool.not_eq_false'] at h6
          simp only [h6, Bool.and_self, Bool.true_and]
          rfl
    · have hjge : ¬ j < x.f2.length := by have := of_decide_eq_false hj2; omega
      rw [List.drop_of_length_le (by omega)] at hways
      with_reducible refine xc_exit ?_
      with_reducible repeat (first | refine xq_blockX ?_ | refine xq_thenE ?_ | refine xq_blockE rfl ?_ | refine xq_scopeE ?_)
      with_reducible repeat (first | refine xq_then ?_ | refine xq_blockN ?_ | refine xq_scopeN ?_)
      with_reducible repeat refine xc_seq ?_
      with_reducible refine xc_region ?_
      refine xo_mv rfl rfl rfl ?_
      refine xo_fa T_ rfl rfl rfl rfl rfl ?_
      refine xo_load0 T_ rfl rfl rfl (by repeat (first | exact List.Mem.head _ | apply List.Mem.tail | apply List.mem_append_right)) rfl rfl ?_
      refine xo_sins T_ rfl rfl rfl rfl rfl rfl (by repeat (first | exact List.Mem.head _ | apply List.Mem.tail | apply List.mem_append_right)) (by repeat (first | exact Upd.head | apply Upd.tail | apply Upd.app)) rfl ?_
      with_reducible refine xo_nil ?_
      with_reducible repeat (first | refine xq_then ?_ | refine xq_blockN ?_ | refine xq_scopeN ?_)
      with_reducible repeat refine xc_seq ?_
      with_reducible refine xc_region ?_
      refine xo_fa T_ rfl rfl rfl rfl rfl ?_
      refine xo_load0 T_ rfl rfl rfl (by repeat (first | exact List.Mem.head _ | apply List.Mem.tail | apply List.mem_append_right)) rfl rfl ?_
      refine xo_asg rfl rfl rfl ?_
      with_reducible refine xo_nil ?_
      with_reducible repeat (first | refine xq_then ?_ | refine xq_blockN ?_ | refine xq_scopeN ?_)
      with_reducible repeat refine xc_seq ?_
      with_reducible refine xc_region ?_
      refine xo_add rfl rfl rfl (by omega) rfl ?_
      refine xo_mv rfl rfl rfl ?_
      with_reducible refine xo_nil ?_
      with_reducible repeat (first | refine xq_then ?_ | refine xq_blockN ?_ | refine xq_scopeN ?_)
      refine xq_again _ _ _ _ _ (k + 1, insN x.f0 bs, x.f0) ⟨hlt, by simp only; omega, hx0.2, ?_⟩ (by first | omega | (simp only; omega)) ⟨rfl, rfl, rfl, rfl, rfl, rfl, trivial⟩ (by repeat (first | exact List.Sublist.refl _ | apply List.Sublist.cons_cons | apply List.Sublist.cons | exact List.nil_sublist _))
      rw [hrec2, hways]
      rfl
  · have hge : ¬ k < r.length := by have := of_decide_eq_false h; omega
    rw [List.drop_of_length_le (by omega)] at hrec
    with_reducible refine xc_exit ?_
    with_reducible repeat (first | refine xq_blockX ?_ | refine xq_thenE ?_ | refine xq_blockE rfl ?_ | refine xq_scopeE ?_)
    with_reducible repeat (first | refine xq_then ?_ | refine xq_blockN ?_ | refine xq_scopeN ?_)
    with_reducible repeat refine xc_seq ?_
    with_reducible refine xc_region ?_
    refine xo_mv rfl rfl rfl ?_
    refine xo_len T_ rfl rfl rfl rfl ?_
    refine xo_leq rfl rfl rfl rfl ?_
    refine xo_asg rfl rfl rfl ?_
    with_reducible refine xo_nil ?_
    with_reducible repeat (first | refine xq_then ?_ | refine xq_blockN ?_ | refine xq_scopeN ?_)
    with_reducible repeat refine xc_seq ?_
    with_reducible refine xc_ret ?_
    with_reducible repeat (first | refine xq_thenR ?_ | refine xq_blockR ?_ | refine xq_scopeR ?_)
    refine xq_ret1 rfl rfl fun w' hw => ⟨?_, hw.kx.below⟩
    have e : decide ((r.length : Int) ≤ 12) = decide (r.length ≤ 12) := decide_eq_decide.2 (by omega)
    rw [recordedF, hrec, recF, Bool.true_and, ← e]
end Go.Proofs.Ytcmepdamemnbkaa
namespace Go.Proofs.Ytcmepdamemnbkaa
open Go.RowKit Go.Proofs.YtcmepdamemnbkaaW.PrintWords
set_option linter.unusedVariables false
set_option linter.unusedSimpArgs false
theorem known1_calls (x : RecT) (A2 : Option Addr) (c2 : Nat) (id : Int) (B : Nat) (w : World) (hB : w.cell? ⟨B, 0, none⟩ = some (.int .i64 id)) :
    Calls Try.prog 54 #[.agg (recV x A2 c2).toArray, .pointer (some ⟨B, 0, none⟩)] w fun e w' => e = .returned (.bool (decide (x.f0 = id))) ∧ Below w.heap.size w w' := by
  have r1 := ro1 hB
  refine x_calls (X := XNone) Try.func54 rfl rfl rfl ?_
  with_reducible repeat refine xc_seq ?_
  with_reducible refine xc_region ?_
  refine xo_box rfl rfl rfl rfl (fun b2 => ?_)
  refine xo_asg rfl rfl rfl ?_
  with_reducible refine xo_nil ?_
  with_reducible repeat (first | refine xq_then ?_ | refine xq_blockN ?_ | refine xq_scopeN ?_)
  with_reducible repeat refine xc_seq ?_
  with_reducible refine xc_region ?_
  refine xo_fa T_ rfl rfl rfl rfl rfl ?_
  refine xo_load0 T_ rfl rfl rfl (by repeat (first | exact List.Mem.head _ | apply List.Mem.tail | apply List.mem_append_right)) rfl rfl ?_
  refine xo_loadR0 T_ rfl rfl rfl (by first | assumption | exact RO.fld (by assumption) rfl) rfl ?_
  refine xo_eql rfl rfl rfl rfl ?_
  refine xo_asg rfl rfl rfl ?_
  with_reducible refine xo_nil ?_
  with_reducible repeat (first | refine xq_then ?_ | refine xq_blockN ?_ | refine xq_scopeN ?_)
  with_reducible repeat refine xc_seq ?_
  with_reducible refine xc_ret ?_
  with_reducible repeat (first | refine xq_thenR ?_ | refine xq_blockR ?_ | refine xq_scopeR ?_)
  exact xq_ret1 rfl rfl fun w' hw => ⟨rfl, hw.kx.below⟩
/-- a closure over records that answers p -/
def AsksR (P : Program) (w : World) (g : Nat) (cs : List Value) (p : RecT → Bool) : Prop :=
  ∀ (x : RecT) (A2 : Option Addr) (c2 : Nat) (W : World), Below w.heap.size w W → Calls P g ([Value.agg (recV x A2 c2).toArray] ++ cs).toArray W fun e W' => e = .returned (.bool (p x)) ∧ Below W.heap.size W W'
theorem indexR_calls (p : RecT → Bool) (g : Nat) (cs : List Value) (eg : ∀ args w, (callFunc g args).run Try.prog w = .ok (.enter g args) w) (A : Option Addr) (c : Nat) (zs : List RecT) (w : World)
    (hr : Kd.C recK w A zs.length zs) (hp : AsksR Try.prog w g cs p) :
    Calls Try.prog 62 #[.slice A zs.length c, .func (.func g) #[] cs.toArray] w fun e w' => e = .returned (.int .i64 (idxF p zs 0)) ∧ Below w.heap.size w w' := by
  have hn := hr.2.1
  refine x_calls (X := XNone) Try.func62 rfl rfl rfl ?_
  with_reducible repeat refine xc_seq ?_
  with_reducible refine xc_region ?_
  refine xo_asg rfl rfl rfl ?_
  with_reducible refine xo_nil ?_
  with_reducible repeat (first | refine xq_then ?_ | refine xq_blockN ?_ | refine xq_scopeN ?_)
  with_reducible repeat refine xc_seq ?_
  with_reducible refine xc_region ?_
  refine xo_mv rfl rfl rfl ?_
  refine xo_len T_ rfl rfl rfl rfl ?_
  refine xo_mv rfl rfl rfl ?_
  with_reducible refine xo_nil ?_
  with_reducible repeat (first | refine xq_then ?_ | refine xq_blockN ?_ | refine xq_scopeN ?_)
  with_reducible repeat refine xc_seq ?_
  with_reducible refine xc_block ?_
  refine xc_loop (γ := Nat) (fun k => k ≤ zs.length ∧ ∀ j, j < k → p (zs.getD j zRec) = false) (fun k => [(0, .slice A zs.length c), (1, .func (.func g) #[] cs.toArray), (6, .slice A zs.length c), (7, .int .i64 (zs.length : Int)), (8, .int .i64 (k : Int))]) (fun _ => []) (fun k => zs.length - k) 0
    ⟨Nat.zero_le _, fun j hj => absurd hj (Nat.not_lt_zero _)⟩ ⟨rfl, rfl, rfl, rfl, rfl, trivial⟩ (by repeat (first | exact List.Sublist.refl _ | apply List.Sublist.cons_cons | apply List.Sublist.cons | exact List.nil_sublist _)) ?_
  rintro k ⟨hk, hno⟩
  with_reducible repeat refine xc_seq ?_
  with_reducible refine xc_region ?_
  refine xo_lss rfl rfl rfl rfl ?_
  with_reducible refine xo_nil ?_
  with_reducible repeat (first | refine xq_then ?_ | refine xq_blockN ?_ | refine xq_scopeN ?_)
  with_reducible repeat refine xc_seq ?_
  refine xc_cond rfl (fun h => ?_) (fun h => ?_)
  · have hlt : k < zs.length := by have := of_decide_eq_true h; omega
    obtain ⟨ad, A2, c2, rfl, r1, _, _⟩ := rec_at hr k hlt
    with_reducible refine xc_skip ?_
    with_reducible repeat (first | refine xq_then ?_ | refine xq_blockN ?_ | refine xq_scopeN ?_)
    with_reducible repeat refine xc_seq ?_
    with_reducible refine xc_block ?_
    with_reducible repeat refine xc_seq ?_
    with_reducible refine xc_region ?_
    refine xo_mv rfl rfl rfl ?_
    refine xo_asg rfl rfl rfl ?_
    with_reducible refine xo_nil ?_
    with_reducible repeat (first | refine xq_then ?_ | refine xq_blockN ?_ | refine xq_scopeN ?_)
    with_reducible repeat refine xc_seq ?_
    with_reducible refine xc_region ?_
    refine xo_mv rfl rfl rfl ?_
    refine xo_mv rfl rfl rfl ?_
    refine xo_mv rfl rfl rfl ?_
    refine xo_ia T_ rfl rfl rfl rfl rfl ⟨by omega, by omega⟩ rfl ?_
    refine xo_loadRN T_ rfl rfl rfl (by assumption) rfl rfl ?_
    refine xo_callB (fs := []) rfl rfl rfl eg rfl (fun w1 hw1 => hp _ _ _ _ hw1.kx.below) ?_
    with_reducible refine xo_nil ?_
    with_reducible repeat (first | refine xq_then ?_ | refine xq_blockN ?_ | refine xq_scopeN ?_)
    with_reducible repeat refine xc_seq ?_
    refine xc_cond rfl (fun h2 => ?_) (fun h2 => ?_)
    · with_reducible repeat refine xc_seq ?_
      with_reducible refine xc_region ?_
      refine xo_mv rfl rfl rfl ?_
      refine xo_asg rfl rfl rfl ?_
      with_reducible refine xo_nil ?_
      with_reducible repeat (first | refine xq_then ?_ | refine xq_blockN ?_ | refine xq_scopeN ?_)
      with_reducible repeat refine xc_seq ?_
      with_reducible refine xc_ret ?_
      with_reducible repeat (first | refine xq_thenR ?_ | refine xq_blockR ?_ | refine xq_scopeR ?_)
      exact xq_ret1 rfl rfl fun w' hw => ⟨by rw [idxF_hit p zRec zs k 0 hlt h2 hno]; simp, hw.kx.below⟩
    · with_reducible refine xc_skip ?_
      with_reducible repeat (first | refine xq_then ?_ | refine xq_blockN ?_ | refine xq_scopeN ?_)
      with_reducible repeat refine xc_seq ?_
      with_reducible refine xc_region ?_
      refine xo_add rfl rfl rfl (by omega) rfl ?_
      refine xo_mv rfl rfl rfl ?_
      with_reducible refine xo_nil ?_
      with_reducible repeat (first | refine xq_then ?_ | refine xq_blockN ?_ | refine xq_scopeN ?_)
      refine xq_again _ _ _ _ _ (k + 1) ⟨by omega, fun j hj => ?_⟩ (by omega) ⟨rfl, rfl, rfl, rfl, rfl, trivial⟩ (by repeat (first | exact List.Sublist.refl _ | apply List.Sublist.cons_cons | apply List.Sublist.cons | exact List.nil_sublist _))
      by_cases e : j = k
      · subst e; exact h2
      · exact hno j (by omega)
  · have hge : ¬ k < zs.length := by have := of_decide_eq_false h; omega
    with_reducible refine xc_exit ?_
    with_reducible repeat (first | refine xq_blockX ?_ | refine xq_thenE ?_ | refine xq_blockE rfl ?_ | refine xq_scopeE ?_)
    with_reducible repeat (first | refine xq_then ?_ | refine xq_blockN ?_ | refine xq_scopeN ?_)
    with_reducible repeat refine xc_seq ?_
    with_reducible refine xc_region ?_
    refine xo_asg rfl rfl rfl ?_
    with_reducible refine xo_nil ?_
    with_reducible repeat (first | refine xq_then ?_ | refine xq_blockN ?_ | refine xq_scopeN ?_)
    with_reducible repeat refine xc_seq ?_
    with_reducible refine xc_ret ?_
    with_reducible repeat (first | refine xq_thenR ?_ | refine xq_blockR ?_ | refine xq_scopeR ?_)
    refine xq_ret1 rfl rfl fun w' hw => ⟨?_, hw.kx.below⟩
    rw [idxF_miss p zRec zs 0 (fun j hj => hno j (by omega))]
theorem containsR_calls (p : RecT → Bool) (g : Nat) (cs : List Value) (eg : ∀ args w, (callFunc g args).run Try.prog w = .ok (.enter g args) w) (A : Option Addr) (c : Nat) (zs : List RecT) (w : World)
    (hr : Kd.C recK w A zs.length zs) (hp : AsksR Try.prog w g cs p) :
    Calls Try.prog 53 #[.slice A zs.length c, .func (.func g) #[] cs.toArray] w fun e w' => e = .returned (.bool (zs.any p)) ∧ Below w.heap.size w w' := by
  rw [← idxF_any p zs 0]
  have eg2 := enters_of Try.func62 (by kernel_rfl) rfl
  refine x_calls (X := XNone) Try.func53 rfl rfl rfl ?_
  with_reducible repeat refine xc_seq ?_
  with_reducible refine xc_region ?_
  refine xo_asg rfl rfl rfl ?_
  with_reducible refine xo_nil ?_
  with_reducible repeat (first | refine xq_then ?_ | refine xq_blockN ?_ | refine xq_scopeN ?_)
  with_reducible repeat refine xc_seq ?_
  with_reducible refine xc_region ?_
  refine xo_mv rfl rfl rfl ?_
  refine xo_mv rfl rfl rfl ?_
  refine xo_callB (fs := []) (cs := []) rfl rfl rfl eg2 rfl (fun w1 hw1 => indexR_calls p g cs eg A c zs w1 (Kd.C_below hr hw1.kx.below) (fun x A2 c2 W hW => hp x A2 c2 W (below_step hw1.kx.below hW))) ?_
  refine xo_geq rfl rfl rfl rfl ?_
  refine xo_asg rfl rfl rfl ?_
  with_reducible refine xo_nil ?_
  with_reducible repeat (first | refine xq_then ?_ | refine xq_blockN ?_ | refine xq_scopeN ?_)
  with_reducible repeat refine xc_seq ?_
  with_reducible refine xc_ret ?_
  with_reducible repeat (first | refine xq_thenR ?_ | refine xq_blockR ?_ | refine xq_scopeR ?_)
  exact (xq_ret1 rfl rfl fun w' hw => ⟨rfl, hw.kx.below⟩)
theorem known_calls (A : Option Addr) (c : Nat) (r : List RecT) (id : Int) (w : World) (hr : Kd.C recK w A r.length r) :
    Calls Try.prog 33 #[.slice A r.length c, .int .i64 id] w fun e w' => e = .returned (.bool (knownF r id)) ∧ Below w.heap.size w w' := by
  have eg : ∀ args w, (callFunc 54 args).run Try.prog w = .ok (.enter 54 args) w := enters_of Try.func54 (by kernel_rfl) rfl
  have eg2 := enters_of Try.func53 (by kernel_rfl) rfl
  refine x_calls (X := XNone) Try.func33 rfl rfl rfl ?_
  with_reducible repeat refine xc_seq ?_
  with_reducible refine xc_region ?_
  refine xo_box rfl rfl rfl rfl (fun b3 => ?_)
  refine xo_asg rfl rfl rfl ?_
  with_reducible refine xo_nil ?_
  with_reducible repeat (first | refine xq_then ?_ | refine xq_blockN ?_ | refine xq_scopeN ?_)
  with_reducible repeat refine xc_seq ?_
  with_reducible refine xc_region ?_
  refine xo_mv rfl rfl rfl ?_
  refine xo_mkf rfl rfl rfl rfl ?_
  refine xo_callB (fs := []) (cs := []) rfl rfl rfl eg2 rfl (fun w1 hw1 => containsR_calls (fun x => decide (x.f0 = id)) _ [.pointer (some ⟨b3, 0, none⟩)] eg A c r w1 (Kd.C_below hr hw1.kx.below)
    (fun x A2 c2 W hW => known1_calls x A2 c2 id b3 W ((hw1.below hW).cell (List.Mem.head _) 0 rfl))) ?_
  refine xo_asg rfl rfl rfl ?_
  with_reducible refine xo_nil ?_
  with_reducible repeat (first | refine xq_then ?_ | refine xq_blockN ?_ | refine xq_scopeN ?_)
  with_reducible repeat refine xc_seq ?_
  with_reducible refine xc_ret ?_
  with_reducible repeat (first | refine xq_thenR ?_ | refine xq_blockR ?_ | refine xq_scopeR ?_)
  exact (xq_ret1 rfl rfl fun w' hw => ⟨rfl, hw.kx.below⟩)
theorem known_enters : ∀ args w, (callFunc 33 args).run Try.prog w = .ok (.enter 33 args) w := enters_of Try.func33 (by kernel_rfl) rfl
theorem recorded_enters : ∀ args w, (callFunc 31 args).run Try.prog w = .ok (.enter 31 args) w := enters_of Try.func31 (by kernel_rfl) rfl

def lettersF (r : List RecT) : Int → Int → List LetT → Bool
  | _, _, [] => true
  | last, i, x :: l => (inF (last + 1) 9999 x.f0 && inF 0 100000 x.f1 && knownF r x.f2 && inF 1 2 x.f3 && !decide (20 ≤ i)) && lettersF r x.f0 (i + 1) l
def checkF (r : List RecT) (l : List LetT) : Int := if recordedF r then (if lettersF r (-1) 0 l then 0 else 81) else 80
set_option maxHeartbeats 4000000 in
theorem check_calls (A B : Option Addr) (c c' : Nat) (r : List RecT) (l : List LetT) (w : World) (hr : Kd.C recK w A r.length r) (hl : Kd.C letK w B l.length l) (hk : Bytes r) (hkl : BytesL l) :
    Calls Try.prog 11 #[.slice A r.length c, .slice B l.length c'] w fun e w' => e = .returned (.int .i64 (checkF r l)) ∧ Below w.heap.size w w' := by
  have hn := hl.2.1
  refine x_calls (X := XNone) Try.func11 rfl rfl rfl ?_
  with_reducible repeat refine xc_seq ?_
  with_reducible refine xc_region ?_
  refine xo_asg rfl rfl rfl ?_
  with_reducible refine xo_nil ?_
  with_reducible repeat (first | refine xq_then ?_ | refine xq_blockN ?_ | refine xq_scopeN ?_)
  with_reducible repeat refine xc_seq ?_
  with_reducible refine xc_region ?_
  refine xo_mv rfl rfl rfl ?_
  refine xo_callB (fs := []) (cs := []) rfl rfl rfl recorded_enters rfl (fun w1 hw1 => recorded_calls A c r w1 (Kd.C_below hr hw1.kx.below) hk) ?_
  refine xo_notOp rfl rfl rfl ?_
  with_reducible refine xo_nil ?_
  with_reducible repeat (first | refine xq_then ?_ | refine xq_blockN ?_ | refine xq_scopeN ?_)
  with_reducible repeat refine xc_seq ?_
  refine xc_cond rfl (fun hrec => ?_) (fun hrec => ?_)
  · with_reducible repeat refine xc_seq ?_
    with_reducible refine xc_region ?_
    refine xo_asg rfl rfl rfl ?_
    with_reducible refine xo_nil ?_
    with_reducible repeat (first | refine xq_then ?_ | refine xq_blockN ?_ | refine xq_scopeN ?_)
    with_reducible repeat refine xc_seq ?_
    with_reducible refine xc_ret ?_
    with_reducible repeat (first | refine xq_thenR ?_ | refine xq_blockR ?_ | refine xq_scopeR ?_)
    refine xq_ret1 rfl rfl fun w' hw => ⟨?_, hw.kx.below⟩
    simp only [Bool.not_eq_true'] at hrec
    rw [checkF, hrec]
    rfl
  with_reducible refine xc_skip ?_
  with_reducible repeat (first | refine xq_then ?_ | refine xq_blockN ?_ | refine xq_scopeN ?_)
  simp only [Bool.not_eq_false'] at hrec
  with_reducible repeat refine xc_seq ?_
  with_reducible refine xc_region ?_
  refine xo_asg rfl rfl rfl ?_
  with_reducible refine xo_nil ?_
  with_reducible repeat (first | refine xq_then ?_ | refine xq_blockN ?_ | refine xq_scopeN ?_)
  with_reducible repeat refine xc_seq ?_
  with_reducible refine xc_region ?_
  refine xo_mv rfl rfl rfl ?_
  refine xo_len T_ rfl rfl rfl rfl ?_
  refine xo_mv rfl rfl rfl ?_
  with_reducible refine xo_nil ?_
  with_reducible repeat (first | refine xq_then ?_ | refine xq_blockN ?_ | refine xq_scopeN ?_)
  with_reducible repeat refine xc_seq ?_
  with_reducible refine xc_block ?_
  refine xc_loop (γ := Nat × Int) (fun q => q.1 ≤ l.length ∧ -1 ≤ q.2 ∧ q.2 ≤ 9999 ∧ lettersF r (-1) 0 l = lettersF r q.2 (q.1 : Int) (l.drop q.1)) (fun q => [(0, .slice A r.length c), (5, .int .i64 q.2), (11, .slice B l.length c'), (12, .int .i64 (l.length : Int)), (13, .int .i64 (q.1 : Int))]) (fun q => []) (fun q => l.length - q.1) (0, -1)
    ⟨Nat.zero_le _, by simp, by simp, rfl⟩ ⟨rfl, rfl, rfl, rfl, rfl, trivial⟩ (by repeat (first | exact List.Sublist.refl _ | apply List.Sublist.cons_cons | apply List.Sublist.cons | exact List.nil_sublist _)) ?_
  rintro ⟨k, last⟩ ⟨hk1, hl0, hl1, hlet⟩
  simp only at hk1 hl0 hl1 hlet ⊢
  with_reducible repeat refine xc_seq ?_
  with_reducible refine xc_region ?_
  refine xo_lss rfl rfl rfl rfl ?_
  with_reducible refine xo_nil ?_
  with_reducible repeat (first | refine xq_then ?_ | refine xq_blockN ?_ | refine xq_scopeN ?_)
  with_reducible repeat refine xc_seq ?_
  refine xc_cond rfl (fun h => ?_) (fun h => ?_)
  · have hlt : k < l.length := by have := of_decide_eq_true h; omega
    obtain ⟨ad, rfl, r1⟩ := let_at hl k hlt
    have hby := hkl _ (getD_mem l zLet k hlt)
    rw [drop_at l zLet k hlt] at hlet
    generalize l.getD k zLet = x at *
    with_reducible refine xc_skip ?_
    with_reducible repeat (first | refine xq_then ?_ | refine xq_blockN ?_ | refine xq_scopeN ?_)
    with_reducible repeat refine xc_seq ?_
    with_reducible refine xc_block ?_
    with_reducible repeat refine xc_seq ?_
    with_reducible refine xc_region ?_
    refine xo_mv rfl rfl rfl ?_
    refine xo_ia T_ rfl rfl rfl rfl rfl ⟨by omega, by omega⟩ rfl ?_
    refine xo_loadRN T_ rfl rfl rfl (by assumption) rfl rfl ?_
    refine xo_alloc T_ rfl rfl rfl rfl (fun b7 => ?_)
    refine xo_asg rfl rfl rfl ?_
    refine xo_store T_ rfl rfl rfl rfl (by repeat (first | exact List.Mem.head _ | apply List.Mem.tail | apply List.mem_append_right)) rfl rfl rfl rfl (by repeat (first | exact Upd.head | apply Upd.tail | apply Upd.app)) rfl ?_
    with_reducible refine xo_nil ?_
    with_reducible repeat (first | refine xq_then ?_ | refine xq_blockN ?_ | refine xq_scopeN ?_)
    cases h1 : !inF (last + 1) 9999 x.f0 <;> cases h2 : !inF 0 100000 x.f1 <;> cases h3 : !knownF r x.f2 <;> cases h4 : !inF 1 2 x.f3 <;> cases h5 : decide (20 ≤ (k : Int))
    all_goals
      with_reducible repeat refine xc_seq ?_
      with_reducible refine xc_region ?_
      refine xo_mv rfl rfl rfl ?_
      refine xo_add rfl rfl rfl (by omega) rfl ?_
      refine xo_fa T_ rfl rfl rfl rfl rfl ?_
      refine xo_load0 T_ rfl rfl rfl (by repeat (first | exact List.Mem.head _ | apply List.Mem.tail | apply List.mem_append_right)) rfl rfl ?_
      refine xo_bs1 T_ rfl rfl rfl rfl rfl rfl rfl rfl (fun b22 => ?_)
      refine xo_callB (fs := []) (cs := []) rfl rfl rfl in_enters rfl (fun w1 hw1 => in_calls hw1 _ _ _ (by repeat (first | exact List.Mem.head _ | apply List.Mem.tail | apply List.mem_append_right))) ?_
      refine xo_notOp rfl rfl rfl ?_
      refine xo_mv rfl rfl rfl ?_
      refine xo_as (i := 25) rfl (congrArg Value.bool h1) ?_
      first
        | refine xo_not rfl rfl ?_
        | (refine xo_fa T_ rfl rfl rfl rfl rfl ?_)
      first
        | refine xo_not rfl rfl ?_
        | (refine xo_load0 T_ rfl rfl rfl (by repeat (first | exact List.Mem.head _ | apply List.Mem.tail | apply List.mem_append_right)) rfl rfl ?_)
      first
        | refine xo_not rfl rfl ?_
        | (refine xo_bs1 T_ rfl rfl rfl rfl rfl rfl rfl rfl (fun b28 => ?_))
      first
        | refine xo_not rfl rfl ?_
        | (refine xo_callB (fs := []) (cs := []) rfl rfl rfl in_enters rfl (fun w1 hw1 => in_calls hw1 _ _ _ (by repeat (first | exact List.Mem.head _ | apply List.Mem.tail | apply List.mem_append_right))) ?_)
      first
        | refine xo_not rfl rfl ?_
        | (refine xo_notOp rfl rfl rfl ?_)
      first | refine xo_pickT rfl rfl rfl rfl ?_ | refine xo_pickF rfl rfl rfl rfl ?_
      refine xo_mv rfl rfl rfl ?_
      first | refine xo_as (i := 32) rfl (congrArg Value.bool h2) ?_ | skip
      first
        | refine xo_not rfl rfl ?_
        | (refine xo_mv rfl rfl rfl ?_)
      first
        | refine xo_not rfl rfl ?_
        | (refine xo_fa T_ rfl rfl rfl rfl rfl ?_)
      first
        | refine xo_not rfl rfl ?_
        | (refine xo_load0 T_ rfl rfl rfl (by repeat (first | exact List.Mem.head _ | apply List.Mem.tail | apply List.mem_append_right)) rfl rfl ?_)
      first
        | refine xo_not rfl rfl ?_
        | (refine xo_callB (fs := []) (cs := []) rfl rfl rfl known_enters rfl (fun w1 hw1 => known_calls A c r _ w1 (Kd.C_below hr hw1.kx.below)) ?_)
      first
        | refine xo_not rfl rfl ?_
        | (refine xo_notOp rfl rfl rfl ?_)
      first | refine xo_pickT rfl rfl rfl rfl ?_ | refine xo_pickF rfl rfl rfl rfl ?_
      refine xo_mv rfl rfl rfl ?_
      first | refine xo_as (i := 39) rfl (congrArg Value.bool h3) ?_ | skip
      first
        | refine xo_not rfl rfl ?_
        | (refine xo_fa T_ rfl rfl rfl rfl rfl ?_)
      first
        | refine xo_not rfl rfl ?_
        | (refine xo_load0 T_ rfl rfl rfl (by repeat (first | exact List.Mem.head _ | apply List.Mem.tail | apply List.mem_append_right)) rfl rfl ?_)
      first
        | refine xo_not rfl rfl ?_
        | (refine xo_conv T_ rfl rfl rfl rfl (IntWalk.i64_in _ ⟨by omega, by omega⟩) rfl ?_)
      first
        | refine xo_not rfl rfl ?_
        | (refine xo_bs1 T_ rfl rfl rfl rfl rfl rfl rfl rfl (fun b43 => ?_))
      first
        | refine xo_not rfl rfl ?_
        | (refine xo_callB (fs := []) (cs := []) rfl rfl rfl in_enters rfl (fun w1 hw1 => in_calls hw1 _ _ _ (by repeat (first | exact List.Mem.head _ | apply List.Mem.tail | apply List.mem_append_right))) ?_)
      first
        | refine xo_not rfl rfl ?_
        | (refine xo_notOp rfl rfl rfl ?_)
      first | refine xo_pickT rfl rfl rfl rfl ?_ | refine xo_pickF rfl rfl rfl rfl ?_
      refine xo_mv rfl rfl rfl ?_
      first | refine xo_as (i := 47) rfl (congrArg Value.bool h4) ?_ | skip
      first
        | refine xo_not rfl rfl ?_
        | (refine xo_mv rfl rfl rfl ?_)
      first
        | refine xo_not rfl rfl ?_
        | (refine xo_geq rfl rfl rfl rfl ?_)
      first | refine xo_pickT rfl rfl rfl rfl ?_ | refine xo_pickF rfl rfl rfl rfl ?_
      first | refine xo_as (i := 50) rfl (congrArg Value.bool h5) ?_ | skip
      with_reducible refine xo_nil ?_
      with_reducible repeat (first | refine xq_then ?_ | refine xq_blockN ?_ | refine xq_scopeN ?_)
      with_reducible repeat refine xc_seq ?_
      first | refine xc_condT rfl ?_ | refine xc_condF rfl ?_
    rotate_left
    iterate 31
      · with_reducible repeat refine xc_seq ?_
        with_reducible refine xc_region ?_
        refine xo_asg rfl rfl rfl ?_
        with_reducible refine xo_nil ?_
        with_reducible repeat (first | refine xq_then ?_ | refine xq_blockN ?_ | refine xq_scopeN ?_)
        with_reducible repeat refine xc_seq ?_
        with_reducible refine xc_ret ?_
        with_reducible repeat (first | refine xq_thenR ?_ | refine xq_blockR ?_ | refine xq_scopeR ?_)
        refine xq_ret1 rfl rfl fun w' hw => ⟨?_, hw.kx.below⟩
        rw [checkF, hrec, hlet, lettersF]
        simp only [Bool.not_eq_true', Bool.not_eq_false'] at h1 h2 h3 h4
        simp only [h1, h2, h3, h4, h5, Bool.false_and, Bool.and_false, Bool.not_true, Bool.not_false, Bool.true_and, Bool.and_true]
        rfl
    simp only [Bool.not_eq_true', Bool.not_eq_false'] at h1 h2 h3 h4
    have hx0 : last + 1 ≤ x.f0 ∧ x.f0 ≤ 9999 := by simpa [inF] using h1
    with_reducible refine xc_skip ?_
    with_reducible repeat (first | refine xq_then ?_ | refine xq_blockN ?_ | refine xq_scopeN ?_)
    with_reducible repeat refine xc_seq ?_
    with_reducible refine xc_region ?_
    refine xo_fa T_ rfl rfl rfl rfl rfl ?_
    refine xo_load0 T_ rfl rfl rfl (by repeat (first | exact List.Mem.head _ | apply List.Mem.tail | apply List.mem_append_right)) rfl rfl ?_
    refine xo_asg rfl rfl rfl ?_
    with_reducible refine xo_nil ?_
    with_reducible repeat (first | refine xq_then ?_ | refine xq_blockN ?_ | refine xq_scopeN ?_)
    with_reducible repeat refine xc_seq ?_
    with_reducible refine xc_region ?_
    refine xo_add rfl rfl rfl (by omega) rfl ?_
    refine xo_mv rfl rfl rfl ?_
    with_reducible refine xo_nil ?_
    with_reducible repeat (first | refine xq_then ?_ | refine xq_blockN ?_ | refine xq_scopeN ?_)
    refine xq_again _ _ _ _ _ (k + 1, x.f0) ⟨hlt, by simp only; omega, hx0.2, ?_⟩ (by first | omega | (simp only; omega)) ⟨rfl, rfl, rfl, rfl, rfl, trivial⟩ (by repeat (first | exact List.Sublist.refl _ | apply List.Sublist.cons_cons | apply List.Sublist.cons | exact List.nil_sublist _))
    rw [hlet, lettersF]
    simp only [h1, h2, h3, h4, h5, Bool.not_false, Bool.true_and, Bool.and_self]
    rfl
  · have hge : ¬ k < l.length := by have := of_decide_eq_false h; omega
    rw [List.drop_of_length_le (by omega)] at hlet
    with_reducible refine xc_exit ?_
    with_reducible repeat (first | refine xq_blockX ?_ | refine xq_thenE ?_ | refine xq_blockE rfl ?_ | refine xq_scopeE ?_)
    with_reducible repeat (first | refine xq_then ?_ | refine xq_blockN ?_ | refine xq_scopeN ?_)
    with_reducible repeat refine xc_seq ?_
    with_reducible refine xc_region ?_
    refine xo_asg rfl rfl rfl ?_
    with_reducible refine xo_nil ?_
    with_reducible repeat (first | refine xq_then ?_ | refine xq_blockN ?_ | refine xq_scopeN ?_)
    with_reducible repeat refine xc_seq ?_
    with_reducible refine xc_ret ?_
    with_reducible repeat (first | refine xq_thenR ?_ | refine xq_blockR ?_ | refine xq_scopeR ?_)
    refine xq_ret1 rfl rfl fun w' hw => ⟨?_, hw.kx.below⟩
    rw [checkF, hrec, hlet]
    rfl
theorem check_enters : ∀ args w, (callFunc 11 args).run Try.prog w = .ok (.enter 11 args) w := enters_of Try.func11 (by kernel_rfl) rfl
end Go.Proofs.Ytcmepdamemnbkaa
