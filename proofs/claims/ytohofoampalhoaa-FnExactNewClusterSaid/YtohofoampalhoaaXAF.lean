/- The seat's types and functions as X has them; the kernel checks each against the program. -/
import Derived.Test.YtohofoampalhoaaXSlG
set_option linter.unusedVariables false
set_option linter.unusedSimpArgs false
set_option maxRecDepth 100000
namespace Go.Proofs.Ytohofoampalhoaa.X
open Go
def tl : List (Nat × TI) := [(1, ⟨.other, 1, 8, [.nilfn]⟩),
  (2, ⟨(.int .i64), 1, 8, [(.int .i64 0)]⟩),
  (3, ⟨(.int .i64), 1, 8, [(.int .i64 0)]⟩),
  (4, ⟨.bool, 1, 1, [(.bool false)]⟩),
  (5, ⟨(.int .u8), 1, 1, [(.int .u8 0)]⟩),
  (6, ⟨(.int .u8), 1, 1, [(.int .u8 0)]⟩),
  (7, ⟨(.struct [(0, 2), (1, 3), (2, 4), (3, 6)]), 4, 24, [(.int .i64 0), (.int .i64 0), (.bool false), (.int .u8 0)]⟩),
  (8, ⟨(.struct [(0, 2), (1, 3), (2, 4), (3, 6)]), 4, 24, [(.int .i64 0), (.int .i64 0), (.bool false), (.int .u8 0)]⟩),
  (9, ⟨.str, 1, 16, [(.str (ByteArray.mk #[]))]⟩),
  (10, ⟨.str, 1, 16, [(.str (ByteArray.mk #[]))]⟩),
  (11, ⟨.str, 1, 16, [(.str (ByteArray.mk #[]))]⟩),
  (12, ⟨(.int .u64), 1, 8, [(.int .u64 0)]⟩),
  (15, ⟨.ptr, 1, 8, [.nilptr]⟩),
  (16, ⟨.ptr, 1, 8, [.nilptr]⟩),
  (17, ⟨.ptr, 1, 8, [.nilptr]⟩),
  (21, ⟨(.int .i32), 1, 4, [(.int .i32 0)]⟩),
  (22, ⟨(.slice 3), 1, 24, [.nil]⟩),
  (23, ⟨(.struct [(0, 3), (1, 3), (2, 22)]), 3, 40, [(.int .i64 0), (.int .i64 0), .nil]⟩),
  (24, ⟨(.struct [(0, 3), (1, 3), (2, 22)]), 3, 40, [(.int .i64 0), (.int .i64 0), .nil]⟩),
  (25, ⟨(.slice 68), 1, 24, [.nil]⟩),
  (26, ⟨(.slice 92), 1, 24, [.nil]⟩),
  (27, ⟨(.struct [(0, 24), (3, 25), (4, 26)]), 5, 88, [(.int .i64 0), (.int .i64 0), .nil, .nil, .nil]⟩),
  (28, ⟨(.struct [(0, 24), (3, 25), (4, 26)]), 5, 88, [(.int .i64 0), (.int .i64 0), .nil, .nil, .nil]⟩),
  (30, ⟨.other, 1, 8, [.nilfn]⟩),
  (31, ⟨.other, 1, 8, [.nilfn]⟩),
  (32, ⟨.other, 1, 8, [.nilfn]⟩),
  (33, ⟨.other, 1, 8, [.nilfn]⟩),
  (34, ⟨(.struct [(0, 3), (1, 3), (2, 22)]), 3, 40, [(.int .i64 0), (.int .i64 0), .nil]⟩),
  (35, ⟨(.slice 95), 1, 24, [.nil]⟩),
  (36, ⟨(.slice 101), 1, 24, [.nil]⟩),
  (37, ⟨(.struct [(0, 34), (3, 35), (4, 36)]), 5, 88, [(.int .i64 0), (.int .i64 0), .nil, .nil, .nil]⟩),
  (38, ⟨(.struct [(0, 34), (3, 35), (4, 36)]), 5, 88, [(.int .i64 0), (.int .i64 0), .nil, .nil, .nil]⟩),
  (39, ⟨.other, 1, 8, [.nilfn]⟩),
  (40, ⟨.other, 1, 8, [.nilfn]⟩),
  (41, ⟨.other, 1, 8, [.nilfn]⟩),
  (42, ⟨.other, 1, 8, [.nilfn]⟩),
  (44, ⟨.other, 1, 8, [.nilfn]⟩),
  (45, ⟨.other, 1, 8, [.nilfn]⟩),
  (46, ⟨.other, 1, 8, [.nilfn]⟩),
  (47, ⟨(.slice 60), 1, 24, [.nil]⟩),
  (48, ⟨.other, 1, 8, [.nilfn]⟩),
  (49, ⟨(.slice 4), 1, 24, [.nil]⟩),
  (51, ⟨.other, 1, 8, [.nilfn]⟩),
  (52, ⟨(.slice 62), 1, 24, [.nil]⟩),
  (53, ⟨.other, 1, 8, [.nilfn]⟩),
  (54, ⟨.other, 1, 8, [.nilfn]⟩),
  (55, ⟨.other, 1, 8, [.nilfn]⟩),
  (56, ⟨.other, 1, 8, [.nilfn]⟩),
  (57, ⟨.other, 1, 8, [.nilfn]⟩),
  (58, ⟨.other, 1, 8, [.nilfn]⟩),
  (59, ⟨(.struct [(0, 3), (1, 3), (2, 3), (3, 3)]), 4, 32, [(.int .i64 0), (.int .i64 0), (.int .i64 0), (.int .i64 0)]⟩),
  (60, ⟨(.struct [(0, 3), (1, 3), (2, 3), (3, 3)]), 4, 32, [(.int .i64 0), (.int .i64 0), (.int .i64 0), (.int .i64 0)]⟩),
  (61, ⟨.other, 1, 8, [.nilfn]⟩),
  (62, ⟨(.struct [(0, 3), (1, 3), (2, 3), (3, 3)]), 4, 32, [(.int .i64 0), (.int .i64 0), (.int .i64 0), (.int .i64 0)]⟩),
  (63, ⟨.other, 1, 8, [.nilfn]⟩),
  (64, ⟨.other, 1, 8, [.nilfn]⟩),
  (65, ⟨.other, 1, 8, [.nilfn]⟩),
  (66, ⟨.other, 1, 8, [.nilfn]⟩),
  (67, ⟨(.struct [(0, 24), (3, 26), (4, 22), (5, 3)]), 6, 96, [(.int .i64 0), (.int .i64 0), .nil, .nil, .nil, (.int .i64 0)]⟩),
  (68, ⟨(.struct [(0, 24), (3, 26), (4, 22), (5, 3)]), 6, 96, [(.int .i64 0), (.int .i64 0), .nil, .nil, .nil, (.int .i64 0)]⟩),
  (69, ⟨.other, 1, 8, [.nilfn]⟩),
  (70, ⟨.other, 1, 8, [.nilfn]⟩),
  (71, ⟨.other, 1, 8, [.nilfn]⟩),
  (72, ⟨.other, 1, 8, [.nilfn]⟩),
  (73, ⟨.other, 1, 8, [.nilfn]⟩),
  (74, ⟨.other, 1, 8, [.nilfn]⟩),
  (75, ⟨.other, 1, 8, [.nilfn]⟩),
  (76, ⟨.other, 1, 8, [.nilfn]⟩),
  (77, ⟨.other, 1, 8, [.nilfn]⟩),
  (78, ⟨.other, 1, 8, [.nilfn]⟩),
  (79, ⟨.other, 1, 8, [.nilfn]⟩),
  (80, ⟨.other, 1, 8, [.nilfn]⟩),
  (81, ⟨.other, 1, 8, [.nilfn]⟩),
  (82, ⟨.other, 1, 8, [.nilfn]⟩),
  (83, ⟨.other, 1, 8, [.nilfn]⟩),
  (84, ⟨.other, 1, 8, [.nilfn]⟩),
  (85, ⟨.other, 1, 8, [.nilfn]⟩),
  (86, ⟨.other, 1, 8, [.nilfn]⟩),
  (87, ⟨.other, 1, 8, [.nilfn]⟩),
  (88, ⟨.other, 1, 8, [.nilfn]⟩),
  (89, ⟨.other, 1, 8, [.nilfn]⟩),
  (90, ⟨.other, 1, 8, [.nilfn]⟩),
  (91, ⟨(.struct [(0, 3), (1, 3)]), 2, 16, [(.int .i64 0), (.int .i64 0)]⟩),
  (92, ⟨(.struct [(0, 3), (1, 3)]), 2, 16, [(.int .i64 0), (.int .i64 0)]⟩),
  (93, ⟨.other, 1, 8, [.nilfn]⟩),
  (94, ⟨(.struct [(0, 34), (3, 36), (4, 22), (5, 3)]), 6, 96, [(.int .i64 0), (.int .i64 0), .nil, .nil, .nil, (.int .i64 0)]⟩),
  (95, ⟨(.struct [(0, 34), (3, 36), (4, 22), (5, 3)]), 6, 96, [(.int .i64 0), (.int .i64 0), .nil, .nil, .nil, (.int .i64 0)]⟩),
  (96, ⟨.other, 1, 8, [.nilfn]⟩),
  (97, ⟨.other, 1, 8, [.nilfn]⟩),
  (98, ⟨.other, 1, 8, [.nilfn]⟩),
  (99, ⟨.other, 1, 8, [.nilfn]⟩),
  (100, ⟨.other, 1, 8, [.nilfn]⟩),
  (101, ⟨(.struct [(0, 3), (1, 3)]), 2, 16, [(.int .i64 0), (.int .i64 0)]⟩),
  (102, ⟨.other, 1, 8, [.nilfn]⟩),
  (103, ⟨.other, 1, 8, [.nilfn]⟩),
  (104, ⟨.other, 1, 8, [.nilfn]⟩),
  (105, ⟨.other, 1, 8, [.nilfn]⟩),
  (106, ⟨.other, 1, 8, [.nilfn]⟩),
  (107, ⟨.other, 1, 8, [.nilfn]⟩),
  (108, ⟨.other, 1, 8, [.nilfn]⟩),
  (109, ⟨.other, 1, 8, [.nilfn]⟩),
  (110, ⟨.other, 1, 8, [.nilfn]⟩),
  (111, ⟨.ptr, 1, 8, [.nilptr]⟩),
  (112, ⟨.ptr, 1, 8, [.nilptr]⟩),
  (113, ⟨.other, 1, 8, [.nilfn]⟩),
  (115, ⟨.other, 1, 8, [.nilfn]⟩),
  (116, ⟨.other, 1, 8, [.nilfn]⟩),
  (117, ⟨.other, 1, 8, [.nilfn]⟩),
  (118, ⟨(.int .u64), 1, 8, [(.int .u64 0)]⟩),
  (119, ⟨.other, 1, 8, [.nilfn]⟩),
  (120, ⟨.other, 1, 8, [.nilfn]⟩),
  (121, ⟨.other, 1, 8, [.nilfn]⟩),
  (122, ⟨.other, 1, 8, [.nilfn]⟩),
  (125, ⟨(.array 0 16), 0, 0, []⟩),
  (128, ⟨.other, 1, 8, [.nilfn]⟩),
  (129, ⟨(.int .u32), 1, 4, [(.int .u32 0)]⟩),
  (130, ⟨(.int .u8), 1, 1, [(.int .u8 0)]⟩),
  (131, ⟨(.int .u8), 1, 1, [(.int .u8 0)]⟩),
  (132, ⟨.other, 1, 8, [.nilfn]⟩),
  (133, ⟨.ptr, 1, 8, [.nilptr]⟩),
  (134, ⟨(.int .i32), 1, 4, [(.int .i32 0)]⟩),
  (135, ⟨(.int .i32), 1, 4, [(.int .i32 0)]⟩)]
abbrev T : Tab := tabL tl
theorem tl_ok : ∀ p ∈ tl, tabOf Try.prog p.1 = some p.2 := by
  simp only [tl, List.forall_mem_cons]
  exact ⟨by kernel_rfl, by kernel_rfl, by kernel_rfl, by kernel_rfl, by kernel_rfl, by kernel_rfl, by kernel_rfl, by kernel_rfl, by kernel_rfl, by kernel_rfl, by kernel_rfl, by kernel_rfl, by kernel_rfl, by kernel_rfl, by kernel_rfl, by kernel_rfl, by kernel_rfl, by kernel_rfl, by kernel_rfl, by kernel_rfl, by kernel_rfl, by kernel_rfl, by kernel_rfl, by kernel_rfl, by kernel_rfl, by kernel_rfl, by kernel_rfl, by kernel_rfl, by kernel_rfl, by kernel_rfl, by kernel_rfl, by kernel_rfl, by kernel_rfl, by kernel_rfl, by kernel_rfl, by kernel_rfl, by kernel_rfl, by kernel_rfl, by kernel_rfl, by kernel_rfl, by kernel_rfl, by kernel_rfl, by kernel_rfl, by kernel_rfl, by kernel_rfl, by kernel_rfl, by kernel_rfl, by kernel_rfl, by kernel_rfl, by kernel_rfl, by kernel_rfl, by kernel_rfl, by kernel_rfl, by kernel_rfl, by kernel_rfl, by kernel_rfl, by kernel_rfl, by kernel_rfl, by kernel_rfl, by kernel_rfl, by kernel_rfl, by kernel_rfl, by kernel_rfl, by kernel_rfl, by kernel_rfl, by kernel_rfl, by kernel_rfl, by kernel_rfl, by kernel_rfl, by kernel_rfl, by kernel_rfl, by kernel_rfl, by kernel_rfl, by kernel_rfl, by kernel_rfl, by kernel_rfl, by kernel_rfl, by kernel_rfl, by kernel_rfl, by kernel_rfl, by kernel_rfl, by kernel_rfl, by kernel_rfl, by kernel_rfl, by kernel_rfl, by kernel_rfl, by kernel_rfl, by kernel_rfl, by kernel_rfl, by kernel_rfl, by kernel_rfl, by kernel_rfl, by kernel_rfl, by kernel_rfl, by kernel_rfl, by kernel_rfl, by kernel_rfl, by kernel_rfl, by kernel_rfl, by kernel_rfl, by kernel_rfl, by kernel_rfl, by kernel_rfl, by kernel_rfl, by kernel_rfl, by kernel_rfl, by kernel_rfl, by kernel_rfl, by kernel_rfl, by kernel_rfl, by kernel_rfl, by kernel_rfl, by kernel_rfl, by kernel_rfl, by kernel_rfl, by kernel_rfl, by kernel_rfl, by kernel_rfl, by kernel_rfl, by kernel_rfl, by kernel_rfl, by kernel_rfl, fun _ h => by cases h⟩
/-- spec.l1In -/
def x37_1 : XCode := (.seq (.reg false [⟨(some 7), (.mv (.t 0)), none, 0⟩, ⟨(some 8), (.mv (.t 1)), none, 0⟩, ⟨(some 9), (.bin .geq (.t 7) (.t 8)), none, 0⟩, ⟨(some 10), (.mv (.t 9)), none, 0⟩, ⟨(some 11), (.mv (.t 0)), (some (10, true)), 0⟩, ⟨(some 12), (.mv (.t 2)), (some (10, true)), 0⟩, ⟨(some 13), (.bin .leq (.t 11) (.t 12)), (some (10, true)), 0⟩, ⟨(some 14), (.pick (.t 10) (.t 13) (.c (.bool false))), none, 0⟩, ⟨(some 6), (.mv (.t 14)), none, 0⟩]) .ret)
def x37 : XFn := ⟨(.seq (.reg false [⟨(some 6), (.mv (.c (.bool false))), none, 0⟩]) x37_1), 15, [(.t 6)]⟩
theorem ok37 : FnOk Try.prog T 37 x37 := ⟨Try.f37, [], Try.func37, by decide +kernel, by kernel_rfl⟩
/-- spec.l17All -/
def x38_1 : XCode := (.reg false [⟨(some 10), (.mv (.t 3)), none, 0⟩, ⟨(some 11), (.mv (.t 4)), none, 0⟩, ⟨(some 12), (.buildS 3 1 [(.int .i64 0)] [(0, (1, (.t 11)))]), none, 0⟩, ⟨(some 13), (.app 3 1 8 (.t 10) (.t 12)), none, 0⟩, ⟨(some 3), (.mv (.t 13)), none, 0⟩])
def x38_2 : XCode := (.seq (.block 1 x38_1) (.reg false [⟨(some 8), (.mv (.t 4)), none, 0⟩, ⟨(some 9), (.bin .add (.t 8) (.c (.int .i64 1))), none, 0⟩, ⟨(some 4), (.mv (.t 9)), none, 0⟩]))
def x38_3 : XCode := (.seq (.seq (.reg false [⟨(some 5), (.mv (.t 4)), none, 0⟩, ⟨(some 6), (.mv (.t 0)), none, 0⟩, ⟨(some 7), (.bin .lss (.t 5) (.t 6)), none, 0⟩]) (.cond (.t 7) .skip (.exit 0))) x38_2)
def x38_4 : XCode := (.block 0 (.loop [0, 3, 4] x38_3))
def x38_5 : XCode := x38_4
def x38_6 : XCode := (.seq (.seq (.reg false [⟨(some 4), (.mv (.c (.int .i64 0))), none, 0⟩]) x38_5) (.seq (.reg false [⟨(some 14), (.mv (.t 3)), none, 0⟩, ⟨(some 2), (.mv (.t 14)), none, 0⟩]) .ret))
def x38_7 : XCode := (.seq (.reg false [⟨(some 3), (.mv (.c .nil)), none, 0⟩]) x38_6)
def x38 : XFn := ⟨(.seq (.reg false [⟨(some 2), (.mv (.c .nil)), none, 0⟩]) x38_7), 15, [(.t 2)]⟩
theorem ok38 : FnOk Try.prog T 38 x38 := ⟨Try.f38, [.loop [0, 3, 4]], Try.func38, by decide +kernel, by kernel_rfl⟩
/-- spec.NewCluster -/
def x9_1 : XCode := (.cond (.t 8) (.seq (.reg false [⟨(some 9), (.build [(.int .i64 0), (.int .i64 0), .nil, .nil, .nil] []), none, 0⟩, ⟨none, (.st 5 (.t 2) (.t 9)), none, 0⟩, ⟨(some 3), (.mv (.c (.bool false))), none, 0⟩]) .ret) .skip)
def x9_2 : XCode := (.reg true [⟨(some 21), (.mv (.t 0)), none, 4⟩, ⟨(some 24), (.mv (.t 0)), none, 1⟩, ⟨(some 25), (.mkS 3 1 8 [(.int .i64 0)] (.t 24) (.t 24)), none, 1⟩, ⟨(some 19), (.fa 3 (.t 4)), none, 1⟩, ⟨(some 20), (.ld none (.t 19)), none, 1⟩, ⟨(some 22), (.call (.c (.fn 38 [])) [(.t 21)]), none, 2⟩, ⟨(some 23), (.build [(.int .i64 0), (.int .i64 0), .nil] [(2, (1, (.t 22)))]), none, 4⟩, ⟨(some 26), (.build [(.int .i64 0), (.int .i64 0), .nil, .nil, .nil, (.int .i64 0)] [(0, (3, (.t 23))), (4, (1, (.t 25)))]), none, 4⟩, ⟨(some 27), (.buildS 68 1 [(.int .i64 0), (.int .i64 0), .nil, .nil, .nil, (.int .i64 0)] [(0, (6, (.t 26)))]), none, 4⟩, ⟨(some 28), (.app 68 6 96 (.t 20) (.t 27)), none, 3⟩, ⟨(some 29), (.fa 3 (.t 4)), none, 4⟩, ⟨none, (.st 1 (.t 29) (.t 28)), none, 3⟩])
def x9_3 : XCode := (.seq (.block 1 x9_2) (.reg false [⟨(some 17), (.mv (.t 5)), none, 0⟩, ⟨(some 18), (.bin .add (.t 17) (.c (.int .i64 1))), none, 0⟩, ⟨(some 5), (.mv (.t 18)), none, 0⟩]))
def x9_4 : XCode := (.seq (.seq (.reg false [⟨(some 14), (.mv (.t 5)), none, 0⟩, ⟨(some 15), (.mv (.t 0)), none, 0⟩, ⟨(some 16), (.bin .lss (.t 14) (.t 15)), none, 0⟩]) (.cond (.t 16) .skip (.exit 0))) x9_3)
def x9_5 : XCode := (.block 0 (.loop [0, 2, 4, 5] x9_4))
def x9_6 : XCode := x9_5
def x9_7 : XCode := (.seq (.seq (.reg false [⟨(some 5), (.mv (.c (.int .i64 0))), none, 0⟩]) x9_6) (.seq (.reg false [⟨(some 30), (.ld (some 5) (.t 4)), none, 0⟩, ⟨none, (.st 5 (.t 2) (.t 30)), none, 0⟩, ⟨(some 3), (.mv (.c (.bool true))), none, 0⟩]) .ret))
def x9_8 : XCode := (.seq (.reg false [⟨(some 10), (.mv (.t 0)), none, 0⟩, ⟨(some 11), (.call (.c (.fn 38 [])) [(.t 10)]), none, 0⟩, ⟨(some 12), (.build [(.int .i64 0), (.int .i64 0), .nil] [(2, (1, (.t 11)))]), none, 0⟩, ⟨(some 13), (.build [(.int .i64 0), (.int .i64 0), .nil, .nil, .nil] [(0, (3, (.t 12)))]), none, 0⟩, ⟨(some 4), (.new 28 [(.int .i64 0), (.int .i64 0), .nil, .nil, .nil]), none, 0⟩, ⟨none, (.st 5 (.t 4) (.t 13)), none, 0⟩]) x9_7)
def x9_9 : XCode := (.seq (.seq (.reg false [⟨(some 6), (.mv (.t 0)), none, 0⟩, ⟨(some 7), (.call (.c (.fn 37 [])) [(.t 6), (.c (.int .i64 2)), (.c (.int .i64 4))]), none, 0⟩, ⟨(some 8), (.un .not (.t 7)), none, 0⟩]) x9_1) x9_8)
def x9 : XFn := ⟨(.seq (.reg false [⟨(some 2), (.new 28 [(.int .i64 0), (.int .i64 0), .nil, .nil, .nil]), none, 0⟩, ⟨(some 3), (.mv (.c (.bool false))), none, 0⟩]) x9_9), 31, [(.cell 2 (some 5)), (.t 3)]⟩
theorem ok9 : FnOk Try.prog T 9 x9 := ⟨Try.f9, [.loop [0, 2, 4, 5], .draw [2, 5, 6, 0, 1, 3, 4, 7, 8, 9, 10, 11] [4, 1, 1, 1, 1, 2, 4, 4, 4, 3, 4, 3]], Try.func9, by decide +kernel, by kernel_rfl⟩
/-- impl.in -/
def x39_1 : XCode := (.seq (.reg false [⟨(some 7), (.mv (.t 0)), none, 0⟩, ⟨(some 8), (.mv (.t 1)), none, 0⟩, ⟨(some 9), (.bin .geq (.t 7) (.t 8)), none, 0⟩, ⟨(some 10), (.mv (.t 9)), none, 0⟩, ⟨(some 11), (.mv (.t 0)), (some (10, true)), 0⟩, ⟨(some 12), (.mv (.t 2)), (some (10, true)), 0⟩, ⟨(some 13), (.bin .leq (.t 11) (.t 12)), (some (10, true)), 0⟩, ⟨(some 14), (.pick (.t 10) (.t 13) (.c (.bool false))), none, 0⟩, ⟨(some 6), (.mv (.t 14)), none, 0⟩]) .ret)
def x39 : XFn := ⟨(.seq (.reg false [⟨(some 6), (.mv (.c (.bool false))), none, 0⟩]) x39_1), 15, [(.t 6)]⟩
theorem ok39 : FnOk Try.prog T 39 x39 := ⟨Try.f39, [], Try.func39, by decide +kernel, by kernel_rfl⟩
/-- impl.copyView -/
def x67_1 : XCode := (.seq (.reg false [⟨(some 3), (.buildS 3 0 [] []), none, 0⟩, ⟨(some 4), (.fa 2 (.t 1)), none, 0⟩, ⟨(some 5), (.ld none (.t 4)), none, 0⟩, ⟨(some 6), (.app 3 1 8 (.t 3) (.t 5)), none, 0⟩, ⟨(some 7), (.fa 2 (.t 1)), none, 0⟩, ⟨none, (.st 1 (.t 7) (.t 6)), none, 0⟩]) (.seq (.reg false [⟨(some 8), (.ld (some 3) (.t 1)), none, 0⟩, ⟨none, (.st 3 (.t 2) (.t 8)), none, 0⟩]) .ret))
def x67 : XFn := ⟨(.seq (.reg false [⟨(some 1), (.box 24 3 (.t 0)), none, 0⟩, ⟨(some 2), (.new 24 [(.int .i64 0), (.int .i64 0), .nil]), none, 0⟩]) x67_1), 9, [(.cell 2 (some 3))]⟩
theorem ok67 : FnOk Try.prog T 67 x67 := ⟨Try.f67, [], Try.func67, by decide +kernel, by kernel_rfl⟩
/-- impl.newCluster -/
def x40_1 : XCode := (.reg false [⟨(some 10), (.fa 0 (.t 3)), none, 0⟩, ⟨(some 11), (.fa 2 (.t 10)), none, 0⟩, ⟨(some 12), (.ld none (.t 11)), none, 0⟩, ⟨(some 13), (.mv (.t 4)), none, 0⟩, ⟨(some 14), (.buildS 3 1 [(.int .i64 0)] [(0, (1, (.t 13)))]), none, 0⟩, ⟨(some 15), (.app 3 1 8 (.t 12) (.t 14)), none, 0⟩, ⟨(some 16), (.fa 0 (.t 3)), none, 0⟩, ⟨(some 17), (.fa 2 (.t 16)), none, 0⟩, ⟨none, (.st 1 (.t 17) (.t 15)), none, 0⟩])
def x40_2 : XCode := (.seq (.reg false [⟨(some 9), (.mv (.t 7)), none, 0⟩, ⟨(some 4), (.mv (.t 9)), none, 0⟩]) x40_1)
def x40_3 : XCode := (.block 0 (.loop [0, 2, 3, 6, 7] (.seq (.reg false [⟨(some 8), (.bin .lss (.t 7) (.t 6)), none, 0⟩]) (.seq (.cond (.t 8) .skip (.exit 0)) (.seq (.block 1 x40_2) (.reg false [⟨(some 18), (.bin .add (.t 7) (.c (.int .i64 1))), none, 0⟩, ⟨(some 7), (.mv (.t 18)), none, 0⟩]))))))
def x40_4 : XCode := x40_3
def x40_5 : XCode := (.reg true [⟨(some 24), (.fa 0 (.t 3)), none, 4⟩, ⟨(some 25), (.ld (some 3) (.t 24)), none, 4⟩, ⟨(some 27), (.mv (.t 0)), none, 1⟩, ⟨(some 28), (.mkS 3 1 8 [(.int .i64 0)] (.t 27) (.t 27)), none, 1⟩, ⟨(some 22), (.fa 3 (.t 3)), none, 1⟩, ⟨(some 23), (.ld none (.t 22)), none, 1⟩, ⟨(some 26), (.call (.c (.fn 67 [])) [(.t 25)]), none, 2⟩, ⟨(some 29), (.build [(.int .i64 0), (.int .i64 0), .nil, .nil, .nil, (.int .i64 0)] [(0, (3, (.t 26))), (4, (1, (.t 28)))]), none, 4⟩, ⟨(some 30), (.buildS 68 1 [(.int .i64 0), (.int .i64 0), .nil, .nil, .nil, (.int .i64 0)] [(0, (6, (.t 29)))]), none, 4⟩, ⟨(some 31), (.app 68 6 96 (.t 23) (.t 30)), none, 3⟩, ⟨(some 32), (.fa 3 (.t 3)), none, 4⟩, ⟨none, (.st 1 (.t 32) (.t 31)), none, 3⟩])
def x40_6 : XCode := (.block 2 (.loop [0, 2, 3, 19, 20] (.seq (.reg false [⟨(some 21), (.bin .lss (.t 20) (.t 19)), none, 0⟩]) (.seq (.cond (.t 21) .skip (.exit 2)) (.seq (.block 3 x40_5) (.reg false [⟨(some 33), (.bin .add (.t 20) (.c (.int .i64 1))), none, 0⟩, ⟨(some 20), (.mv (.t 33)), none, 0⟩]))))))
def x40_7 : XCode := x40_6
def x40_8 : XCode := (.seq (.seq (.reg false [⟨(some 19), (.mv (.t 0)), none, 0⟩, ⟨(some 20), (.mv (.c (.int .i64 0))), none, 0⟩]) x40_7) (.seq (.reg false [⟨(some 34), (.ld (some 5) (.t 3)), none, 0⟩, ⟨none, (.st 5 (.t 2) (.t 34)), none, 0⟩]) .ret))
def x40_9 : XCode := (.seq (.seq (.reg false [⟨(some 6), (.mv (.t 0)), none, 0⟩, ⟨(some 7), (.mv (.c (.int .i64 0))), none, 0⟩]) x40_4) x40_8)
def x40_10 : XCode := (.seq (.reg false [⟨(some 5), (.build [(.int .i64 0), (.int .i64 0), .nil, .nil, .nil] []), none, 0⟩, ⟨(some 3), (.new 28 [(.int .i64 0), (.int .i64 0), .nil, .nil, .nil]), none, 0⟩, ⟨none, (.st 5 (.t 3) (.t 5)), none, 0⟩]) x40_9)
def x40 : XFn := ⟨(.seq (.reg false [⟨(some 2), (.new 28 [(.int .i64 0), (.int .i64 0), .nil, .nil, .nil]), none, 0⟩]) x40_10), 35, [(.cell 2 (some 5))]⟩
theorem ok40 : FnOk Try.prog T 40 x40 := ⟨Try.f40, [.loop [0, 2, 3, 6, 7], .loop [0, 2, 3, 19, 20], .draw [2, 3, 5, 6, 0, 1, 4, 7, 8, 9, 10, 11] [4, 4, 1, 1, 1, 1, 2, 4, 4, 3, 4, 3]], Try.func40, by decide +kernel, by kernel_rfl⟩
/-- impl.NewCluster -/
def x10_1 : XCode := (.cond (.t 6) (.seq (.reg false [⟨(some 7), (.build [(.int .i64 0), (.int .i64 0), .nil, .nil, .nil] []), none, 0⟩, ⟨none, (.st 5 (.t 2) (.t 7)), none, 0⟩, ⟨(some 3), (.mv (.c (.bool false))), none, 0⟩]) .ret) .skip)
def x10_2 : XCode := (.seq (.reg false [⟨(some 8), (.mv (.t 0)), none, 0⟩, ⟨(some 9), (.call (.c (.fn 40 [])) [(.t 8)]), none, 0⟩, ⟨none, (.st 5 (.t 2) (.t 9)), none, 0⟩, ⟨(some 3), (.mv (.c (.bool true))), none, 0⟩]) .ret)
def x10_3 : XCode := (.seq (.seq (.reg false [⟨(some 4), (.mv (.t 0)), none, 0⟩, ⟨(some 5), (.call (.c (.fn 39 [])) [(.t 4), (.c (.int .i64 2)), (.c (.int .i64 4))]), none, 0⟩, ⟨(some 6), (.un .not (.t 5)), none, 0⟩]) x10_1) x10_2)
def x10 : XFn := ⟨(.seq (.reg false [⟨(some 2), (.new 28 [(.int .i64 0), (.int .i64 0), .nil, .nil, .nil]), none, 0⟩, ⟨(some 3), (.mv (.c (.bool false))), none, 0⟩]) x10_3), 10, [(.cell 2 (some 5)), (.t 3)]⟩
theorem ok10 : FnOk Try.prog T 10 x10 := ⟨Try.f10, [], Try.func10, by decide +kernel, by kernel_rfl⟩
/-- laws.eqIntS -/
def x20_1 : XCode := (.seq (.reg true [⟨(some 17), (.mv (.t 0)), none, 4⟩, ⟨(some 18), (.mv (.t 5)), none, 4⟩, ⟨(some 19), (.ia 1 (.t 17) (.t 18)), none, 4⟩, ⟨(some 20), (.ld none (.t 19)), none, 4⟩, ⟨(some 21), (.mv (.t 1)), none, 4⟩, ⟨(some 22), (.mv (.t 5)), none, 4⟩, ⟨(some 23), (.ia 1 (.t 21) (.t 22)), none, 4⟩, ⟨(some 24), (.ld none (.t 23)), none, 4⟩, ⟨(some 25), (.bin .neq (.t 20) (.t 24)), none, 4⟩]) (.cond (.t 25) (.seq (.reg false [⟨(some 4), (.mv (.c (.bool false))), none, 0⟩]) .ret) .skip))
def x20_2 : XCode := (.seq (.block 1 x20_1) (.reg false [⟨(some 15), (.mv (.t 5)), none, 0⟩, ⟨(some 16), (.bin .add (.t 15) (.c (.int .i64 1))), none, 0⟩, ⟨(some 5), (.mv (.t 16)), none, 0⟩]))
def x20_3 : XCode := (.seq (.seq (.reg false [⟨(some 11), (.mv (.t 5)), none, 0⟩, ⟨(some 12), (.mv (.t 0)), none, 0⟩, ⟨(some 13), (.len (.t 12)), none, 0⟩, ⟨(some 14), (.bin .lss (.t 11) (.t 13)), none, 0⟩]) (.cond (.t 14) .skip (.exit 0))) x20_2)
def x20_4 : XCode := (.block 0 (.loop [0, 1, 5] x20_3))
def x20_5 : XCode := x20_4
def x20_6 : XCode := (.seq (.seq (.reg false [⟨(some 5), (.mv (.c (.int .i64 0))), none, 0⟩]) x20_5) (.seq (.reg false [⟨(some 4), (.mv (.c (.bool true))), none, 0⟩]) .ret))
def x20_7 : XCode := (.seq (.seq (.reg false [⟨(some 6), (.mv (.t 0)), none, 0⟩, ⟨(some 7), (.len (.t 6)), none, 0⟩, ⟨(some 8), (.mv (.t 1)), none, 0⟩, ⟨(some 9), (.len (.t 8)), none, 0⟩, ⟨(some 10), (.bin .neq (.t 7) (.t 9)), none, 0⟩]) (.cond (.t 10) (.seq (.reg false [⟨(some 4), (.mv (.c (.bool false))), none, 0⟩]) .ret) .skip)) x20_6)
def x20 : XFn := ⟨(.seq (.reg false [⟨(some 4), (.mv (.c (.bool false))), none, 0⟩]) x20_7), 26, [(.t 4)]⟩
theorem ok20 : FnOk Try.prog T 20 x20 := ⟨Try.f20, [.loop [0, 1, 5], .draw [0, 1, 2, 3, 4, 5, 6, 7, 8] [4, 4, 4, 4, 4, 4, 4, 4, 4]], Try.func20, by decide +kernel, by kernel_rfl⟩
/-- laws.eqView -/
def x41_1 : XCode := (.seq (.seq (.reg false [⟨(some 15), (.fa 2 (.t 2)), none, 0⟩, ⟨(some 16), (.ld none (.t 15)), none, 0⟩, ⟨(some 17), (.fa 2 (.t 3)), none, 0⟩, ⟨(some 18), (.ld none (.t 17)), none, 0⟩, ⟨(some 19), (.call (.c (.fn 20 [])) [(.t 16), (.t 18)]), none, 0⟩, ⟨(some 20), (.un .not (.t 19)), none, 0⟩]) (.cond (.t 20) (.seq (.reg false [⟨(some 4), (.mv (.c (.bool false))), none, 0⟩]) .ret) .skip)) (.seq (.reg false [⟨(some 4), (.mv (.c (.bool true))), none, 0⟩]) .ret))
def x41_2 : XCode := (.seq (.seq (.reg false [⟨(some 10), (.fa 1 (.t 2)), none, 0⟩, ⟨(some 11), (.ld none (.t 10)), none, 0⟩, ⟨(some 12), (.fa 1 (.t 3)), none, 0⟩, ⟨(some 13), (.ld none (.t 12)), none, 0⟩, ⟨(some 14), (.bin .neq (.t 11) (.t 13)), none, 0⟩]) (.cond (.t 14) (.seq (.reg false [⟨(some 4), (.mv (.c (.bool false))), none, 0⟩]) .ret) .skip)) x41_1)
def x41_3 : XCode := (.seq (.seq (.reg false [⟨(some 5), (.fa 0 (.t 2)), none, 0⟩, ⟨(some 6), (.ld none (.t 5)), none, 0⟩, ⟨(some 7), (.fa 0 (.t 3)), none, 0⟩, ⟨(some 8), (.ld none (.t 7)), none, 0⟩, ⟨(some 9), (.bin .neq (.t 6) (.t 8)), none, 0⟩]) (.cond (.t 9) (.seq (.reg false [⟨(some 4), (.mv (.c (.bool false))), none, 0⟩]) .ret) .skip)) x41_2)
def x41 : XFn := ⟨(.seq (.seq (.reg false [⟨(some 2), (.box 24 3 (.t 0)), none, 0⟩, ⟨(some 3), (.box 24 3 (.t 1)), none, 0⟩, ⟨(some 4), (.mv (.c (.bool false))), none, 0⟩]) (.frz [2, 3])) x41_3), 21, [(.t 4)]⟩
theorem ok41 : FnOk Try.prog T 41 x41 := ⟨Try.f41, [.frz [2, 3]], Try.func41, by decide +kernel, by kernel_rfl⟩
/-- laws.eqRow -/
def x69_1 : XCode := (.seq (.seq (.reg false [⟨(some 10), (.fa 1 (.t 2)), none, 0⟩, ⟨(some 11), (.ld none (.t 10)), none, 0⟩, ⟨(some 12), (.fa 1 (.t 3)), none, 0⟩, ⟨(some 13), (.ld none (.t 12)), none, 0⟩, ⟨(some 14), (.bin .neq (.t 11) (.t 13)), none, 0⟩]) (.cond (.t 14) (.seq (.reg false [⟨(some 4), (.mv (.c (.bool false))), none, 0⟩]) .ret) .skip)) (.seq (.reg false [⟨(some 4), (.mv (.c (.bool true))), none, 0⟩]) .ret))
def x69_2 : XCode := (.seq (.seq (.reg false [⟨(some 5), (.fa 0 (.t 2)), none, 0⟩, ⟨(some 6), (.ld none (.t 5)), none, 0⟩, ⟨(some 7), (.fa 0 (.t 3)), none, 0⟩, ⟨(some 8), (.ld none (.t 7)), none, 0⟩, ⟨(some 9), (.bin .neq (.t 6) (.t 8)), none, 0⟩]) (.cond (.t 9) (.seq (.reg false [⟨(some 4), (.mv (.c (.bool false))), none, 0⟩]) .ret) .skip)) x69_1)
def x69 : XFn := ⟨(.seq (.seq (.reg false [⟨(some 2), (.box 92 2 (.t 0)), none, 0⟩, ⟨(some 3), (.box 92 2 (.t 1)), none, 0⟩, ⟨(some 4), (.mv (.c (.bool false))), none, 0⟩]) (.frz [2, 3])) x69_2), 15, [(.t 4)]⟩
theorem ok69 : FnOk Try.prog T 69 x69 := ⟨Try.f69, [.frz [2, 3]], Try.func69, by decide +kernel, by kernel_rfl⟩
/-- laws.eqRowS -/
def x43_1 : XCode := (.seq (.reg true [⟨(some 17), (.mv (.t 0)), none, 4⟩, ⟨(some 18), (.mv (.t 5)), none, 4⟩, ⟨(some 19), (.ia 2 (.t 17) (.t 18)), none, 4⟩, ⟨(some 20), (.ld (some 2) (.t 19)), none, 4⟩, ⟨(some 21), (.mv (.t 1)), none, 4⟩, ⟨(some 22), (.mv (.t 5)), none, 4⟩, ⟨(some 23), (.ia 2 (.t 21) (.t 22)), none, 4⟩, ⟨(some 24), (.ld (some 2) (.t 23)), none, 4⟩, ⟨(some 25), (.call (.c (.fn 69 [])) [(.t 20), (.t 24)]), none, 3⟩, ⟨(some 26), (.un .not (.t 25)), none, 4⟩]) (.cond (.t 26) (.seq (.reg false [⟨(some 4), (.mv (.c (.bool false))), none, 0⟩]) .ret) .skip))
def x43_2 : XCode := (.seq (.block 1 x43_1) (.reg false [⟨(some 15), (.mv (.t 5)), none, 0⟩, ⟨(some 16), (.bin .add (.t 15) (.c (.int .i64 1))), none, 0⟩, ⟨(some 5), (.mv (.t 16)), none, 0⟩]))
def x43_3 : XCode := (.seq (.seq (.reg false [⟨(some 11), (.mv (.t 5)), none, 0⟩, ⟨(some 12), (.mv (.t 0)), none, 0⟩, ⟨(some 13), (.len (.t 12)), none, 0⟩, ⟨(some 14), (.bin .lss (.t 11) (.t 13)), none, 0⟩]) (.cond (.t 14) .skip (.exit 0))) x43_2)
def x43_4 : XCode := (.block 0 (.loop [0, 1, 5] x43_3))
def x43_5 : XCode := x43_4
def x43_6 : XCode := (.seq (.seq (.reg false [⟨(some 5), (.mv (.c (.int .i64 0))), none, 0⟩]) x43_5) (.seq (.reg false [⟨(some 4), (.mv (.c (.bool true))), none, 0⟩]) .ret))
def x43_7 : XCode := (.seq (.seq (.reg false [⟨(some 6), (.mv (.t 0)), none, 0⟩, ⟨(some 7), (.len (.t 6)), none, 0⟩, ⟨(some 8), (.mv (.t 1)), none, 0⟩, ⟨(some 9), (.len (.t 8)), none, 0⟩, ⟨(some 10), (.bin .neq (.t 7) (.t 9)), none, 0⟩]) (.cond (.t 10) (.seq (.reg false [⟨(some 4), (.mv (.c (.bool false))), none, 0⟩]) .ret) .skip)) x43_6)
def x43 : XFn := ⟨(.seq (.reg false [⟨(some 4), (.mv (.c (.bool false))), none, 0⟩]) x43_7), 27, [(.t 4)]⟩
theorem ok43 : FnOk Try.prog T 43 x43 := ⟨Try.f43, [.loop [0, 1, 5], .draw [0, 1, 2, 3, 4, 5, 6, 7, 8, 9] [4, 4, 4, 4, 4, 4, 4, 4, 3, 4]], Try.func43, by decide +kernel, by kernel_rfl⟩
/-- laws.eqNode -/
def x68_1 : XCode := (.seq (.seq (.reg false [⟨(some 23), (.fa 5 (.t 2)), none, 0⟩, ⟨(some 24), (.ld none (.t 23)), none, 0⟩, ⟨(some 25), (.fa 5 (.t 3)), none, 0⟩, ⟨(some 26), (.ld none (.t 25)), none, 0⟩, ⟨(some 27), (.bin .neq (.t 24) (.t 26)), none, 0⟩]) (.cond (.t 27) (.seq (.reg false [⟨(some 4), (.mv (.c (.bool false))), none, 0⟩]) .ret) .skip)) (.seq (.reg false [⟨(some 4), (.mv (.c (.bool true))), none, 0⟩]) .ret))
def x68_2 : XCode := (.seq (.seq (.reg false [⟨(some 17), (.fa 4 (.t 2)), none, 0⟩, ⟨(some 18), (.ld none (.t 17)), none, 0⟩, ⟨(some 19), (.fa 4 (.t 3)), none, 0⟩, ⟨(some 20), (.ld none (.t 19)), none, 0⟩, ⟨(some 21), (.call (.c (.fn 20 [])) [(.t 18), (.t 20)]), none, 0⟩, ⟨(some 22), (.un .not (.t 21)), none, 0⟩]) (.cond (.t 22) (.seq (.reg false [⟨(some 4), (.mv (.c (.bool false))), none, 0⟩]) .ret) .skip)) x68_1)
def x68_3 : XCode := (.seq (.seq (.reg false [⟨(some 11), (.fa 3 (.t 2)), none, 0⟩, ⟨(some 12), (.ld none (.t 11)), none, 0⟩, ⟨(some 13), (.fa 3 (.t 3)), none, 0⟩, ⟨(some 14), (.ld none (.t 13)), none, 0⟩, ⟨(some 15), (.call (.c (.fn 43 [])) [(.t 12), (.t 14)]), none, 0⟩, ⟨(some 16), (.un .not (.t 15)), none, 0⟩]) (.cond (.t 16) (.seq (.reg false [⟨(some 4), (.mv (.c (.bool false))), none, 0⟩]) .ret) .skip)) x68_2)
def x68_4 : XCode := (.seq (.seq (.reg false [⟨(some 5), (.fa 0 (.t 2)), none, 0⟩, ⟨(some 6), (.ld (some 3) (.t 5)), none, 0⟩, ⟨(some 7), (.fa 0 (.t 3)), none, 0⟩, ⟨(some 8), (.ld (some 3) (.t 7)), none, 0⟩, ⟨(some 9), (.call (.c (.fn 41 [])) [(.t 6), (.t 8)]), none, 0⟩, ⟨(some 10), (.un .not (.t 9)), none, 0⟩]) (.cond (.t 10) (.seq (.reg false [⟨(some 4), (.mv (.c (.bool false))), none, 0⟩]) .ret) .skip)) x68_3)
def x68 : XFn := ⟨(.seq (.seq (.reg false [⟨(some 2), (.box 68 6 (.t 0)), none, 0⟩, ⟨(some 3), (.box 68 6 (.t 1)), none, 0⟩, ⟨(some 4), (.mv (.c (.bool false))), none, 0⟩]) (.frz [2, 3])) x68_4), 28, [(.t 4)]⟩
theorem ok68 : FnOk Try.prog T 68 x68 := ⟨Try.f68, [.frz [2, 3]], Try.func68, by decide +kernel, by kernel_rfl⟩
/-- laws.eqNodeS -/
def x42_1 : XCode := (.seq (.reg true [⟨(some 17), (.mv (.t 0)), none, 4⟩, ⟨(some 18), (.mv (.t 5)), none, 4⟩, ⟨(some 19), (.ia 6 (.t 17) (.t 18)), none, 4⟩, ⟨(some 20), (.ld (some 6) (.t 19)), none, 4⟩, ⟨(some 21), (.mv (.t 1)), none, 4⟩, ⟨(some 22), (.mv (.t 5)), none, 4⟩, ⟨(some 23), (.ia 6 (.t 21) (.t 22)), none, 4⟩, ⟨(some 24), (.ld (some 6) (.t 23)), none, 4⟩, ⟨(some 25), (.call (.c (.fn 68 [])) [(.t 20), (.t 24)]), none, 3⟩, ⟨(some 26), (.un .not (.t 25)), none, 4⟩]) (.cond (.t 26) (.seq (.reg false [⟨(some 4), (.mv (.c (.bool false))), none, 0⟩]) .ret) .skip))
def x42_2 : XCode := (.seq (.block 1 x42_1) (.reg false [⟨(some 15), (.mv (.t 5)), none, 0⟩, ⟨(some 16), (.bin .add (.t 15) (.c (.int .i64 1))), none, 0⟩, ⟨(some 5), (.mv (.t 16)), none, 0⟩]))
def x42_3 : XCode := (.seq (.seq (.reg false [⟨(some 11), (.mv (.t 5)), none, 0⟩, ⟨(some 12), (.mv (.t 0)), none, 0⟩, ⟨(some 13), (.len (.t 12)), none, 0⟩, ⟨(some 14), (.bin .lss (.t 11) (.t 13)), none, 0⟩]) (.cond (.t 14) .skip (.exit 0))) x42_2)
def x42_4 : XCode := (.block 0 (.loop [0, 1, 5] x42_3))
def x42_5 : XCode := x42_4
def x42_6 : XCode := (.seq (.seq (.reg false [⟨(some 5), (.mv (.c (.int .i64 0))), none, 0⟩]) x42_5) (.seq (.reg false [⟨(some 4), (.mv (.c (.bool true))), none, 0⟩]) .ret))
def x42_7 : XCode := (.seq (.seq (.reg false [⟨(some 6), (.mv (.t 0)), none, 0⟩, ⟨(some 7), (.len (.t 6)), none, 0⟩, ⟨(some 8), (.mv (.t 1)), none, 0⟩, ⟨(some 9), (.len (.t 8)), none, 0⟩, ⟨(some 10), (.bin .neq (.t 7) (.t 9)), none, 0⟩]) (.cond (.t 10) (.seq (.reg false [⟨(some 4), (.mv (.c (.bool false))), none, 0⟩]) .ret) .skip)) x42_6)
def x42 : XFn := ⟨(.seq (.reg false [⟨(some 4), (.mv (.c (.bool false))), none, 0⟩]) x42_7), 27, [(.t 4)]⟩
theorem ok42 : FnOk Try.prog T 42 x42 := ⟨Try.f42, [.loop [0, 1, 5], .draw [0, 1, 2, 3, 4, 5, 6, 7, 8, 9] [4, 4, 4, 4, 4, 4, 4, 4, 3, 4]], Try.func42, by decide +kernel, by kernel_rfl⟩
/-- laws.eqCluster -/
def x11_1 : XCode := (.seq (.seq (.reg false [⟨(some 17), (.fa 4 (.t 2)), none, 0⟩, ⟨(some 18), (.ld none (.t 17)), none, 0⟩, ⟨(some 19), (.fa 4 (.t 3)), none, 0⟩, ⟨(some 20), (.ld none (.t 19)), none, 0⟩, ⟨(some 21), (.call (.c (.fn 43 [])) [(.t 18), (.t 20)]), none, 0⟩, ⟨(some 22), (.un .not (.t 21)), none, 0⟩]) (.cond (.t 22) (.seq (.reg false [⟨(some 4), (.mv (.c (.bool false))), none, 0⟩]) .ret) .skip)) (.seq (.reg false [⟨(some 4), (.mv (.c (.bool true))), none, 0⟩]) .ret))
def x11_2 : XCode := (.seq (.seq (.reg false [⟨(some 11), (.fa 3 (.t 2)), none, 0⟩, ⟨(some 12), (.ld none (.t 11)), none, 0⟩, ⟨(some 13), (.fa 3 (.t 3)), none, 0⟩, ⟨(some 14), (.ld none (.t 13)), none, 0⟩, ⟨(some 15), (.call (.c (.fn 42 [])) [(.t 12), (.t 14)]), none, 0⟩, ⟨(some 16), (.un .not (.t 15)), none, 0⟩]) (.cond (.t 16) (.seq (.reg false [⟨(some 4), (.mv (.c (.bool false))), none, 0⟩]) .ret) .skip)) x11_1)
def x11_3 : XCode := (.seq (.seq (.reg false [⟨(some 5), (.fa 0 (.t 2)), none, 0⟩, ⟨(some 6), (.ld (some 3) (.t 5)), none, 0⟩, ⟨(some 7), (.fa 0 (.t 3)), none, 0⟩, ⟨(some 8), (.ld (some 3) (.t 7)), none, 0⟩, ⟨(some 9), (.call (.c (.fn 41 [])) [(.t 6), (.t 8)]), none, 0⟩, ⟨(some 10), (.un .not (.t 9)), none, 0⟩]) (.cond (.t 10) (.seq (.reg false [⟨(some 4), (.mv (.c (.bool false))), none, 0⟩]) .ret) .skip)) x11_2)
def x11 : XFn := ⟨(.seq (.seq (.reg false [⟨(some 2), (.box 28 5 (.t 0)), none, 0⟩, ⟨(some 3), (.box 28 5 (.t 1)), none, 0⟩, ⟨(some 4), (.mv (.c (.bool false))), none, 0⟩]) (.frz [2, 3])) x11_3), 23, [(.t 4)]⟩
theorem ok11 : FnOk Try.prog T 11 x11 := ⟨Try.f11, [.frz [2, 3]], Try.func11, by decide +kernel, by kernel_rfl⟩
/-- laws.markIntS -/
def x21_1 : XCode := (.seq (.reg false [⟨(some 12), (.mv (.t 0)), none, 0⟩, ⟨(some 13), (.mv (.t 5)), none, 0⟩, ⟨(some 14), (.mv (.t 1)), none, 0⟩, ⟨(some 15), (.ia 1 (.t 12) (.t 13)), none, 0⟩, ⟨none, (.st 1 (.t 15) (.t 14)), none, 0⟩]) (.reg false [⟨(some 16), (.mv (.t 1)), none, 0⟩, ⟨(some 17), (.bin .add (.t 16) (.c (.int .i64 1))), none, 0⟩, ⟨(some 1), (.mv (.t 17)), none, 0⟩]))
def x21_2 : XCode := (.seq (.block 1 x21_1) (.reg false [⟨(some 10), (.mv (.t 5)), none, 0⟩, ⟨(some 11), (.bin .add (.t 10) (.c (.int .i64 1))), none, 0⟩, ⟨(some 5), (.mv (.t 11)), none, 0⟩]))
def x21_3 : XCode := (.seq (.seq (.reg false [⟨(some 6), (.mv (.t 5)), none, 0⟩, ⟨(some 7), (.mv (.t 0)), none, 0⟩, ⟨(some 8), (.len (.t 7)), none, 0⟩, ⟨(some 9), (.bin .lss (.t 6) (.t 8)), none, 0⟩]) (.cond (.t 9) .skip (.exit 0))) x21_2)
def x21_4 : XCode := (.block 0 (.loop [0, 1, 5] x21_3))
def x21_5 : XCode := x21_4
def x21_6 : XCode := (.seq (.seq (.reg false [⟨(some 5), (.mv (.c (.int .i64 0))), none, 0⟩]) x21_5) (.seq (.reg false [⟨(some 18), (.mv (.t 1)), none, 0⟩, ⟨(some 4), (.mv (.t 18)), none, 0⟩]) .ret))
def x21 : XFn := ⟨(.seq (.reg false [⟨(some 4), (.mv (.c (.int .i64 0))), none, 0⟩]) x21_6), 19, [(.t 4)]⟩
theorem ok21 : FnOk Try.prog T 21 x21 := ⟨Try.f21, [.loop [0, 1, 5]], Try.func21, by decide +kernel, by kernel_rfl⟩
/-- laws.markView -/
def x44_1 : XCode := (.seq (.reg false [⟨(some 5), (.fa 2 (.t 2)), none, 0⟩, ⟨(some 6), (.ld none (.t 5)), none, 0⟩, ⟨(some 7), (.mv (.t 1)), none, 0⟩, ⟨(some 8), (.call (.c (.fn 21 [])) [(.t 6), (.t 7)]), none, 0⟩, ⟨(some 1), (.mv (.t 8)), none, 0⟩]) (.seq (.reg false [⟨(some 9), (.mv (.t 1)), none, 0⟩, ⟨(some 4), (.mv (.t 9)), none, 0⟩]) .ret))
def x44 : XFn := ⟨(.seq (.seq (.reg false [⟨(some 2), (.box 24 3 (.t 0)), none, 0⟩, ⟨(some 4), (.mv (.c (.int .i64 0))), none, 0⟩]) (.frz [2])) x44_1), 10, [(.t 4)]⟩
theorem ok44 : FnOk Try.prog T 44 x44 := ⟨Try.f44, [.frz [2]], Try.func44, by decide +kernel, by kernel_rfl⟩
/-- laws.markRowS -/
def x46_1 : XCode := (.seq (.reg false [⟨(some 19), (.mv (.t 0)), none, 0⟩, ⟨(some 20), (.mv (.t 5)), none, 0⟩, ⟨(some 21), (.mv (.t 1)), none, 0⟩, ⟨(some 22), (.ia 2 (.t 19) (.t 20)), none, 0⟩, ⟨(some 23), (.fa 1 (.t 22)), none, 0⟩, ⟨none, (.st 1 (.t 23) (.t 21)), none, 0⟩]) (.reg false [⟨(some 24), (.mv (.t 1)), none, 0⟩, ⟨(some 25), (.bin .add (.t 24) (.c (.int .i64 1))), none, 0⟩, ⟨(some 1), (.mv (.t 25)), none, 0⟩]))
def x46_2 : XCode := (.seq (.reg false [⟨(some 17), (.mv (.t 1)), none, 0⟩, ⟨(some 18), (.bin .add (.t 17) (.c (.int .i64 1))), none, 0⟩, ⟨(some 1), (.mv (.t 18)), none, 0⟩]) x46_1)
def x46_3 : XCode := (.seq (.reg false [⟨(some 12), (.mv (.t 0)), none, 0⟩, ⟨(some 13), (.mv (.t 5)), none, 0⟩, ⟨(some 14), (.mv (.t 1)), none, 0⟩, ⟨(some 15), (.ia 2 (.t 12) (.t 13)), none, 0⟩, ⟨(some 16), (.fa 0 (.t 15)), none, 0⟩, ⟨none, (.st 1 (.t 16) (.t 14)), none, 0⟩]) x46_2)
def x46_4 : XCode := (.seq (.block 1 x46_3) (.reg false [⟨(some 10), (.mv (.t 5)), none, 0⟩, ⟨(some 11), (.bin .add (.t 10) (.c (.int .i64 1))), none, 0⟩, ⟨(some 5), (.mv (.t 11)), none, 0⟩]))
def x46_5 : XCode := (.seq (.seq (.reg false [⟨(some 6), (.mv (.t 5)), none, 0⟩, ⟨(some 7), (.mv (.t 0)), none, 0⟩, ⟨(some 8), (.len (.t 7)), none, 0⟩, ⟨(some 9), (.bin .lss (.t 6) (.t 8)), none, 0⟩]) (.cond (.t 9) .skip (.exit 0))) x46_4)
def x46_6 : XCode := (.block 0 (.loop [0, 1, 5] x46_5))
def x46_7 : XCode := x46_6
def x46_8 : XCode := (.seq (.seq (.reg false [⟨(some 5), (.mv (.c (.int .i64 0))), none, 0⟩]) x46_7) (.seq (.reg false [⟨(some 26), (.mv (.t 1)), none, 0⟩, ⟨(some 4), (.mv (.t 26)), none, 0⟩]) .ret))
def x46 : XFn := ⟨(.seq (.reg false [⟨(some 4), (.mv (.c (.int .i64 0))), none, 0⟩]) x46_8), 27, [(.t 4)]⟩
theorem ok46 : FnOk Try.prog T 46 x46 := ⟨Try.f46, [.loop [0, 1, 5]], Try.func46, by decide +kernel, by kernel_rfl⟩
/-- laws.markNodeS -/
def x45_1 : XCode := (.seq (.reg false [⟨(some 50), (.mv (.t 0)), none, 0⟩, ⟨(some 51), (.mv (.t 5)), none, 0⟩, ⟨(some 52), (.mv (.t 1)), none, 0⟩, ⟨(some 53), (.ia 6 (.t 50) (.t 51)), none, 0⟩, ⟨(some 54), (.fa 5 (.t 53)), none, 0⟩, ⟨none, (.st 1 (.t 54) (.t 52)), none, 0⟩]) (.reg false [⟨(some 55), (.mv (.t 1)), none, 0⟩, ⟨(some 56), (.bin .add (.t 55) (.c (.int .i64 1))), none, 0⟩, ⟨(some 1), (.mv (.t 56)), none, 0⟩]))
def x45_2 : XCode := (.seq (.reg false [⟨(some 43), (.mv (.t 0)), none, 0⟩, ⟨(some 44), (.mv (.t 5)), none, 0⟩, ⟨(some 45), (.ia 6 (.t 43) (.t 44)), none, 0⟩, ⟨(some 46), (.fa 4 (.t 45)), none, 0⟩, ⟨(some 47), (.ld none (.t 46)), none, 0⟩, ⟨(some 48), (.mv (.t 1)), none, 0⟩, ⟨(some 49), (.call (.c (.fn 21 [])) [(.t 47), (.t 48)]), none, 0⟩, ⟨(some 1), (.mv (.t 49)), none, 0⟩]) x45_1)
def x45_3 : XCode := (.seq (.reg false [⟨(some 36), (.mv (.t 0)), none, 0⟩, ⟨(some 37), (.mv (.t 5)), none, 0⟩, ⟨(some 38), (.ia 6 (.t 36) (.t 37)), none, 0⟩, ⟨(some 39), (.fa 3 (.t 38)), none, 0⟩, ⟨(some 40), (.ld none (.t 39)), none, 0⟩, ⟨(some 41), (.mv (.t 1)), none, 0⟩, ⟨(some 42), (.call (.c (.fn 46 [])) [(.t 40), (.t 41)]), none, 0⟩, ⟨(some 1), (.mv (.t 42)), none, 0⟩]) x45_2)
def x45_4 : XCode := (.seq (.reg false [⟨(some 28), (.mv (.t 0)), none, 0⟩, ⟨(some 29), (.mv (.t 5)), none, 0⟩, ⟨(some 30), (.ia 6 (.t 28) (.t 29)), none, 0⟩, ⟨(some 31), (.fa 0 (.t 30)), none, 0⟩, ⟨(some 32), (.fa 2 (.t 31)), none, 0⟩, ⟨(some 33), (.ld none (.t 32)), none, 0⟩, ⟨(some 34), (.mv (.t 1)), none, 0⟩, ⟨(some 35), (.call (.c (.fn 21 [])) [(.t 33), (.t 34)]), none, 0⟩, ⟨(some 1), (.mv (.t 35)), none, 0⟩]) x45_3)
def x45_5 : XCode := (.seq (.reg false [⟨(some 26), (.mv (.t 1)), none, 0⟩, ⟨(some 27), (.bin .add (.t 26) (.c (.int .i64 1))), none, 0⟩, ⟨(some 1), (.mv (.t 27)), none, 0⟩]) x45_4)
def x45_6 : XCode := (.seq (.reg false [⟨(some 20), (.mv (.t 0)), none, 0⟩, ⟨(some 21), (.mv (.t 5)), none, 0⟩, ⟨(some 22), (.mv (.t 1)), none, 0⟩, ⟨(some 23), (.ia 6 (.t 20) (.t 21)), none, 0⟩, ⟨(some 24), (.fa 0 (.t 23)), none, 0⟩, ⟨(some 25), (.fa 1 (.t 24)), none, 0⟩, ⟨none, (.st 1 (.t 25) (.t 22)), none, 0⟩]) x45_5)
def x45_7 : XCode := (.seq (.reg false [⟨(some 18), (.mv (.t 1)), none, 0⟩, ⟨(some 19), (.bin .add (.t 18) (.c (.int .i64 1))), none, 0⟩, ⟨(some 1), (.mv (.t 19)), none, 0⟩]) x45_6)
def x45_8 : XCode := (.seq (.reg false [⟨(some 12), (.mv (.t 0)), none, 0⟩, ⟨(some 13), (.mv (.t 5)), none, 0⟩, ⟨(some 14), (.mv (.t 1)), none, 0⟩, ⟨(some 15), (.ia 6 (.t 12) (.t 13)), none, 0⟩, ⟨(some 16), (.fa 0 (.t 15)), none, 0⟩, ⟨(some 17), (.fa 0 (.t 16)), none, 0⟩, ⟨none, (.st 1 (.t 17) (.t 14)), none, 0⟩]) x45_7)
def x45_9 : XCode := (.seq (.block 1 x45_8) (.reg false [⟨(some 10), (.mv (.t 5)), none, 0⟩, ⟨(some 11), (.bin .add (.t 10) (.c (.int .i64 1))), none, 0⟩, ⟨(some 5), (.mv (.t 11)), none, 0⟩]))
def x45_10 : XCode := (.seq (.seq (.reg false [⟨(some 6), (.mv (.t 5)), none, 0⟩, ⟨(some 7), (.mv (.t 0)), none, 0⟩, ⟨(some 8), (.len (.t 7)), none, 0⟩, ⟨(some 9), (.bin .lss (.t 6) (.t 8)), none, 0⟩]) (.cond (.t 9) .skip (.exit 0))) x45_9)
def x45_11 : XCode := (.block 0 (.loop [0, 1, 5] x45_10))
def x45_12 : XCode := x45_11
def x45_13 : XCode := (.seq (.seq (.reg false [⟨(some 5), (.mv (.c (.int .i64 0))), none, 0⟩]) x45_12) (.seq (.reg false [⟨(some 57), (.mv (.t 1)), none, 0⟩, ⟨(some 4), (.mv (.t 57)), none, 0⟩]) .ret))
def x45 : XFn := ⟨(.seq (.reg false [⟨(some 4), (.mv (.c (.int .i64 0))), none, 0⟩]) x45_13), 58, [(.t 4)]⟩
theorem ok45 : FnOk Try.prog T 45 x45 := ⟨Try.f45, [.loop [0, 1, 5]], Try.func45, by decide +kernel, by kernel_rfl⟩
/-- laws.markCluster -/
def x12_1 : XCode := (.seq (.reg false [⟨(some 13), (.fa 4 (.t 2)), none, 0⟩, ⟨(some 14), (.ld none (.t 13)), none, 0⟩, ⟨(some 15), (.mv (.t 1)), none, 0⟩, ⟨(some 16), (.call (.c (.fn 46 [])) [(.t 14), (.t 15)]), none, 0⟩, ⟨(some 1), (.mv (.t 16)), none, 0⟩]) (.seq (.reg false [⟨(some 17), (.mv (.t 1)), none, 0⟩, ⟨(some 4), (.mv (.t 17)), none, 0⟩]) .ret))
def x12_2 : XCode := (.seq (.reg false [⟨(some 9), (.fa 3 (.t 2)), none, 0⟩, ⟨(some 10), (.ld none (.t 9)), none, 0⟩, ⟨(some 11), (.mv (.t 1)), none, 0⟩, ⟨(some 12), (.call (.c (.fn 45 [])) [(.t 10), (.t 11)]), none, 0⟩, ⟨(some 1), (.mv (.t 12)), none, 0⟩]) x12_1)
def x12_3 : XCode := (.seq (.reg false [⟨(some 5), (.fa 0 (.t 2)), none, 0⟩, ⟨(some 6), (.ld (some 3) (.t 5)), none, 0⟩, ⟨(some 7), (.mv (.t 1)), none, 0⟩, ⟨(some 8), (.call (.c (.fn 44 [])) [(.t 6), (.t 7)]), none, 0⟩, ⟨(some 1), (.mv (.t 8)), none, 0⟩]) x12_2)
def x12 : XFn := ⟨(.seq (.seq (.reg false [⟨(some 2), (.box 28 5 (.t 0)), none, 0⟩, ⟨(some 4), (.mv (.c (.int .i64 0))), none, 0⟩]) (.frz [2])) x12_3), 18, [(.t 4)]⟩
theorem ok12 : FnOk Try.prog T 12 x12 := ⟨Try.f12, [.frz [2]], Try.func12, by decide +kernel, by kernel_rfl⟩
/-- laws.heldIntS -/
def x22_1 : XCode := (.seq (.seq (.reg false [⟨(some 12), (.mv (.t 0)), none, 0⟩, ⟨(some 13), (.mv (.t 5)), none, 0⟩, ⟨(some 14), (.ia 1 (.t 12) (.t 13)), none, 0⟩, ⟨(some 15), (.ld none (.t 14)), none, 0⟩, ⟨(some 16), (.mv (.t 1)), none, 0⟩, ⟨(some 17), (.bin .neq (.t 15) (.t 16)), none, 0⟩]) (.cond (.t 17) (.seq (.reg false [⟨(some 4), (.mv (.c (.int .i64 (-1)))), none, 0⟩]) .ret) .skip)) (.reg false [⟨(some 18), (.mv (.t 1)), none, 0⟩, ⟨(some 19), (.bin .add (.t 18) (.c (.int .i64 1))), none, 0⟩, ⟨(some 1), (.mv (.t 19)), none, 0⟩]))
def x22_2 : XCode := (.seq (.block 1 x22_1) (.reg false [⟨(some 10), (.mv (.t 5)), none, 0⟩, ⟨(some 11), (.bin .add (.t 10) (.c (.int .i64 1))), none, 0⟩, ⟨(some 5), (.mv (.t 11)), none, 0⟩]))
def x22_3 : XCode := (.seq (.seq (.reg false [⟨(some 6), (.mv (.t 5)), none, 0⟩, ⟨(some 7), (.mv (.t 0)), none, 0⟩, ⟨(some 8), (.len (.t 7)), none, 0⟩, ⟨(some 9), (.bin .lss (.t 6) (.t 8)), none, 0⟩]) (.cond (.t 9) .skip (.exit 0))) x22_2)
def x22_4 : XCode := (.block 0 (.loop [0, 1, 5] x22_3))
def x22_5 : XCode := x22_4
def x22_6 : XCode := (.seq (.seq (.reg false [⟨(some 5), (.mv (.c (.int .i64 0))), none, 0⟩]) x22_5) (.seq (.reg false [⟨(some 20), (.mv (.t 1)), none, 0⟩, ⟨(some 4), (.mv (.t 20)), none, 0⟩]) .ret))
def x22 : XFn := ⟨(.seq (.reg false [⟨(some 4), (.mv (.c (.int .i64 0))), none, 0⟩]) x22_6), 21, [(.t 4)]⟩
theorem ok22 : FnOk Try.prog T 22 x22 := ⟨Try.f22, [.loop [0, 1, 5]], Try.func22, by decide +kernel, by kernel_rfl⟩
/-- laws.heldView -/
def x47_1 : XCode := (.seq (.seq (.reg false [⟨(some 9), (.mv (.t 1)), none, 0⟩, ⟨(some 10), (.bin .lss (.t 9) (.c (.int .i64 0))), none, 0⟩]) (.cond (.t 10) (.seq (.reg false [⟨(some 4), (.mv (.c (.int .i64 (-1)))), none, 0⟩]) .ret) .skip)) (.seq (.reg false [⟨(some 11), (.mv (.t 1)), none, 0⟩, ⟨(some 4), (.mv (.t 11)), none, 0⟩]) .ret))
def x47_2 : XCode := (.seq (.reg false [⟨(some 5), (.fa 2 (.t 2)), none, 0⟩, ⟨(some 6), (.ld none (.t 5)), none, 0⟩, ⟨(some 7), (.mv (.t 1)), none, 0⟩, ⟨(some 8), (.call (.c (.fn 22 [])) [(.t 6), (.t 7)]), none, 0⟩, ⟨(some 1), (.mv (.t 8)), none, 0⟩]) x47_1)
def x47 : XFn := ⟨(.seq (.seq (.reg false [⟨(some 2), (.box 24 3 (.t 0)), none, 0⟩, ⟨(some 4), (.mv (.c (.int .i64 0))), none, 0⟩]) (.frz [2])) x47_2), 12, [(.t 4)]⟩
theorem ok47 : FnOk Try.prog T 47 x47 := ⟨Try.f47, [.frz [2]], Try.func47, by decide +kernel, by kernel_rfl⟩
/-- laws.heldRowS -/
def x49_1 : XCode := (.seq (.seq (.reg false [⟨(some 21), (.mv (.t 0)), none, 0⟩, ⟨(some 22), (.mv (.t 5)), none, 0⟩, ⟨(some 23), (.ia 2 (.t 21) (.t 22)), none, 0⟩, ⟨(some 24), (.fa 1 (.t 23)), none, 0⟩, ⟨(some 25), (.ld none (.t 24)), none, 0⟩, ⟨(some 26), (.mv (.t 1)), none, 0⟩, ⟨(some 27), (.bin .neq (.t 25) (.t 26)), none, 0⟩]) (.cond (.t 27) (.seq (.reg false [⟨(some 4), (.mv (.c (.int .i64 (-1)))), none, 0⟩]) .ret) .skip)) (.reg false [⟨(some 28), (.mv (.t 1)), none, 0⟩, ⟨(some 29), (.bin .add (.t 28) (.c (.int .i64 1))), none, 0⟩, ⟨(some 1), (.mv (.t 29)), none, 0⟩]))
def x49_2 : XCode := (.seq (.reg false [⟨(some 19), (.mv (.t 1)), none, 0⟩, ⟨(some 20), (.bin .add (.t 19) (.c (.int .i64 1))), none, 0⟩, ⟨(some 1), (.mv (.t 20)), none, 0⟩]) x49_1)
def x49_3 : XCode := (.seq (.seq (.reg false [⟨(some 12), (.mv (.t 0)), none, 0⟩, ⟨(some 13), (.mv (.t 5)), none, 0⟩, ⟨(some 14), (.ia 2 (.t 12) (.t 13)), none, 0⟩, ⟨(some 15), (.fa 0 (.t 14)), none, 0⟩, ⟨(some 16), (.ld none (.t 15)), none, 0⟩, ⟨(some 17), (.mv (.t 1)), none, 0⟩, ⟨(some 18), (.bin .neq (.t 16) (.t 17)), none, 0⟩]) (.cond (.t 18) (.seq (.reg false [⟨(some 4), (.mv (.c (.int .i64 (-1)))), none, 0⟩]) .ret) .skip)) x49_2)
def x49_4 : XCode := (.seq (.block 1 x49_3) (.reg false [⟨(some 10), (.mv (.t 5)), none, 0⟩, ⟨(some 11), (.bin .add (.t 10) (.c (.int .i64 1))), none, 0⟩, ⟨(some 5), (.mv (.t 11)), none, 0⟩]))
def x49_5 : XCode := (.seq (.seq (.reg false [⟨(some 6), (.mv (.t 5)), none, 0⟩, ⟨(some 7), (.mv (.t 0)), none, 0⟩, ⟨(some 8), (.len (.t 7)), none, 0⟩, ⟨(some 9), (.bin .lss (.t 6) (.t 8)), none, 0⟩]) (.cond (.t 9) .skip (.exit 0))) x49_4)
def x49_6 : XCode := (.block 0 (.loop [0, 1, 5] x49_5))
def x49_7 : XCode := x49_6
def x49_8 : XCode := (.seq (.seq (.reg false [⟨(some 5), (.mv (.c (.int .i64 0))), none, 0⟩]) x49_7) (.seq (.reg false [⟨(some 30), (.mv (.t 1)), none, 0⟩, ⟨(some 4), (.mv (.t 30)), none, 0⟩]) .ret))
def x49 : XFn := ⟨(.seq (.reg false [⟨(some 4), (.mv (.c (.int .i64 0))), none, 0⟩]) x49_8), 31, [(.t 4)]⟩
theorem ok49 : FnOk Try.prog T 49 x49 := ⟨Try.f49, [.loop [0, 1, 5]], Try.func49, by decide +kernel, by kernel_rfl⟩
/-- laws.heldNodeS -/
def x48_1 : XCode := (.seq (.seq (.reg false [⟨(some 60), (.mv (.t 0)), none, 0⟩, ⟨(some 61), (.mv (.t 5)), none, 0⟩, ⟨(some 62), (.ia 6 (.t 60) (.t 61)), none, 0⟩, ⟨(some 63), (.fa 5 (.t 62)), none, 0⟩, ⟨(some 64), (.ld none (.t 63)), none, 0⟩, ⟨(some 65), (.mv (.t 1)), none, 0⟩, ⟨(some 66), (.bin .neq (.t 64) (.t 65)), none, 0⟩]) (.cond (.t 66) (.seq (.reg false [⟨(some 4), (.mv (.c (.int .i64 (-1)))), none, 0⟩]) .ret) .skip)) (.reg false [⟨(some 67), (.mv (.t 1)), none, 0⟩, ⟨(some 68), (.bin .add (.t 67) (.c (.int .i64 1))), none, 0⟩, ⟨(some 1), (.mv (.t 68)), none, 0⟩]))
def x48_2 : XCode := (.seq (.seq (.reg false [⟨(some 58), (.mv (.t 1)), none, 0⟩, ⟨(some 59), (.bin .lss (.t 58) (.c (.int .i64 0))), none, 0⟩]) (.cond (.t 59) (.seq (.reg false [⟨(some 4), (.mv (.c (.int .i64 (-1)))), none, 0⟩]) .ret) .skip)) x48_1)
def x48_3 : XCode := (.seq (.reg false [⟨(some 51), (.mv (.t 0)), none, 0⟩, ⟨(some 52), (.mv (.t 5)), none, 0⟩, ⟨(some 53), (.ia 6 (.t 51) (.t 52)), none, 0⟩, ⟨(some 54), (.fa 4 (.t 53)), none, 0⟩, ⟨(some 55), (.ld none (.t 54)), none, 0⟩, ⟨(some 56), (.mv (.t 1)), none, 0⟩, ⟨(some 57), (.call (.c (.fn 22 [])) [(.t 55), (.t 56)]), none, 0⟩, ⟨(some 1), (.mv (.t 57)), none, 0⟩]) x48_2)
def x48_4 : XCode := (.seq (.seq (.reg false [⟨(some 49), (.mv (.t 1)), none, 0⟩, ⟨(some 50), (.bin .lss (.t 49) (.c (.int .i64 0))), none, 0⟩]) (.cond (.t 50) (.seq (.reg false [⟨(some 4), (.mv (.c (.int .i64 (-1)))), none, 0⟩]) .ret) .skip)) x48_3)
def x48_5 : XCode := (.seq (.reg false [⟨(some 42), (.mv (.t 0)), none, 0⟩, ⟨(some 43), (.mv (.t 5)), none, 0⟩, ⟨(some 44), (.ia 6 (.t 42) (.t 43)), none, 0⟩, ⟨(some 45), (.fa 3 (.t 44)), none, 0⟩, ⟨(some 46), (.ld none (.t 45)), none, 0⟩, ⟨(some 47), (.mv (.t 1)), none, 0⟩, ⟨(some 48), (.call (.c (.fn 49 [])) [(.t 46), (.t 47)]), none, 0⟩, ⟨(some 1), (.mv (.t 48)), none, 0⟩]) x48_4)
def x48_6 : XCode := (.seq (.seq (.reg false [⟨(some 40), (.mv (.t 1)), none, 0⟩, ⟨(some 41), (.bin .lss (.t 40) (.c (.int .i64 0))), none, 0⟩]) (.cond (.t 41) (.seq (.reg false [⟨(some 4), (.mv (.c (.int .i64 (-1)))), none, 0⟩]) .ret) .skip)) x48_5)
def x48_7 : XCode := (.seq (.reg false [⟨(some 32), (.mv (.t 0)), none, 0⟩, ⟨(some 33), (.mv (.t 5)), none, 0⟩, ⟨(some 34), (.ia 6 (.t 32) (.t 33)), none, 0⟩, ⟨(some 35), (.fa 0 (.t 34)), none, 0⟩, ⟨(some 36), (.fa 2 (.t 35)), none, 0⟩, ⟨(some 37), (.ld none (.t 36)), none, 0⟩, ⟨(some 38), (.mv (.t 1)), none, 0⟩, ⟨(some 39), (.call (.c (.fn 22 [])) [(.t 37), (.t 38)]), none, 0⟩, ⟨(some 1), (.mv (.t 39)), none, 0⟩]) x48_6)
def x48_8 : XCode := (.seq (.reg false [⟨(some 30), (.mv (.t 1)), none, 0⟩, ⟨(some 31), (.bin .add (.t 30) (.c (.int .i64 1))), none, 0⟩, ⟨(some 1), (.mv (.t 31)), none, 0⟩]) x48_7)
def x48_9 : XCode := (.seq (.seq (.reg false [⟨(some 22), (.mv (.t 0)), none, 0⟩, ⟨(some 23), (.mv (.t 5)), none, 0⟩, ⟨(some 24), (.ia 6 (.t 22) (.t 23)), none, 0⟩, ⟨(some 25), (.fa 0 (.t 24)), none, 0⟩, ⟨(some 26), (.fa 1 (.t 25)), none, 0⟩, ⟨(some 27), (.ld none (.t 26)), none, 0⟩, ⟨(some 28), (.mv (.t 1)), none, 0⟩, ⟨(some 29), (.bin .neq (.t 27) (.t 28)), none, 0⟩]) (.cond (.t 29) (.seq (.reg false [⟨(some 4), (.mv (.c (.int .i64 (-1)))), none, 0⟩]) .ret) .skip)) x48_8)
def x48_10 : XCode := (.seq (.reg false [⟨(some 20), (.mv (.t 1)), none, 0⟩, ⟨(some 21), (.bin .add (.t 20) (.c (.int .i64 1))), none, 0⟩, ⟨(some 1), (.mv (.t 21)), none, 0⟩]) x48_9)
def x48_11 : XCode := (.seq (.seq (.reg false [⟨(some 12), (.mv (.t 0)), none, 0⟩, ⟨(some 13), (.mv (.t 5)), none, 0⟩, ⟨(some 14), (.ia 6 (.t 12) (.t 13)), none, 0⟩, ⟨(some 15), (.fa 0 (.t 14)), none, 0⟩, ⟨(some 16), (.fa 0 (.t 15)), none, 0⟩, ⟨(some 17), (.ld none (.t 16)), none, 0⟩, ⟨(some 18), (.mv (.t 1)), none, 0⟩, ⟨(some 19), (.bin .neq (.t 17) (.t 18)), none, 0⟩]) (.cond (.t 19) (.seq (.reg false [⟨(some 4), (.mv (.c (.int .i64 (-1)))), none, 0⟩]) .ret) .skip)) x48_10)
def x48_12 : XCode := (.seq (.block 1 x48_11) (.reg false [⟨(some 10), (.mv (.t 5)), none, 0⟩, ⟨(some 11), (.bin .add (.t 10) (.c (.int .i64 1))), none, 0⟩, ⟨(some 5), (.mv (.t 11)), none, 0⟩]))
def x48_13 : XCode := (.seq (.seq (.reg false [⟨(some 6), (.mv (.t 5)), none, 0⟩, ⟨(some 7), (.mv (.t 0)), none, 0⟩, ⟨(some 8), (.len (.t 7)), none, 0⟩, ⟨(some 9), (.bin .lss (.t 6) (.t 8)), none, 0⟩]) (.cond (.t 9) .skip (.exit 0))) x48_12)
def x48_14 : XCode := (.block 0 (.loop [0, 1, 5] x48_13))
def x48_15 : XCode := x48_14
def x48_16 : XCode := (.seq (.seq (.reg false [⟨(some 5), (.mv (.c (.int .i64 0))), none, 0⟩]) x48_15) (.seq (.reg false [⟨(some 69), (.mv (.t 1)), none, 0⟩, ⟨(some 4), (.mv (.t 69)), none, 0⟩]) .ret))
def x48 : XFn := ⟨(.seq (.reg false [⟨(some 4), (.mv (.c (.int .i64 0))), none, 0⟩]) x48_16), 70, [(.t 4)]⟩
theorem ok48 : FnOk Try.prog T 48 x48 := ⟨Try.f48, [.loop [0, 1, 5]], Try.func48, by decide +kernel, by kernel_rfl⟩
/-- laws.heldCluster -/
def x13_1 : XCode := (.seq (.seq (.reg false [⟨(some 21), (.mv (.t 1)), none, 0⟩, ⟨(some 22), (.bin .lss (.t 21) (.c (.int .i64 0))), none, 0⟩]) (.cond (.t 22) (.seq (.reg false [⟨(some 4), (.mv (.c (.int .i64 (-1)))), none, 0⟩]) .ret) .skip)) (.seq (.reg false [⟨(some 23), (.mv (.t 1)), none, 0⟩, ⟨(some 4), (.mv (.t 23)), none, 0⟩]) .ret))
def x13_2 : XCode := (.seq (.reg false [⟨(some 17), (.fa 4 (.t 2)), none, 0⟩, ⟨(some 18), (.ld none (.t 17)), none, 0⟩, ⟨(some 19), (.mv (.t 1)), none, 0⟩, ⟨(some 20), (.call (.c (.fn 49 [])) [(.t 18), (.t 19)]), none, 0⟩, ⟨(some 1), (.mv (.t 20)), none, 0⟩]) x13_1)
def x13_3 : XCode := (.seq (.seq (.reg false [⟨(some 15), (.mv (.t 1)), none, 0⟩, ⟨(some 16), (.bin .lss (.t 15) (.c (.int .i64 0))), none, 0⟩]) (.cond (.t 16) (.seq (.reg false [⟨(some 4), (.mv (.c (.int .i64 (-1)))), none, 0⟩]) .ret) .skip)) x13_2)
def x13_4 : XCode := (.seq (.reg false [⟨(some 11), (.fa 3 (.t 2)), none, 0⟩, ⟨(some 12), (.ld none (.t 11)), none, 0⟩, ⟨(some 13), (.mv (.t 1)), none, 0⟩, ⟨(some 14), (.call (.c (.fn 48 [])) [(.t 12), (.t 13)]), none, 0⟩, ⟨(some 1), (.mv (.t 14)), none, 0⟩]) x13_3)
def x13_5 : XCode := (.seq (.seq (.reg false [⟨(some 9), (.mv (.t 1)), none, 0⟩, ⟨(some 10), (.bin .lss (.t 9) (.c (.int .i64 0))), none, 0⟩]) (.cond (.t 10) (.seq (.reg false [⟨(some 4), (.mv (.c (.int .i64 (-1)))), none, 0⟩]) .ret) .skip)) x13_4)
def x13_6 : XCode := (.seq (.reg false [⟨(some 5), (.fa 0 (.t 2)), none, 0⟩, ⟨(some 6), (.ld (some 3) (.t 5)), none, 0⟩, ⟨(some 7), (.mv (.t 1)), none, 0⟩, ⟨(some 8), (.call (.c (.fn 47 [])) [(.t 6), (.t 7)]), none, 0⟩, ⟨(some 1), (.mv (.t 8)), none, 0⟩]) x13_5)
def x13 : XFn := ⟨(.seq (.seq (.reg false [⟨(some 2), (.box 28 5 (.t 0)), none, 0⟩, ⟨(some 4), (.mv (.c (.int .i64 0))), none, 0⟩]) (.frz [2])) x13_6), 24, [(.t 4)]⟩
theorem ok13 : FnOk Try.prog T 13 x13 := ⟨Try.f13, [.frz [2]], Try.func13, by decide +kernel, by kernel_rfl⟩
/-- laws.FnExactNewCluster -/
def x3_1 : XCode := (.seq (.seq (.reg false [⟨(some 60), (.mv (.t 8)), none, 0⟩, ⟨(some 61), (.mv (.t 7)), none, 0⟩, ⟨(some 62), (.bin .neq (.t 60) (.t 61)), none, 0⟩]) (.cond (.t 62) (.seq (.reg false [⟨(some 2), (.mv (.c (.bool false))), none, 0⟩]) .ret) .skip)) (.seq (.reg false [⟨(some 2), (.mv (.c (.bool true))), none, 0⟩]) .ret))
def x3_2 : XCode := (.seq (.seq (.reg false [⟨(some 58), (.mv (.t 8)), none, 0⟩, ⟨(some 59), (.bin .lss (.t 58) (.c (.int .i64 0))), none, 0⟩]) (.cond (.t 59) (.seq (.reg false [⟨(some 2), (.mv (.c (.bool false))), none, 0⟩]) .ret) .skip)) x3_1)
def x3_3 : XCode := (.seq (.reg false [⟨(some 55), (.ld (some 5) (.t 5)), none, 0⟩, ⟨(some 56), (.mv (.t 8)), none, 0⟩, ⟨(some 57), (.call (.c (.fn 13 [])) [(.t 55), (.t 56)]), none, 0⟩, ⟨(some 8), (.mv (.t 57)), none, 0⟩]) x3_2)
def x3_4 : XCode := (.seq (.reg false [⟨(some 8), (.mv (.c (.int .i64 1))), none, 0⟩]) x3_3)
def x3_5 : XCode := (.seq (.seq (.reg false [⟨(some 46), (.ld (some 5) (.t 9)), none, 0⟩, ⟨(some 47), (.ld (some 5) (.t 3)), none, 0⟩, ⟨(some 48), (.call (.c (.fn 11 [])) [(.t 46), (.t 47)]), none, 0⟩, ⟨(some 49), (.un .not (.t 48)), none, 0⟩, ⟨(some 50), (.mv (.t 49)), none, 0⟩, ⟨(some 51), (.mv (.t 10)), (some (50, false)), 0⟩, ⟨(some 52), (.mv (.t 4)), (some (50, false)), 0⟩, ⟨(some 53), (.eqb true (.t 51) (.t 52)), (some (50, false)), 0⟩, ⟨(some 54), (.pick (.t 50) (.c (.bool true)) (.t 53)), none, 0⟩]) (.cond (.t 54) (.seq (.reg false [⟨(some 2), (.mv (.c (.bool false))), none, 0⟩]) .ret) .skip)) x3_4)
def x3_6 : XCode := (.seq (.seq (.reg false [⟨(some 42), (.mv (.t 0)), none, 0⟩, ⟨(some 43), (.call (.c (.fn 10 [])) [(.t 42)]), none, 0⟩, ⟨(some 41), (.mv (.t 43)), none, 0⟩, ⟨(some 44), (.ext (.t 41) 0), none, 0⟩, ⟨(some 45), (.ext (.t 41) 1), none, 0⟩, ⟨(some 9), (.new 28 [(.int .i64 0), (.int .i64 0), .nil, .nil, .nil]), none, 0⟩, ⟨none, (.st 5 (.t 9) (.t 44)), none, 0⟩, ⟨(some 10), (.mv (.t 45)), none, 0⟩]) (.frz [9])) x3_5)
def x3_7 : XCode := (.seq (.seq (.reg false [⟨(some 38), (.mv (.t 8)), none, 0⟩, ⟨(some 39), (.mv (.t 7)), none, 0⟩, ⟨(some 40), (.bin .neq (.t 38) (.t 39)), none, 0⟩]) (.cond (.t 40) (.seq (.reg false [⟨(some 2), (.mv (.c (.bool false))), none, 0⟩]) .ret) .skip)) x3_6)
def x3_8 : XCode := (.seq (.seq (.reg false [⟨(some 36), (.mv (.t 8)), none, 0⟩, ⟨(some 37), (.bin .lss (.t 36) (.c (.int .i64 0))), none, 0⟩]) (.cond (.t 37) (.seq (.reg false [⟨(some 2), (.mv (.c (.bool false))), none, 0⟩]) .ret) .skip)) x3_7)
def x3_9 : XCode := (.seq (.reg false [⟨(some 33), (.ld (some 5) (.t 5)), none, 0⟩, ⟨(some 34), (.mv (.t 8)), none, 0⟩, ⟨(some 35), (.call (.c (.fn 13 [])) [(.t 33), (.t 34)]), none, 0⟩, ⟨(some 8), (.mv (.t 35)), none, 0⟩]) x3_8)
def x3_10 : XCode := (.seq (.reg false [⟨(some 8), (.mv (.c (.int .i64 1))), none, 0⟩]) x3_9)
def x3_11 : XCode := (.seq (.reg false [⟨(some 30), (.ld (some 5) (.t 5)), none, 0⟩, ⟨(some 31), (.mv (.t 7)), none, 0⟩, ⟨(some 32), (.call (.c (.fn 12 [])) [(.t 30), (.t 31)]), none, 0⟩, ⟨(some 7), (.mv (.t 32)), none, 0⟩]) x3_10)
def x3_12 : XCode := (.seq (.reg false [⟨(some 7), (.mv (.c (.int .i64 1))), none, 0⟩]) x3_11)
def x3_13 : XCode := (.seq (.seq (.reg false [⟨(some 21), (.ld (some 5) (.t 5)), none, 0⟩, ⟨(some 22), (.ld (some 5) (.t 3)), none, 0⟩, ⟨(some 23), (.call (.c (.fn 11 [])) [(.t 21), (.t 22)]), none, 0⟩, ⟨(some 24), (.un .not (.t 23)), none, 0⟩, ⟨(some 25), (.mv (.t 24)), none, 0⟩, ⟨(some 26), (.mv (.t 6)), (some (25, false)), 0⟩, ⟨(some 27), (.mv (.t 4)), (some (25, false)), 0⟩, ⟨(some 28), (.eqb true (.t 26) (.t 27)), (some (25, false)), 0⟩, ⟨(some 29), (.pick (.t 25) (.c (.bool true)) (.t 28)), none, 0⟩]) (.cond (.t 29) (.seq (.reg false [⟨(some 2), (.mv (.c (.bool false))), none, 0⟩]) .ret) .skip)) x3_12)
def x3_14 : XCode := (.seq (.seq (.reg false [⟨(some 17), (.mv (.t 0)), none, 0⟩, ⟨(some 18), (.call (.c (.fn 10 [])) [(.t 17)]), none, 0⟩, ⟨(some 16), (.mv (.t 18)), none, 0⟩, ⟨(some 19), (.ext (.t 16) 0), none, 0⟩, ⟨(some 20), (.ext (.t 16) 1), none, 0⟩, ⟨(some 5), (.new 28 [(.int .i64 0), (.int .i64 0), .nil, .nil, .nil]), none, 0⟩, ⟨none, (.st 5 (.t 5) (.t 19)), none, 0⟩, ⟨(some 6), (.mv (.t 20)), none, 0⟩]) (.frz [5])) x3_13)
def x3_15 : XCode := (.seq (.seq (.reg false [⟨(some 12), (.mv (.t 0)), none, 0⟩, ⟨(some 13), (.call (.c (.fn 9 [])) [(.t 12)]), none, 0⟩, ⟨(some 11), (.mv (.t 13)), none, 0⟩, ⟨(some 14), (.ext (.t 11) 0), none, 0⟩, ⟨(some 15), (.ext (.t 11) 1), none, 0⟩, ⟨(some 3), (.new 28 [(.int .i64 0), (.int .i64 0), .nil, .nil, .nil]), none, 0⟩, ⟨none, (.st 5 (.t 3) (.t 14)), none, 0⟩, ⟨(some 4), (.mv (.t 15)), none, 0⟩]) (.frz [3])) x3_14)
def x3 : XFn := ⟨(.seq (.reg false [⟨(some 2), (.mv (.c (.bool false))), none, 0⟩]) x3_15), 63, [(.t 2)]⟩
theorem ok3 : FnOk Try.prog T 3 x3 := ⟨Try.f3, [.frz [], .frz [3], .frz [5], .frz [], .frz [], .frz [], .frz [], .frz [], .frz [], .frz [], .frz [], .frz [], .frz [], .frz [9]], Try.func3, by decide +kernel, by kernel_rfl⟩
def fl : List (Nat × XFn) := [(37, x37), (38, x38), (9, x9), (39, x39), (67, x67), (40, x40), (10, x10), (20, x20), (41, x41), (69, x69), (43, x43), (68, x68), (42, x42), (11, x11), (21, x21), (44, x44), (46, x46), (45, x45), (12, x12), (22, x22), (47, x47), (49, x49), (48, x48), (13, x13), (3, x3)]
theorem fl_ok : ∀ p ∈ fl, FnOk Try.prog T p.1 p.2 := by
  simp only [fl, List.forall_mem_cons]
  exact ⟨ok37, ok38, ok9, ok39, ok67, ok40, ok10, ok20, ok41, ok69, ok43, ok68, ok42, ok11, ok21, ok44, ok46, ok45, ok12, ok22, ok47, ok49, ok48, ok13, ok3, fun _ h => by cases h⟩
def roL : List Nat := [3, 11, 13, 20, 22, 37, 39, 41, 42, 43, 47, 48, 49, 68, 69]
def mkL : List Nat := [9, 10, 38, 40, 67]
def coL : List Nat := []
def modeF (n : Nat) : Nat := if roL.contains n then 1 else if mkL.contains n then 2 else if coL.contains n then 3 else 0
def E : Env := ⟨fnsL fl, modeF, szL tl⟩
end Go.Proofs.Ytohofoampalhoaa.X
