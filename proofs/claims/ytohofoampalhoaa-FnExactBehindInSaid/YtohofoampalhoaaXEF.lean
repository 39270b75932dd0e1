/- The seat's types and functions as X has them; the kernel checks each against the program. -/
import Derived.Test.YtohofoampalhoaaXSlG
set_option linter.unusedVariables false
set_option linter.unusedSimpArgs false
set_option maxRecDepth 100000
namespace Go.Proofs.Ytohofoampalhoaa.X
open Go
def tl : List (Nat × TI) := [(1, ⟨.other, 1, 8, [.nilfn]⟩),
  (2, ⟨(.int .i64), 1, 8, [(.int .i64 0)]⟩),
  (3, ⟨(.int .i64), 1, 8, [(.int .i64 0)]⟩),
  (4, ⟨.bool, 1, 1, [(.bool false)]⟩),
  (5, ⟨(.int .u8), 1, 1, [(.int .u8 0)]⟩),
  (6, ⟨(.int .u8), 1, 1, [(.int .u8 0)]⟩),
  (7, ⟨(.struct [(0, 2), (1, 3), (2, 4), (3, 6)]), 4, 24, [(.int .i64 0), (.int .i64 0), (.bool false), (.int .u8 0)]⟩),
  (8, ⟨(.struct [(0, 2), (1, 3), (2, 4), (3, 6)]), 4, 24, [(.int .i64 0), (.int .i64 0), (.bool false), (.int .u8 0)]⟩),
  (9, ⟨.str, 1, 16, [(.str (ByteArray.mk #[]))]⟩),
  (10, ⟨.str, 1, 16, [(.str (ByteArray.mk #[]))]⟩),
  (11, ⟨.str, 1, 16, [(.str (ByteArray.mk #[]))]⟩),
  (12, ⟨(.int .u64), 1, 8, [(.int .u64 0)]⟩),
  (15, ⟨.ptr, 1, 8, [.nilptr]⟩),
  (16, ⟨.ptr, 1, 8, [.nilptr]⟩),
  (17, ⟨.ptr, 1, 8, [.nilptr]⟩),
  (21, ⟨(.int .i32), 1, 4, [(.int .i32 0)]⟩),
  (22, ⟨(.slice 3), 1, 24, [.nil]⟩),
  (23, ⟨(.struct [(0, 3), (1, 3), (2, 22)]), 3, 40, [(.int .i64 0), (.int .i64 0), .nil]⟩),
  (24, ⟨(.struct [(0, 3), (1, 3), (2, 22)]), 3, 40, [(.int .i64 0), (.int .i64 0), .nil]⟩),
  (25, ⟨(.slice 68), 1, 24, [.nil]⟩),
  (26, ⟨(.slice 92), 1, 24, [.nil]⟩),
  (27, ⟨(.struct [(0, 24), (3, 25), (4, 26)]), 5, 88, [(.int .i64 0), (.int .i64 0), .nil, .nil, .nil]⟩),
  (28, ⟨(.struct [(0, 24), (3, 25), (4, 26)]), 5, 88, [(.int .i64 0), (.int .i64 0), .nil, .nil, .nil]⟩),
  (30, ⟨.other, 1, 8, [.nilfn]⟩),
  (31, ⟨.other, 1, 8, [.nilfn]⟩),
  (32, ⟨.other, 1, 8, [.nilfn]⟩),
  (33, ⟨.other, 1, 8, [.nilfn]⟩),
  (34, ⟨(.struct [(0, 3), (1, 3), (2, 22)]), 3, 40, [(.int .i64 0), (.int .i64 0), .nil]⟩),
  (35, ⟨(.slice 95), 1, 24, [.nil]⟩),
  (36, ⟨(.slice 101), 1, 24, [.nil]⟩),
  (37, ⟨(.struct [(0, 34), (3, 35), (4, 36)]), 5, 88, [(.int .i64 0), (.int .i64 0), .nil, .nil, .nil]⟩),
  (38, ⟨(.struct [(0, 34), (3, 35), (4, 36)]), 5, 88, [(.int .i64 0), (.int .i64 0), .nil, .nil, .nil]⟩),
  (39, ⟨.other, 1, 8, [.nilfn]⟩),
  (40, ⟨.other, 1, 8, [.nilfn]⟩),
  (41, ⟨.other, 1, 8, [.nilfn]⟩),
  (42, ⟨.other, 1, 8, [.nilfn]⟩),
  (44, ⟨.other, 1, 8, [.nilfn]⟩),
  (45, ⟨.other, 1, 8, [.nilfn]⟩),
  (46, ⟨.other, 1, 8, [.nilfn]⟩),
  (47, ⟨(.slice 60), 1, 24, [.nil]⟩),
  (48, ⟨.other, 1, 8, [.nilfn]⟩),
  (49, ⟨(.slice 4), 1, 24, [.nil]⟩),
  (51, ⟨.other, 1, 8, [.nilfn]⟩),
  (52, ⟨(.slice 62), 1, 24, [.nil]⟩),
  (53, ⟨.other, 1, 8, [.nilfn]⟩),
  (54, ⟨.other, 1, 8, [.nilfn]⟩),
  (55, ⟨.other, 1, 8, [.nilfn]⟩),
  (56, ⟨.other, 1, 8, [.nilfn]⟩),
  (57, ⟨.other, 1, 8, [.nilfn]⟩),
  (58, ⟨.other, 1, 8, [.nilfn]⟩),
  (59, ⟨(.struct [(0, 3), (1, 3), (2, 3), (3, 3)]), 4, 32, [(.int .i64 0), (.int .i64 0), (.int .i64 0), (.int .i64 0)]⟩),
  (60, ⟨(.struct [(0, 3), (1, 3), (2, 3), (3, 3)]), 4, 32, [(.int .i64 0), (.int .i64 0), (.int .i64 0), (.int .i64 0)]⟩),
  (61, ⟨.other, 1, 8, [.nilfn]⟩),
  (62, ⟨(.struct [(0, 3), (1, 3), (2, 3), (3, 3)]), 4, 32, [(.int .i64 0), (.int .i64 0), (.int .i64 0), (.int .i64 0)]⟩),
  (63, ⟨.other, 1, 8, [.nilfn]⟩),
  (64, ⟨.other, 1, 8, [.nilfn]⟩),
  (65, ⟨.other, 1, 8, [.nilfn]⟩),
  (66, ⟨.other, 1, 8, [.nilfn]⟩),
  (67, ⟨(.struct [(0, 24), (3, 26), (4, 22), (5, 3)]), 6, 96, [(.int .i64 0), (.int .i64 0), .nil, .nil, .nil, (.int .i64 0)]⟩),
  (68, ⟨(.struct [(0, 24), (3, 26), (4, 22), (5, 3)]), 6, 96, [(.int .i64 0), (.int .i64 0), .nil, .nil, .nil, (.int .i64 0)]⟩),
  (69, ⟨.other, 1, 8, [.nilfn]⟩),
  (70, ⟨.other, 1, 8, [.nilfn]⟩),
  (71, ⟨.other, 1, 8, [.nilfn]⟩),
  (72, ⟨.other, 1, 8, [.nilfn]⟩),
  (73, ⟨.other, 1, 8, [.nilfn]⟩),
  (74, ⟨.other, 1, 8, [.nilfn]⟩),
  (75, ⟨.other, 1, 8, [.nilfn]⟩),
  (76, ⟨.other, 1, 8, [.nilfn]⟩),
  (77, ⟨.other, 1, 8, [.nilfn]⟩),
  (78, ⟨.other, 1, 8, [.nilfn]⟩),
  (79, ⟨.other, 1, 8, [.nilfn]⟩),
  (80, ⟨.other, 1, 8, [.nilfn]⟩),
  (81, ⟨.other, 1, 8, [.nilfn]⟩),
  (82, ⟨.other, 1, 8, [.nilfn]⟩),
  (83, ⟨.other, 1, 8, [.nilfn]⟩),
  (84, ⟨.other, 1, 8, [.nilfn]⟩),
  (85, ⟨.other, 1, 8, [.nilfn]⟩),
  (86, ⟨.other, 1, 8, [.nilfn]⟩),
  (87, ⟨.other, 1, 8, [.nilfn]⟩),
  (88, ⟨.other, 1, 8, [.nilfn]⟩),
  (89, ⟨.other, 1, 8, [.nilfn]⟩),
  (90, ⟨.other, 1, 8, [.nilfn]⟩),
  (91, ⟨(.struct [(0, 3), (1, 3)]), 2, 16, [(.int .i64 0), (.int .i64 0)]⟩),
  (92, ⟨(.struct [(0, 3), (1, 3)]), 2, 16, [(.int .i64 0), (.int .i64 0)]⟩),
  (93, ⟨.other, 1, 8, [.nilfn]⟩),
  (94, ⟨(.struct [(0, 34), (3, 36), (4, 22), (5, 3)]), 6, 96, [(.int .i64 0), (.int .i64 0), .nil, .nil, .nil, (.int .i64 0)]⟩),
  (95, ⟨(.struct [(0, 34), (3, 36), (4, 22), (5, 3)]), 6, 96, [(.int .i64 0), (.int .i64 0), .nil, .nil, .nil, (.int .i64 0)]⟩),
  (96, ⟨.other, 1, 8, [.nilfn]⟩),
  (97, ⟨.other, 1, 8, [.nilfn]⟩),
  (98, ⟨.other, 1, 8, [.nilfn]⟩),
  (99, ⟨.other, 1, 8, [.nilfn]⟩),
  (100, ⟨.other, 1, 8, [.nilfn]⟩),
  (101, ⟨(.struct [(0, 3), (1, 3)]), 2, 16, [(.int .i64 0), (.int .i64 0)]⟩),
  (102, ⟨.other, 1, 8, [.nilfn]⟩),
  (103, ⟨.other, 1, 8, [.nilfn]⟩),
  (104, ⟨.other, 1, 8, [.nilfn]⟩),
  (105, ⟨.other, 1, 8, [.nilfn]⟩),
  (106, ⟨.other, 1, 8, [.nilfn]⟩),
  (107, ⟨.other, 1, 8, [.nilfn]⟩),
  (108, ⟨.other, 1, 8, [.nilfn]⟩),
  (109, ⟨.other, 1, 8, [.nilfn]⟩),
  (110, ⟨.other, 1, 8, [.nilfn]⟩),
  (111, ⟨.ptr, 1, 8, [.nilptr]⟩),
  (112, ⟨.ptr, 1, 8, [.nilptr]⟩),
  (113, ⟨.other, 1, 8, [.nilfn]⟩),
  (115, ⟨.other, 1, 8, [.nilfn]⟩),
  (116, ⟨.other, 1, 8, [.nilfn]⟩),
  (117, ⟨.other, 1, 8, [.nilfn]⟩),
  (118, ⟨(.int .u64), 1, 8, [(.int .u64 0)]⟩),
  (119, ⟨.other, 1, 8, [.nilfn]⟩),
  (120, ⟨.other, 1, 8, [.nilfn]⟩),
  (121, ⟨.other, 1, 8, [.nilfn]⟩),
  (122, ⟨.other, 1, 8, [.nilfn]⟩),
  (125, ⟨(.array 0 16), 0, 0, []⟩),
  (128, ⟨.other, 1, 8, [.nilfn]⟩),
  (129, ⟨(.int .u32), 1, 4, [(.int .u32 0)]⟩),
  (130, ⟨(.int .u8), 1, 1, [(.int .u8 0)]⟩),
  (131, ⟨(.int .u8), 1, 1, [(.int .u8 0)]⟩),
  (132, ⟨.other, 1, 8, [.nilfn]⟩),
  (133, ⟨.ptr, 1, 8, [.nilptr]⟩),
  (134, ⟨(.int .i32), 1, 4, [(.int .i32 0)]⟩),
  (135, ⟨(.int .i32), 1, 4, [(.int .i32 0)]⟩)]
abbrev T : Tab := tabL tl
theorem tl_ok : ∀ p ∈ tl, tabOf Try.prog p.1 = some p.2 := by
  simp only [tl, List.forall_mem_cons]
  exact ⟨by kernel_rfl, by kernel_rfl, by kernel_rfl, by kernel_rfl, by kernel_rfl, by kernel_rfl, by kernel_rfl, by kernel_rfl, by kernel_rfl, by kernel_rfl, by kernel_rfl, by kernel_rfl, by kernel_rfl, by kernel_rfl, by kernel_rfl, by kernel_rfl, by kernel_rfl, by kernel_rfl, by kernel_rfl, by kernel_rfl, by kernel_rfl, by kernel_rfl, by kernel_rfl, by kernel_rfl, by kernel_rfl, by kernel_rfl, by kernel_rfl, by kernel_rfl, by kernel_rfl, by kernel_rfl, by kernel_rfl, by kernel_rfl, by kernel_rfl, by kernel_rfl, by kernel_rfl, by kernel_rfl, by kernel_rfl, by kernel_rfl, by kernel_rfl, by kernel_rfl, by kernel_rfl, by kernel_rfl, by kernel_rfl, by kernel_rfl, by kernel_rfl, by kernel_rfl, by kernel_rfl, by kernel_rfl, by kernel_rfl, by kernel_rfl, by kernel_rfl, by kernel_rfl, by kernel_rfl, by kernel_rfl, by kernel_rfl, by kernel_rfl, by kernel_rfl, by kernel_rfl, by kernel_rfl, by kernel_rfl, by kernel_rfl, by kernel_rfl, by kernel_rfl, by kernel_rfl, by kernel_rfl, by kernel_rfl, by kernel_rfl, by kernel_rfl, by kernel_rfl, by kernel_rfl, by kernel_rfl, by kernel_rfl, by kernel_rfl, by kernel_rfl, by kernel_rfl, by kernel_rfl, by kernel_rfl, by kernel_rfl, by kernel_rfl, by kernel_rfl, by kernel_rfl, by kernel_rfl, by kernel_rfl, by kernel_rfl, by kernel_rfl, by kernel_rfl, by kernel_rfl, by kernel_rfl, by kernel_rfl, by kernel_rfl, by kernel_rfl, by kernel_rfl, by kernel_rfl, by kernel_rfl, by kernel_rfl, by kernel_rfl, by kernel_rfl, by kernel_rfl, by kernel_rfl, by kernel_rfl, by kernel_rfl, by kernel_rfl, by kernel_rfl, by kernel_rfl, by kernel_rfl, by kernel_rfl, by kernel_rfl, by kernel_rfl, by kernel_rfl, by kernel_rfl, by kernel_rfl, by kernel_rfl, by kernel_rfl, by kernel_rfl, by kernel_rfl, by kernel_rfl, by kernel_rfl, by kernel_rfl, by kernel_rfl, by kernel_rfl, by kernel_rfl, by kernel_rfl, fun _ h => by cases h⟩
/-- laws.eqIntS -/
def x20_1 : XCode := (.seq (.reg true [⟨(some 17), (.mv (.t 0)), none, 4⟩, ⟨(some 18), (.mv (.t 5)), none, 4⟩, ⟨(some 19), (.ia 1 (.t 17) (.t 18)), none, 4⟩, ⟨(some 20), (.ld none (.t 19)), none, 4⟩, ⟨(some 21), (.mv (.t 1)), none, 4⟩, ⟨(some 22), (.mv (.t 5)), none, 4⟩, ⟨(some 23), (.ia 1 (.t 21) (.t 22)), none, 4⟩, ⟨(some 24), (.ld none (.t 23)), none, 4⟩, ⟨(some 25), (.bin .neq (.t 20) (.t 24)), none, 4⟩]) (.cond (.t 25) (.seq (.reg false [⟨(some 4), (.mv (.c (.bool false))), none, 0⟩]) .ret) .skip))
def x20_2 : XCode := (.seq (.block 1 x20_1) (.reg false [⟨(some 15), (.mv (.t 5)), none, 0⟩, ⟨(some 16), (.bin .add (.t 15) (.c (.int .i64 1))), none, 0⟩, ⟨(some 5), (.mv (.t 16)), none, 0⟩]))
def x20_3 : XCode := (.seq (.seq (.reg false [⟨(some 11), (.mv (.t 5)), none, 0⟩, ⟨(some 12), (.mv (.t 0)), none, 0⟩, ⟨(some 13), (.len (.t 12)), none, 0⟩, ⟨(some 14), (.bin .lss (.t 11) (.t 13)), none, 0⟩]) (.cond (.t 14) .skip (.exit 0))) x20_2)
def x20_4 : XCode := (.block 0 (.loop [0, 1, 5] x20_3))
def x20_5 : XCode := x20_4
def x20_6 : XCode := (.seq (.seq (.reg false [⟨(some 5), (.mv (.c (.int .i64 0))), none, 0⟩]) x20_5) (.seq (.reg false [⟨(some 4), (.mv (.c (.bool true))), none, 0⟩]) .ret))
def x20_7 : XCode := (.seq (.seq (.reg false [⟨(some 6), (.mv (.t 0)), none, 0⟩, ⟨(some 7), (.len (.t 6)), none, 0⟩, ⟨(some 8), (.mv (.t 1)), none, 0⟩, ⟨(some 9), (.len (.t 8)), none, 0⟩, ⟨(some 10), (.bin .neq (.t 7) (.t 9)), none, 0⟩]) (.cond (.t 10) (.seq (.reg false [⟨(some 4), (.mv (.c (.bool false))), none, 0⟩]) .ret) .skip)) x20_6)
def x20 : XFn := ⟨(.seq (.reg false [⟨(some 4), (.mv (.c (.bool false))), none, 0⟩]) x20_7), 26, [(.t 4)]⟩
theorem ok20 : FnOk Try.prog T 20 x20 := ⟨Try.f20, [.loop [0, 1, 5], .draw [0, 1, 2, 3, 4, 5, 6, 7, 8] [4, 4, 4, 4, 4, 4, 4, 4, 4]], Try.func20, by decide +kernel, by kernel_rfl⟩
/-- laws.eqView -/
def x41_1 : XCode := (.seq (.seq (.reg false [⟨(some 15), (.fa 2 (.t 2)), none, 0⟩, ⟨(some 16), (.ld none (.t 15)), none, 0⟩, ⟨(some 17), (.fa 2 (.t 3)), none, 0⟩, ⟨(some 18), (.ld none (.t 17)), none, 0⟩, ⟨(some 19), (.call (.c (.fn 20 [])) [(.t 16), (.t 18)]), none, 0⟩, ⟨(some 20), (.un .not (.t 19)), none, 0⟩]) (.cond (.t 20) (.seq (.reg false [⟨(some 4), (.mv (.c (.bool false))), none, 0⟩]) .ret) .skip)) (.seq (.reg false [⟨(some 4), (.mv (.c (.bool true))), none, 0⟩]) .ret))
def x41_2 : XCode := (.seq (.seq (.reg false [⟨(some 10), (.fa 1 (.t 2)), none, 0⟩, ⟨(some 11), (.ld none (.t 10)), none, 0⟩, ⟨(some 12), (.fa 1 (.t 3)), none, 0⟩, ⟨(some 13), (.ld none (.t 12)), none, 0⟩, ⟨(some 14), (.bin .neq (.t 11) (.t 13)), none, 0⟩]) (.cond (.t 14) (.seq (.reg false [⟨(some 4), (.mv (.c (.bool false))), none, 0⟩]) .ret) .skip)) x41_1)
def x41_3 : XCode := (.seq (.seq (.reg false [⟨(some 5), (.fa 0 (.t 2)), none, 0⟩, ⟨(some 6), (.ld none (.t 5)), none, 0⟩, ⟨(some 7), (.fa 0 (.t 3)), none, 0⟩, ⟨(some 8), (.ld none (.t 7)), none, 0⟩, ⟨(some 9), (.bin .neq (.t 6) (.t 8)), none, 0⟩]) (.cond (.t 9) (.seq (.reg false [⟨(some 4), (.mv (.c (.bool false))), none, 0⟩]) .ret) .skip)) x41_2)
def x41 : XFn := ⟨(.seq (.seq (.reg false [⟨(some 2), (.box 24 3 (.t 0)), none, 0⟩, ⟨(some 3), (.box 24 3 (.t 1)), none, 0⟩, ⟨(some 4), (.mv (.c (.bool false))), none, 0⟩]) (.frz [2, 3])) x41_3), 21, [(.t 4)]⟩
theorem ok41 : FnOk Try.prog T 41 x41 := ⟨Try.f41, [.frz [2, 3]], Try.func41, by decide +kernel, by kernel_rfl⟩
/-- laws.eqRow -/
def x69_1 : XCode := (.seq (.seq (.reg false [⟨(some 10), (.fa 1 (.t 2)), none, 0⟩, ⟨(some 11), (.ld none (.t 10)), none, 0⟩, ⟨(some 12), (.fa 1 (.t 3)), none, 0⟩, ⟨(some 13), (.ld none (.t 12)), none, 0⟩, ⟨(some 14), (.bin .neq (.t 11) (.t 13)), none, 0⟩]) (.cond (.t 14) (.seq (.reg false [⟨(some 4), (.mv (.c (.bool false))), none, 0⟩]) .ret) .skip)) (.seq (.reg false [⟨(some 4), (.mv (.c (.bool true))), none, 0⟩]) .ret))
def x69_2 : XCode := (.seq (.seq (.reg false [⟨(some 5), (.fa 0 (.t 2)), none, 0⟩, ⟨(some 6), (.ld none (.t 5)), none, 0⟩, ⟨(some 7), (.fa 0 (.t 3)), none, 0⟩, ⟨(some 8), (.ld none (.t 7)), none, 0⟩, ⟨(some 9), (.bin .neq (.t 6) (.t 8)), none, 0⟩]) (.cond (.t 9) (.seq (.reg false [⟨(some 4), (.mv (.c (.bool false))), none, 0⟩]) .ret) .skip)) x69_1)
def x69 : XFn := ⟨(.seq (.seq (.reg false [⟨(some 2), (.box 92 2 (.t 0)), none, 0⟩, ⟨(some 3), (.box 92 2 (.t 1)), none, 0⟩, ⟨(some 4), (.mv (.c (.bool false))), none, 0⟩]) (.frz [2, 3])) x69_2), 15, [(.t 4)]⟩
theorem ok69 : FnOk Try.prog T 69 x69 := ⟨Try.f69, [.frz [2, 3]], Try.func69, by decide +kernel, by kernel_rfl⟩
/-- laws.eqRowS -/
def x43_1 : XCode := (.seq (.reg true [⟨(some 17), (.mv (.t 0)), none, 4⟩, ⟨(some 18), (.mv (.t 5)), none, 4⟩, ⟨(some 19), (.ia 2 (.t 17) (.t 18)), none, 4⟩, ⟨(some 20), (.ld (some 2) (.t 19)), none, 4⟩, ⟨(some 21), (.mv (.t 1)), none, 4⟩, ⟨(some 22), (.mv (.t 5)), none, 4⟩, ⟨(some 23), (.ia 2 (.t 21) (.t 22)), none, 4⟩, ⟨(some 24), (.ld (some 2) (.t 23)), none, 4⟩, ⟨(some 25), (.call (.c (.fn 69 [])) [(.t 20), (.t 24)]), none, 3⟩, ⟨(some 26), (.un .not (.t 25)), none, 4⟩]) (.cond (.t 26) (.seq (.reg false [⟨(some 4), (.mv (.c (.bool false))), none, 0⟩]) .ret) .skip))
def x43_2 : XCode := (.seq (.block 1 x43_1) (.reg false [⟨(some 15), (.mv (.t 5)), none, 0⟩, ⟨(some 16), (.bin .add (.t 15) (.c (.int .i64 1))), none, 0⟩, ⟨(some 5), (.mv (.t 16)), none, 0⟩]))
def x43_3 : XCode := (.seq (.seq (.reg false [⟨(some 11), (.mv (.t 5)), none, 0⟩, ⟨(some 12), (.mv (.t 0)), none, 0⟩, ⟨(some 13), (.len (.t 12)), none, 0⟩, ⟨(some 14), (.bin .lss (.t 11) (.t 13)), none, 0⟩]) (.cond (.t 14) .skip (.exit 0))) x43_2)
def x43_4 : XCode := (.block 0 (.loop [0, 1, 5] x43_3))
def x43_5 : XCode := x43_4
def x43_6 : XCode := (.seq (.seq (.reg false [⟨(some 5), (.mv (.c (.int .i64 0))), none, 0⟩]) x43_5) (.seq (.reg false [⟨(some 4), (.mv (.c (.bool true))), none, 0⟩]) .ret))
def x43_7 : XCode := (.seq (.seq (.reg false [⟨(some 6), (.mv (.t 0)), none, 0⟩, ⟨(some 7), (.len (.t 6)), none, 0⟩, ⟨(some 8), (.mv (.t 1)), none, 0⟩, ⟨(some 9), (.len (.t 8)), none, 0⟩, ⟨(some 10), (.bin .neq (.t 7) (.t 9)), none, 0⟩]) (.cond (.t 10) (.seq (.reg false [⟨(some 4), (.mv (.c (.bool false))), none, 0⟩]) .ret) .skip)) x43_6)
def x43 : XFn := ⟨(.seq (.reg false [⟨(some 4), (.mv (.c (.bool false))), none, 0⟩]) x43_7), 27, [(.t 4)]⟩
theorem ok43 : FnOk Try.prog T 43 x43 := ⟨Try.f43, [.loop [0, 1, 5], .draw [0, 1, 2, 3, 4, 5, 6, 7, 8, 9] [4, 4, 4, 4, 4, 4, 4, 4, 3, 4]], Try.func43, by decide +kernel, by kernel_rfl⟩
/-- laws.eqNode -/
def x68_1 : XCode := (.seq (.seq (.reg false [⟨(some 23), (.fa 5 (.t 2)), none, 0⟩, ⟨(some 24), (.ld none (.t 23)), none, 0⟩, ⟨(some 25), (.fa 5 (.t 3)), none, 0⟩, ⟨(some 26), (.ld none (.t 25)), none, 0⟩, ⟨(some 27), (.bin .neq (.t 24) (.t 26)), none, 0⟩]) (.cond (.t 27) (.seq (.reg false [⟨(some 4), (.mv (.c (.bool false))), none, 0⟩]) .ret) .skip)) (.seq (.reg false [⟨(some 4), (.mv (.c (.bool true))), none, 0⟩]) .ret))
def x68_2 : XCode := (.seq (.seq (.reg false [⟨(some 17), (.fa 4 (.t 2)), none, 0⟩, ⟨(some 18), (.ld none (.t 17)), none, 0⟩, ⟨(some 19), (.fa 4 (.t 3)), none, 0⟩, ⟨(some 20), (.ld none (.t 19)), none, 0⟩, ⟨(some 21), (.call (.c (.fn 20 [])) [(.t 18), (.t 20)]), none, 0⟩, ⟨(some 22), (.un .not (.t 21)), none, 0⟩]) (.cond (.t 22) (.seq (.reg false [⟨(some 4), (.mv (.c (.bool false))), none, 0⟩]) .ret) .skip)) x68_1)
def x68_3 : XCode := (.seq (.seq (.reg false [⟨(some 11), (.fa 3 (.t 2)), none, 0⟩, ⟨(some 12), (.ld none (.t 11)), none, 0⟩, ⟨(some 13), (.fa 3 (.t 3)), none, 0⟩, ⟨(some 14), (.ld none (.t 13)), none, 0⟩, ⟨(some 15), (.call (.c (.fn 43 [])) [(.t 12), (.t 14)]), none, 0⟩, ⟨(some 16), (.un .not (.t 15)), none, 0⟩]) (.cond (.t 16) (.seq (.reg false [⟨(some 4), (.mv (.c (.bool false))), none, 0⟩]) .ret) .skip)) x68_2)
def x68_4 : XCode := (.seq (.seq (.reg false [⟨(some 5), (.fa 0 (.t 2)), none, 0⟩, ⟨(some 6), (.ld (some 3) (.t 5)), none, 0⟩, ⟨(some 7), (.fa 0 (.t 3)), none, 0⟩, ⟨(some 8), (.ld (some 3) (.t 7)), none, 0⟩, ⟨(some 9), (.call (.c (.fn 41 [])) [(.t 6), (.t 8)]), none, 0⟩, ⟨(some 10), (.un .not (.t 9)), none, 0⟩]) (.cond (.t 10) (.seq (.reg false [⟨(some 4), (.mv (.c (.bool false))), none, 0⟩]) .ret) .skip)) x68_3)
def x68 : XFn := ⟨(.seq (.seq (.reg false [⟨(some 2), (.box 68 6 (.t 0)), none, 0⟩, ⟨(some 3), (.box 68 6 (.t 1)), none, 0⟩, ⟨(some 4), (.mv (.c (.bool false))), none, 0⟩]) (.frz [2, 3])) x68_4), 28, [(.t 4)]⟩
theorem ok68 : FnOk Try.prog T 68 x68 := ⟨Try.f68, [.frz [2, 3]], Try.func68, by decide +kernel, by kernel_rfl⟩
/-- laws.eqNodeS -/
def x42_1 : XCode := (.seq (.reg true [⟨(some 17), (.mv (.t 0)), none, 4⟩, ⟨(some 18), (.mv (.t 5)), none, 4⟩, ⟨(some 19), (.ia 6 (.t 17) (.t 18)), none, 4⟩, ⟨(some 20), (.ld (some 6) (.t 19)), none, 4⟩, ⟨(some 21), (.mv (.t 1)), none, 4⟩, ⟨(some 22), (.mv (.t 5)), none, 4⟩, ⟨(some 23), (.ia 6 (.t 21) (.t 22)), none, 4⟩, ⟨(some 24), (.ld (some 6) (.t 23)), none, 4⟩, ⟨(some 25), (.call (.c (.fn 68 [])) [(.t 20), (.t 24)]), none, 3⟩, ⟨(some 26), (.un .not (.t 25)), none, 4⟩]) (.cond (.t 26) (.seq (.reg false [⟨(some 4), (.mv (.c (.bool false))), none, 0⟩]) .ret) .skip))
def x42_2 : XCode := (.seq (.block 1 x42_1) (.reg false [⟨(some 15), (.mv (.t 5)), none, 0⟩, ⟨(some 16), (.bin .add (.t 15) (.c (.int .i64 1))), none, 0⟩, ⟨(some 5), (.mv (.t 16)), none, 0⟩]))
def x42_3 : XCode := (.seq (.seq (.reg false [⟨(some 11), (.mv (.t 5)), none, 0⟩, ⟨(some 12), (.mv (.t 0)), none, 0⟩, ⟨(some 13), (.len (.t 12)), none, 0⟩, ⟨(some 14), (.bin .lss (.t 11) (.t 13)), none, 0⟩]) (.cond (.t 14) .skip (.exit 0))) x42_2)
def x42_4 : XCode := (.block 0 (.loop [0, 1, 5] x42_3))
def x42_5 : XCode := x42_4
def x42_6 : XCode := (.seq (.seq (.reg false [⟨(some 5), (.mv (.c (.int .i64 0))), none, 0⟩]) x42_5) (.seq (.reg false [⟨(some 4), (.mv (.c (.bool true))), none, 0⟩]) .ret))
def x42_7 : XCode := (.seq (.seq (.reg false [⟨(some 6), (.mv (.t 0)), none, 0⟩, ⟨(some 7), (.len (.t 6)), none, 0⟩, ⟨(some 8), (.mv (.t 1)), none, 0⟩, ⟨(some 9), (.len (.t 8)), none, 0⟩, ⟨(some 10), (.bin .neq (.t 7) (.t 9)), none, 0⟩]) (.cond (.t 10) (.seq (.reg false [⟨(some 4), (.mv (.c (.bool false))), none, 0⟩]) .ret) .skip)) x42_6)
def x42 : XFn := ⟨(.seq (.reg false [⟨(some 4), (.mv (.c (.bool false))), none, 0⟩]) x42_7), 27, [(.t 4)]⟩
theorem ok42 : FnOk Try.prog T 42 x42 := ⟨Try.f42, [.loop [0, 1, 5], .draw [0, 1, 2, 3, 4, 5, 6, 7, 8, 9] [4, 4, 4, 4, 4, 4, 4, 4, 3, 4]], Try.func42, by decide +kernel, by kernel_rfl⟩
/-- laws.eqCluster -/
def x11_1 : XCode := (.seq (.seq (.reg false [⟨(some 17), (.fa 4 (.t 2)), none, 0⟩, ⟨(some 18), (.ld none (.t 17)), none, 0⟩, ⟨(some 19), (.fa 4 (.t 3)), none, 0⟩, ⟨(some 20), (.ld none (.t 19)), none, 0⟩, ⟨(some 21), (.call (.c (.fn 43 [])) [(.t 18), (.t 20)]), none, 0⟩, ⟨(some 22), (.un .not (.t 21)), none, 0⟩]) (.cond (.t 22) (.seq (.reg false [⟨(some 4), (.mv (.c (.bool false))), none, 0⟩]) .ret) .skip)) (.seq (.reg false [⟨(some 4), (.mv (.c (.bool true))), none, 0⟩]) .ret))
def x11_2 : XCode := (.seq (.seq (.reg false [⟨(some 11), (.fa 3 (.t 2)), none, 0⟩, ⟨(some 12), (.ld none (.t 11)), none, 0⟩, ⟨(some 13), (.fa 3 (.t 3)), none, 0⟩, ⟨(some 14), (.ld none (.t 13)), none, 0⟩, ⟨(some 15), (.call (.c (.fn 42 [])) [(.t 12), (.t 14)]), none, 0⟩, ⟨(some 16), (.un .not (.t 15)), none, 0⟩]) (.cond (.t 16) (.seq (.reg false [⟨(some 4), (.mv (.c (.bool false))), none, 0⟩]) .ret) .skip)) x11_1)
def x11_3 : XCode := (.seq (.seq (.reg false [⟨(some 5), (.fa 0 (.t 2)), none, 0⟩, ⟨(some 6), (.ld (some 3) (.t 5)), none, 0⟩, ⟨(some 7), (.fa 0 (.t 3)), none, 0⟩, ⟨(some 8), (.ld (some 3) (.t 7)), none, 0⟩, ⟨(some 9), (.call (.c (.fn 41 [])) [(.t 6), (.t 8)]), none, 0⟩, ⟨(some 10), (.un .not (.t 9)), none, 0⟩]) (.cond (.t 10) (.seq (.reg false [⟨(some 4), (.mv (.c (.bool false))), none, 0⟩]) .ret) .skip)) x11_2)
def x11 : XFn := ⟨(.seq (.seq (.reg false [⟨(some 2), (.box 28 5 (.t 0)), none, 0⟩, ⟨(some 3), (.box 28 5 (.t 1)), none, 0⟩, ⟨(some 4), (.mv (.c (.bool false))), none, 0⟩]) (.frz [2, 3])) x11_3), 23, [(.t 4)]⟩
theorem ok11 : FnOk Try.prog T 11 x11 := ⟨Try.f11, [.frz [2, 3]], Try.func11, by decide +kernel, by kernel_rfl⟩
/-- laws.markIntS -/
def x21_1 : XCode := (.seq (.reg false [⟨(some 12), (.mv (.t 0)), none, 0⟩, ⟨(some 13), (.mv (.t 5)), none, 0⟩, ⟨(some 14), (.mv (.t 1)), none, 0⟩, ⟨(some 15), (.ia 1 (.t 12) (.t 13)), none, 0⟩, ⟨none, (.st 1 (.t 15) (.t 14)), none, 0⟩]) (.reg false [⟨(some 16), (.mv (.t 1)), none, 0⟩, ⟨(some 17), (.bin .add (.t 16) (.c (.int .i64 1))), none, 0⟩, ⟨(some 1), (.mv (.t 17)), none, 0⟩]))
def x21_2 : XCode := (.seq (.block 1 x21_1) (.reg false [⟨(some 10), (.mv (.t 5)), none, 0⟩, ⟨(some 11), (.bin .add (.t 10) (.c (.int .i64 1))), none, 0⟩, ⟨(some 5), (.mv (.t 11)), none, 0⟩]))
def x21_3 : XCode := (.seq (.seq (.reg false [⟨(some 6), (.mv (.t 5)), none, 0⟩, ⟨(some 7), (.mv (.t 0)), none, 0⟩, ⟨(some 8), (.len (.t 7)), none, 0⟩, ⟨(some 9), (.bin .lss (.t 6) (.t 8)), none, 0⟩]) (.cond (.t 9) .skip (.exit 0))) x21_2)
def x21_4 : XCode := (.block 0 (.loop [0, 1, 5] x21_3))
def x21_5 : XCode := x21_4
def x21_6 : XCode := (.seq (.seq (.reg false [⟨(some 5), (.mv (.c (.int .i64 0))), none, 0⟩]) x21_5) (.seq (.reg false [⟨(some 18), (.mv (.t 1)), none, 0⟩, ⟨(some 4), (.mv (.t 18)), none, 0⟩]) .ret))
def x21 : XFn := ⟨(.seq (.reg false [⟨(some 4), (.mv (.c (.int .i64 0))), none, 0⟩]) x21_6), 19, [(.t 4)]⟩
theorem ok21 : FnOk Try.prog T 21 x21 := ⟨Try.f21, [.loop [0, 1, 5]], Try.func21, by decide +kernel, by kernel_rfl⟩
/-- laws.markView -/
def x44_1 : XCode := (.seq (.reg false [⟨(some 5), (.fa 2 (.t 2)), none, 0⟩, ⟨(some 6), (.ld none (.t 5)), none, 0⟩, ⟨(some 7), (.mv (.t 1)), none, 0⟩, ⟨(some 8), (.call (.c (.fn 21 [])) [(.t 6), (.t 7)]), none, 0⟩, ⟨(some 1), (.mv (.t 8)), none, 0⟩]) (.seq (.reg false [⟨(some 9), (.mv (.t 1)), none, 0⟩, ⟨(some 4), (.mv (.t 9)), none, 0⟩]) .ret))
def x44 : XFn := ⟨(.seq (.seq (.reg false [⟨(some 2), (.box 24 3 (.t 0)), none, 0⟩, ⟨(some 4), (.mv (.c (.int .i64 0))), none, 0⟩]) (.frz [2])) x44_1), 10, [(.t 4)]⟩
theorem ok44 : FnOk Try.prog T 44 x44 := ⟨Try.f44, [.frz [2]], Try.func44, by decide +kernel, by kernel_rfl⟩
/-- laws.markRowS -/
def x46_1 : XCode := (.seq (.reg false [⟨(some 19), (.mv (.t 0)), none, 0⟩, ⟨(some 20), (.mv (.t 5)), none, 0⟩, ⟨(some 21), (.mv (.t 1)), none, 0⟩, ⟨(some 22), (.ia 2 (.t 19) (.t 20)), none, 0⟩, ⟨(some 23), (.fa 1 (.t 22)), none, 0⟩, ⟨none, (.st 1 (.t 23) (.t 21)), none, 0⟩]) (.reg false [⟨(some 24), (.mv (.t 1)), none, 0⟩, ⟨(some 25), (.bin .add (.t 24) (.c (.int .i64 1))), none, 0⟩, ⟨(some 1), (.mv (.t 25)), none, 0⟩]))
def x46_2 : XCode := (.seq (.reg false [⟨(some 17), (.mv (.t 1)), none, 0⟩, ⟨(some 18), (.bin .add (.t 17) (.c (.int .i64 1))), none, 0⟩, ⟨(some 1), (.mv (.t 18)), none, 0⟩]) x46_1)
def x46_3 : XCode := (.seq (.reg false [⟨(some 12), (.mv (.t 0)), none, 0⟩, ⟨(some 13), (.mv (.t 5)), none, 0⟩, ⟨(some 14), (.mv (.t 1)), none, 0⟩, ⟨(some 15), (.ia 2 (.t 12) (.t 13)), none, 0⟩, ⟨(some 16), (.fa 0 (.t 15)), none, 0⟩, ⟨none, (.st 1 (.t 16) (.t 14)), none, 0⟩]) x46_2)
def x46_4 : XCode := (.seq (.block 1 x46_3) (.reg false [⟨(some 10), (.mv (.t 5)), none, 0⟩, ⟨(some 11), (.bin .add (.t 10) (.c (.int .i64 1))), none, 0⟩, ⟨(some 5), (.mv (.t 11)), none, 0⟩]))
def x46_5 : XCode := (.seq (.seq (.reg false [⟨(some 6), (.mv (.t 5)), none, 0⟩, ⟨(some 7), (.mv (.t 0)), none, 0⟩, ⟨(some 8), (.len (.t 7)), none, 0⟩, ⟨(some 9), (.bin .lss (.t 6) (.t 8)), none, 0⟩]) (.cond (.t 9) .skip (.exit 0))) x46_4)
def x46_6 : XCode := (.block 0 (.loop [0, 1, 5] x46_5))
def x46_7 : XCode := x46_6
def x46_8 : XCode := (.seq (.seq (.reg false [⟨(some 5), (.mv (.c (.int .i64 0))), none, 0⟩]) x46_7) (.seq (.reg false [⟨(some 26), (.mv (.t 1)), none, 0⟩, ⟨(some 4), (.mv (.t 26)), none, 0⟩]) .ret))
def x46 : XFn := ⟨(.seq (.reg false [⟨(some 4), (.mv (.c (.int .i64 0))), none, 0⟩]) x46_8), 27, [(.t 4)]⟩
theorem ok46 : FnOk Try.prog T 46 x46 := ⟨Try.f46, [.loop [0, 1, 5]], Try.func46, by decide +kernel, by kernel_rfl⟩
/-- laws.markNodeS -/
def x45_1 : XCode := (.seq (.reg false [⟨(some 50), (.mv (.t 0)), none, 0⟩, ⟨(some 51), (.mv (.t 5)), none, 0⟩, ⟨(some 52), (.mv (.t 1)), none, 0⟩, ⟨(some 53), (.ia 6 (.t 50) (.t 51)), none, 0⟩, ⟨(some 54), (.fa 5 (.t 53)), none, 0⟩, ⟨none, (.st 1 (.t 54) (.t 52)), none, 0⟩]) (.reg false [⟨(some 55), (.mv (.t 1)), none, 0⟩, ⟨(some 56), (.bin .add (.t 55) (.c (.int .i64 1))), none, 0⟩, ⟨(some 1), (.mv (.t 56)), none, 0⟩]))
def x45_2 : XCode := (.seq (.reg false [⟨(some 43), (.mv (.t 0)), none, 0⟩, ⟨(some 44), (.mv (.t 5)), none, 0⟩, ⟨(some 45), (.ia 6 (.t 43) (.t 44)), none, 0⟩, ⟨(some 46), (.fa 4 (.t 45)), none, 0⟩, ⟨(some 47), (.ld none (.t 46)), none, 0⟩, ⟨(some 48), (.mv (.t 1)), none, 0⟩, ⟨(some 49), (.call (.c (.fn 21 [])) [(.t 47), (.t 48)]), none, 0⟩, ⟨(some 1), (.mv (.t 49)), none, 0⟩]) x45_1)
def x45_3 : XCode := (.seq (.reg false [⟨(some 36), (.mv (.t 0)), none, 0⟩, ⟨(some 37), (.mv (.t 5)), none, 0⟩, ⟨(some 38), (.ia 6 (.t 36) (.t 37)), none, 0⟩, ⟨(some 39), (.fa 3 (.t 38)), none, 0⟩, ⟨(some 40), (.ld none (.t 39)), none, 0⟩, ⟨(some 41), (.mv (.t 1)), none, 0⟩, ⟨(some 42), (.call (.c (.fn 46 [])) [(.t 40), (.t 41)]), none, 0⟩, ⟨(some 1), (.mv (.t 42)), none, 0⟩]) x45_2)
def x45_4 : XCode := (.seq (.reg false [⟨(some 28), (.mv (.t 0)), none, 0⟩, ⟨(some 29), (.mv (.t 5)), none, 0⟩, ⟨(some 30), (.ia 6 (.t 28) (.t 29)), none, 0⟩, ⟨(some 31), (.fa 0 (.t 30)), none, 0⟩, ⟨(some 32), (.fa 2 (.t 31)), none, 0⟩, ⟨(some 33), (.ld none (.t 32)), none, 0⟩, ⟨(some 34), (.mv (.t 1)), none, 0⟩, ⟨(some 35), (.call (.c (.fn 21 [])) [(.t 33), (.t 34)]), none, 0⟩, ⟨(some 1), (.mv (.t 35)), none, 0⟩]) x45_3)
def x45_5 : XCode := (.seq (.reg false [⟨(some 26), (.mv (.t 1)), none, 0⟩, ⟨(some 27), (.bin .add (.t 26) (.c (.int .i64 1))), none, 0⟩, ⟨(some 1), (.mv (.t 27)), none, 0⟩]) x45_4)
def x45_6 : XCode := (.seq (.reg false [⟨(some 20), (.mv (.t 0)), none, 0⟩, ⟨(some 21), (.mv (.t 5)), none, 0⟩, ⟨(some 22), (.mv (.t 1)), none, 0⟩, ⟨(some 23), (.ia 6 (.t 20) (.t 21)), none, 0⟩, ⟨(some 24), (.fa 0 (.t 23)), none, 0⟩, ⟨(some 25), (.fa 1 (.t 24)), none, 0⟩, ⟨none, (.st 1 (.t 25) (.t 22)), none, 0⟩]) x45_5)
def x45_7 : XCode := (.seq (.reg false [⟨(some 18), (.mv (.t 1)), none, 0⟩, ⟨(some 19), (.bin .add (.t 18) (.c (.int .i64 1))), none, 0⟩, ⟨(some 1), (.mv (.t 19)), none, 0⟩]) x45_6)
def x45_8 : XCode := (.seq (.reg false [⟨(some 12), (.mv (.t 0)), none, 0⟩, ⟨(some 13), (.mv (.t 5)), none, 0⟩, ⟨(some 14), (.mv (.t 1)), none, 0⟩, ⟨(some 15), (.ia 6 (.t 12) (.t 13)), none, 0⟩, ⟨(some 16), (.fa 0 (.t 15)), none, 0⟩, ⟨(some 17), (.fa 0 (.t 16)), none, 0⟩, ⟨none, (.st 1 (.t 17) (.t 14)), none, 0⟩]) x45_7)
def x45_9 : XCode := (.seq (.block 1 x45_8) (.reg false [⟨(some 10), (.mv (.t 5)), none, 0⟩, ⟨(some 11), (.bin .add (.t 10) (.c (.int .i64 1))), none, 0⟩, ⟨(some 5), (.mv (.t 11)), none, 0⟩]))
def x45_10 : XCode := (.seq (.seq (.reg false [⟨(some 6), (.mv (.t 5)), none, 0⟩, ⟨(some 7), (.mv (.t 0)), none, 0⟩, ⟨(some 8), (.len (.t 7)), none, 0⟩, ⟨(some 9), (.bin .lss (.t 6) (.t 8)), none, 0⟩]) (.cond (.t 9) .skip (.exit 0))) x45_9)
def x45_11 : XCode := (.block 0 (.loop [0, 1, 5] x45_10))
def x45_12 : XCode := x45_11
def x45_13 : XCode := (.seq (.seq (.reg false [⟨(some 5), (.mv (.c (.int .i64 0))), none, 0⟩]) x45_12) (.seq (.reg false [⟨(some 57), (.mv (.t 1)), none, 0⟩, ⟨(some 4), (.mv (.t 57)), none, 0⟩]) .ret))
def x45 : XFn := ⟨(.seq (.reg false [⟨(some 4), (.mv (.c (.int .i64 0))), none, 0⟩]) x45_13), 58, [(.t 4)]⟩
theorem ok45 : FnOk Try.prog T 45 x45 := ⟨Try.f45, [.loop [0, 1, 5]], Try.func45, by decide +kernel, by kernel_rfl⟩
/-- laws.markCluster -/
def x12_1 : XCode := (.seq (.reg false [⟨(some 13), (.fa 4 (.t 2)), none, 0⟩, ⟨(some 14), (.ld none (.t 13)), none, 0⟩, ⟨(some 15), (.mv (.t 1)), none, 0⟩, ⟨(some 16), (.call (.c (.fn 46 [])) [(.t 14), (.t 15)]), none, 0⟩, ⟨(some 1), (.mv (.t 16)), none, 0⟩]) (.seq (.reg false [⟨(some 17), (.mv (.t 1)), none, 0⟩, ⟨(some 4), (.mv (.t 17)), none, 0⟩]) .ret))
def x12_2 : XCode := (.seq (.reg false [⟨(some 9), (.fa 3 (.t 2)), none, 0⟩, ⟨(some 10), (.ld none (.t 9)), none, 0⟩, ⟨(some 11), (.mv (.t 1)), none, 0⟩, ⟨(some 12), (.call (.c (.fn 45 [])) [(.t 10), (.t 11)]), none, 0⟩, ⟨(some 1), (.mv (.t 12)), none, 0⟩]) x12_1)
def x12_3 : XCode := (.seq (.reg false [⟨(some 5), (.fa 0 (.t 2)), none, 0⟩, ⟨(some 6), (.ld (some 3) (.t 5)), none, 0⟩, ⟨(some 7), (.mv (.t 1)), none, 0⟩, ⟨(some 8), (.call (.c (.fn 44 [])) [(.t 6), (.t 7)]), none, 0⟩, ⟨(some 1), (.mv (.t 8)), none, 0⟩]) x12_2)
def x12 : XFn := ⟨(.seq (.seq (.reg false [⟨(some 2), (.box 28 5 (.t 0)), none, 0⟩, ⟨(some 4), (.mv (.c (.int .i64 0))), none, 0⟩]) (.frz [2])) x12_3), 18, [(.t 4)]⟩
theorem ok12 : FnOk Try.prog T 12 x12 := ⟨Try.f12, [.frz [2]], Try.func12, by decide +kernel, by kernel_rfl⟩
/-- laws.szIntS -/
def x70_1 : XCode := (.seq (.seq (.reg false [⟨(some 9), (.mv (.t 1)), none, 0⟩, ⟨(some 10), (.bin .lss (.t 9) (.c (.int .i64 0))), none, 0⟩]) (.cond (.t 10) (.seq (.reg false [⟨(some 4), (.mv (.c (.int .i64 (-1)))), none, 0⟩]) .ret) .skip)) (.seq (.reg false [⟨(some 11), (.mv (.t 1)), none, 0⟩, ⟨(some 4), (.mv (.t 11)), none, 0⟩]) .ret))
def x70_2 : XCode := (.seq (.reg false [⟨(some 5), (.mv (.t 1)), none, 0⟩, ⟨(some 6), (.mv (.t 0)), none, 0⟩, ⟨(some 7), (.len (.t 6)), none, 0⟩, ⟨(some 8), (.bin .sub (.t 5) (.t 7)), none, 0⟩, ⟨(some 1), (.mv (.t 8)), none, 0⟩]) x70_1)
def x70 : XFn := ⟨(.seq (.reg false [⟨(some 4), (.mv (.c (.int .i64 0))), none, 0⟩]) x70_2), 12, [(.t 4)]⟩
theorem ok70 : FnOk Try.prog T 70 x70 := ⟨Try.f70, [], Try.func70, by decide +kernel, by kernel_rfl⟩
/-- laws.szView -/
def x50_1 : XCode := (.seq (.seq (.reg false [⟨(some 9), (.mv (.t 1)), none, 0⟩, ⟨(some 10), (.bin .lss (.t 9) (.c (.int .i64 0))), none, 0⟩]) (.cond (.t 10) (.seq (.reg false [⟨(some 4), (.mv (.c (.int .i64 (-1)))), none, 0⟩]) .ret) .skip)) (.seq (.reg false [⟨(some 11), (.mv (.t 1)), none, 0⟩, ⟨(some 4), (.mv (.t 11)), none, 0⟩]) .ret))
def x50_2 : XCode := (.seq (.reg false [⟨(some 5), (.fa 2 (.t 2)), none, 0⟩, ⟨(some 6), (.ld none (.t 5)), none, 0⟩, ⟨(some 7), (.mv (.t 1)), none, 0⟩, ⟨(some 8), (.call (.c (.fn 70 [])) [(.t 6), (.t 7)]), none, 0⟩, ⟨(some 1), (.mv (.t 8)), none, 0⟩]) x50_1)
def x50 : XFn := ⟨(.seq (.seq (.reg false [⟨(some 2), (.box 34 3 (.t 0)), none, 0⟩, ⟨(some 4), (.mv (.c (.int .i64 0))), none, 0⟩]) (.frz [2])) x50_2), 12, [(.t 4)]⟩
theorem ok50 : FnOk Try.prog T 50 x50 := ⟨Try.f50, [.frz [2]], Try.func50, by decide +kernel, by kernel_rfl⟩
/-- laws.szRowS -/
def x52_1 : XCode := (.seq (.seq (.reg false [⟨(some 9), (.mv (.t 1)), none, 0⟩, ⟨(some 10), (.bin .lss (.t 9) (.c (.int .i64 0))), none, 0⟩]) (.cond (.t 10) (.seq (.reg false [⟨(some 4), (.mv (.c (.int .i64 (-1)))), none, 0⟩]) .ret) .skip)) (.seq (.reg false [⟨(some 11), (.mv (.t 1)), none, 0⟩, ⟨(some 4), (.mv (.t 11)), none, 0⟩]) .ret))
def x52_2 : XCode := (.seq (.reg false [⟨(some 5), (.mv (.t 1)), none, 0⟩, ⟨(some 6), (.mv (.t 0)), none, 0⟩, ⟨(some 7), (.len (.t 6)), none, 0⟩, ⟨(some 8), (.bin .sub (.t 5) (.t 7)), none, 0⟩, ⟨(some 1), (.mv (.t 8)), none, 0⟩]) x52_1)
def x52 : XFn := ⟨(.seq (.reg false [⟨(some 4), (.mv (.c (.int .i64 0))), none, 0⟩]) x52_2), 12, [(.t 4)]⟩
theorem ok52 : FnOk Try.prog T 52 x52 := ⟨Try.f52, [], Try.func52, by decide +kernel, by kernel_rfl⟩
/-- laws.szNode -/
def x71_1 : XCode := (.seq (.seq (.reg false [⟨(some 21), (.mv (.t 1)), none, 0⟩, ⟨(some 22), (.bin .lss (.t 21) (.c (.int .i64 0))), none, 0⟩]) (.cond (.t 22) (.seq (.reg false [⟨(some 4), (.mv (.c (.int .i64 (-1)))), none, 0⟩]) .ret) .skip)) (.seq (.reg false [⟨(some 23), (.mv (.t 1)), none, 0⟩, ⟨(some 4), (.mv (.t 23)), none, 0⟩]) .ret))
def x71_2 : XCode := (.seq (.reg false [⟨(some 17), (.fa 4 (.t 2)), none, 0⟩, ⟨(some 18), (.ld none (.t 17)), none, 0⟩, ⟨(some 19), (.mv (.t 1)), none, 0⟩, ⟨(some 20), (.call (.c (.fn 70 [])) [(.t 18), (.t 19)]), none, 0⟩, ⟨(some 1), (.mv (.t 20)), none, 0⟩]) x71_1)
def x71_3 : XCode := (.seq (.seq (.reg false [⟨(some 15), (.mv (.t 1)), none, 0⟩, ⟨(some 16), (.bin .lss (.t 15) (.c (.int .i64 0))), none, 0⟩]) (.cond (.t 16) (.seq (.reg false [⟨(some 4), (.mv (.c (.int .i64 (-1)))), none, 0⟩]) .ret) .skip)) x71_2)
def x71_4 : XCode := (.seq (.reg false [⟨(some 11), (.fa 3 (.t 2)), none, 0⟩, ⟨(some 12), (.ld none (.t 11)), none, 0⟩, ⟨(some 13), (.mv (.t 1)), none, 0⟩, ⟨(some 14), (.call (.c (.fn 52 [])) [(.t 12), (.t 13)]), none, 0⟩, ⟨(some 1), (.mv (.t 14)), none, 0⟩]) x71_3)
def x71_5 : XCode := (.seq (.seq (.reg false [⟨(some 9), (.mv (.t 1)), none, 0⟩, ⟨(some 10), (.bin .lss (.t 9) (.c (.int .i64 0))), none, 0⟩]) (.cond (.t 10) (.seq (.reg false [⟨(some 4), (.mv (.c (.int .i64 (-1)))), none, 0⟩]) .ret) .skip)) x71_4)
def x71_6 : XCode := (.seq (.reg false [⟨(some 5), (.fa 0 (.t 2)), none, 0⟩, ⟨(some 6), (.ld (some 3) (.t 5)), none, 0⟩, ⟨(some 7), (.mv (.t 1)), none, 0⟩, ⟨(some 8), (.call (.c (.fn 50 [])) [(.t 6), (.t 7)]), none, 0⟩, ⟨(some 1), (.mv (.t 8)), none, 0⟩]) x71_5)
def x71 : XFn := ⟨(.seq (.seq (.reg false [⟨(some 2), (.box 95 6 (.t 0)), none, 0⟩, ⟨(some 4), (.mv (.c (.int .i64 0))), none, 0⟩]) (.frz [2])) x71_6), 24, [(.t 4)]⟩
theorem ok71 : FnOk Try.prog T 71 x71 := ⟨Try.f71, [.frz [2]], Try.func71, by decide +kernel, by kernel_rfl⟩
/-- laws.szNodeS -/
def x51_1 : XCode := (.seq (.reg false [⟨(some 24), (.mv (.t 1)), none, 0⟩, ⟨(some 25), (.bin .lss (.t 24) (.c (.int .i64 0))), none, 0⟩]) (.cond (.t 25) (.seq (.reg false [⟨(some 4), (.mv (.c (.int .i64 (-1)))), none, 0⟩]) .ret) .skip))
def x51_2 : XCode := (.seq (.reg false [⟨(some 18), (.mv (.t 0)), none, 0⟩, ⟨(some 19), (.mv (.t 5)), none, 0⟩, ⟨(some 20), (.ia 6 (.t 18) (.t 19)), none, 0⟩, ⟨(some 21), (.ld (some 6) (.t 20)), none, 0⟩, ⟨(some 22), (.mv (.t 1)), none, 0⟩, ⟨(some 23), (.call (.c (.fn 71 [])) [(.t 21), (.t 22)]), none, 0⟩, ⟨(some 1), (.mv (.t 23)), none, 0⟩]) x51_1)
def x51_3 : XCode := (.seq (.block 1 x51_2) (.reg false [⟨(some 16), (.mv (.t 5)), none, 0⟩, ⟨(some 17), (.bin .add (.t 16) (.c (.int .i64 1))), none, 0⟩, ⟨(some 5), (.mv (.t 17)), none, 0⟩]))
def x51_4 : XCode := (.seq (.seq (.reg false [⟨(some 12), (.mv (.t 5)), none, 0⟩, ⟨(some 13), (.mv (.t 0)), none, 0⟩, ⟨(some 14), (.len (.t 13)), none, 0⟩, ⟨(some 15), (.bin .lss (.t 12) (.t 14)), none, 0⟩]) (.cond (.t 15) .skip (.exit 0))) x51_3)
def x51_5 : XCode := (.block 0 (.loop [0, 1, 5] x51_4))
def x51_6 : XCode := x51_5
def x51_7 : XCode := (.seq (.seq (.reg false [⟨(some 5), (.mv (.c (.int .i64 0))), none, 0⟩]) x51_6) (.seq (.reg false [⟨(some 26), (.mv (.t 1)), none, 0⟩, ⟨(some 4), (.mv (.t 26)), none, 0⟩]) .ret))
def x51_8 : XCode := (.seq (.seq (.reg false [⟨(some 10), (.mv (.t 1)), none, 0⟩, ⟨(some 11), (.bin .lss (.t 10) (.c (.int .i64 0))), none, 0⟩]) (.cond (.t 11) (.seq (.reg false [⟨(some 4), (.mv (.c (.int .i64 (-1)))), none, 0⟩]) .ret) .skip)) x51_7)
def x51_9 : XCode := (.seq (.reg false [⟨(some 6), (.mv (.t 1)), none, 0⟩, ⟨(some 7), (.mv (.t 0)), none, 0⟩, ⟨(some 8), (.len (.t 7)), none, 0⟩, ⟨(some 9), (.bin .sub (.t 6) (.t 8)), none, 0⟩, ⟨(some 1), (.mv (.t 9)), none, 0⟩]) x51_8)
def x51 : XFn := ⟨(.seq (.reg false [⟨(some 4), (.mv (.c (.int .i64 0))), none, 0⟩]) x51_9), 27, [(.t 4)]⟩
theorem ok51 : FnOk Try.prog T 51 x51 := ⟨Try.f51, [.loop [0, 1, 5]], Try.func51, by decide +kernel, by kernel_rfl⟩
/-- laws.szCluster -/
def x14_1 : XCode := (.seq (.seq (.reg false [⟨(some 21), (.mv (.t 1)), none, 0⟩, ⟨(some 22), (.bin .lss (.t 21) (.c (.int .i64 0))), none, 0⟩]) (.cond (.t 22) (.seq (.reg false [⟨(some 4), (.mv (.c (.int .i64 (-1)))), none, 0⟩]) .ret) .skip)) (.seq (.reg false [⟨(some 23), (.mv (.t 1)), none, 0⟩, ⟨(some 4), (.mv (.t 23)), none, 0⟩]) .ret))
def x14_2 : XCode := (.seq (.reg false [⟨(some 17), (.fa 4 (.t 2)), none, 0⟩, ⟨(some 18), (.ld none (.t 17)), none, 0⟩, ⟨(some 19), (.mv (.t 1)), none, 0⟩, ⟨(some 20), (.call (.c (.fn 52 [])) [(.t 18), (.t 19)]), none, 0⟩, ⟨(some 1), (.mv (.t 20)), none, 0⟩]) x14_1)
def x14_3 : XCode := (.seq (.seq (.reg false [⟨(some 15), (.mv (.t 1)), none, 0⟩, ⟨(some 16), (.bin .lss (.t 15) (.c (.int .i64 0))), none, 0⟩]) (.cond (.t 16) (.seq (.reg false [⟨(some 4), (.mv (.c (.int .i64 (-1)))), none, 0⟩]) .ret) .skip)) x14_2)
def x14_4 : XCode := (.seq (.reg false [⟨(some 11), (.fa 3 (.t 2)), none, 0⟩, ⟨(some 12), (.ld none (.t 11)), none, 0⟩, ⟨(some 13), (.mv (.t 1)), none, 0⟩, ⟨(some 14), (.call (.c (.fn 51 [])) [(.t 12), (.t 13)]), none, 0⟩, ⟨(some 1), (.mv (.t 14)), none, 0⟩]) x14_3)
def x14_5 : XCode := (.seq (.seq (.reg false [⟨(some 9), (.mv (.t 1)), none, 0⟩, ⟨(some 10), (.bin .lss (.t 9) (.c (.int .i64 0))), none, 0⟩]) (.cond (.t 10) (.seq (.reg false [⟨(some 4), (.mv (.c (.int .i64 (-1)))), none, 0⟩]) .ret) .skip)) x14_4)
def x14_6 : XCode := (.seq (.reg false [⟨(some 5), (.fa 0 (.t 2)), none, 0⟩, ⟨(some 6), (.ld (some 3) (.t 5)), none, 0⟩, ⟨(some 7), (.mv (.t 1)), none, 0⟩, ⟨(some 8), (.call (.c (.fn 50 [])) [(.t 6), (.t 7)]), none, 0⟩, ⟨(some 1), (.mv (.t 8)), none, 0⟩]) x14_5)
def x14 : XFn := ⟨(.seq (.seq (.reg false [⟨(some 2), (.box 38 5 (.t 0)), none, 0⟩, ⟨(some 4), (.mv (.c (.int .i64 0))), none, 0⟩]) (.frz [2])) x14_6), 24, [(.t 4)]⟩
theorem ok14 : FnOk Try.prog T 14 x14 := ⟨Try.f14, [.frz [2]], Try.func14, by decide +kernel, by kernel_rfl⟩
/-- laws.toIntS -/
def x75_1 : XCode := (.reg false [⟨(some 14), (.mv (.t 3)), none, 0⟩, ⟨(some 15), (.mv (.t 4)), none, 0⟩, ⟨(some 16), (.mv (.t 0)), none, 0⟩, ⟨(some 17), (.mv (.t 4)), none, 0⟩, ⟨(some 18), (.ia 1 (.t 16) (.t 17)), none, 0⟩, ⟨(some 19), (.ld none (.t 18)), none, 0⟩, ⟨(some 20), (.ia 1 (.t 14) (.t 15)), none, 0⟩, ⟨none, (.st 1 (.t 20) (.t 19)), none, 0⟩])
def x75_2 : XCode := (.seq (.block 1 x75_1) (.reg false [⟨(some 12), (.mv (.t 4)), none, 0⟩, ⟨(some 13), (.bin .add (.t 12) (.c (.int .i64 1))), none, 0⟩, ⟨(some 4), (.mv (.t 13)), none, 0⟩]))
def x75_3 : XCode := (.seq (.seq (.reg false [⟨(some 8), (.mv (.t 4)), none, 0⟩, ⟨(some 9), (.mv (.t 0)), none, 0⟩, ⟨(some 10), (.len (.t 9)), none, 0⟩, ⟨(some 11), (.bin .lss (.t 8) (.t 10)), none, 0⟩]) (.cond (.t 11) .skip (.exit 0))) x75_2)
def x75_4 : XCode := (.block 0 (.loop [0, 3, 4] x75_3))
def x75_5 : XCode := x75_4
def x75_6 : XCode := (.seq (.seq (.reg false [⟨(some 4), (.mv (.c (.int .i64 0))), none, 0⟩]) x75_5) (.seq (.reg false [⟨(some 21), (.mv (.t 3)), none, 0⟩, ⟨(some 2), (.mv (.t 21)), none, 0⟩]) .ret))
def x75_7 : XCode := (.seq (.reg false [⟨(some 5), (.mv (.t 0)), none, 0⟩, ⟨(some 6), (.len (.t 5)), none, 0⟩, ⟨(some 7), (.mkS 3 1 8 [(.int .i64 0)] (.t 6) (.t 6)), none, 0⟩, ⟨(some 3), (.mv (.t 7)), none, 0⟩]) x75_6)
def x75 : XFn := ⟨(.seq (.reg false [⟨(some 2), (.mv (.c .nil)), none, 0⟩]) x75_7), 22, [(.t 2)]⟩
theorem ok75 : FnOk Try.prog T 75 x75 := ⟨Try.f75, [.loop [0, 3, 4]], Try.func75, by decide +kernel, by kernel_rfl⟩
/-- laws.toView -/
def x56_1 : XCode := (.seq (.reg false [⟨(some 10), (.fa 2 (.t 1)), none, 0⟩, ⟨(some 11), (.ld none (.t 10)), none, 0⟩, ⟨(some 12), (.call (.c (.fn 75 [])) [(.t 11)]), none, 0⟩, ⟨(some 13), (.fa 2 (.t 3)), none, 0⟩, ⟨none, (.st 1 (.t 13) (.t 12)), none, 0⟩]) (.seq (.reg false [⟨(some 14), (.ld (some 3) (.t 3)), none, 0⟩, ⟨none, (.st 3 (.t 2) (.t 14)), none, 0⟩]) .ret))
def x56_2 : XCode := (.seq (.reg false [⟨(some 7), (.fa 1 (.t 1)), none, 0⟩, ⟨(some 8), (.ld none (.t 7)), none, 0⟩, ⟨(some 9), (.fa 1 (.t 3)), none, 0⟩, ⟨none, (.st 1 (.t 9) (.t 8)), none, 0⟩]) x56_1)
def x56_3 : XCode := (.seq (.reg false [⟨(some 4), (.fa 0 (.t 1)), none, 0⟩, ⟨(some 5), (.ld none (.t 4)), none, 0⟩, ⟨(some 6), (.fa 0 (.t 3)), none, 0⟩, ⟨none, (.st 1 (.t 6) (.t 5)), none, 0⟩]) x56_2)
def x56_4 : XCode := (.seq (.reg false [⟨(some 3), (.new 24 [(.int .i64 0), (.int .i64 0), .nil]), none, 0⟩]) x56_3)
def x56 : XFn := ⟨(.seq (.seq (.reg false [⟨(some 1), (.box 34 3 (.t 0)), none, 0⟩, ⟨(some 2), (.new 24 [(.int .i64 0), (.int .i64 0), .nil]), none, 0⟩]) (.frz [1])) x56_4), 15, [(.cell 2 (some 3))]⟩
theorem ok56 : FnOk Try.prog T 56 x56 := ⟨Try.f56, [.frz [1]], Try.func56, by decide +kernel, by kernel_rfl⟩
/-- laws.toRow -/
def x77_1 : XCode := (.seq (.reg false [⟨(some 7), (.fa 1 (.t 1)), none, 0⟩, ⟨(some 8), (.ld none (.t 7)), none, 0⟩, ⟨(some 9), (.fa 1 (.t 3)), none, 0⟩, ⟨none, (.st 1 (.t 9) (.t 8)), none, 0⟩]) (.seq (.reg false [⟨(some 10), (.ld (some 2) (.t 3)), none, 0⟩, ⟨none, (.st 2 (.t 2) (.t 10)), none, 0⟩]) .ret))
def x77_2 : XCode := (.seq (.reg false [⟨(some 4), (.fa 0 (.t 1)), none, 0⟩, ⟨(some 5), (.ld none (.t 4)), none, 0⟩, ⟨(some 6), (.fa 0 (.t 3)), none, 0⟩, ⟨none, (.st 1 (.t 6) (.t 5)), none, 0⟩]) x77_1)
def x77_3 : XCode := (.seq (.reg false [⟨(some 3), (.new 92 [(.int .i64 0), (.int .i64 0)]), none, 0⟩]) x77_2)
def x77 : XFn := ⟨(.seq (.seq (.reg false [⟨(some 1), (.box 101 2 (.t 0)), none, 0⟩, ⟨(some 2), (.new 92 [(.int .i64 0), (.int .i64 0)]), none, 0⟩]) (.frz [1])) x77_3), 11, [(.cell 2 (some 2))]⟩
theorem ok77 : FnOk Try.prog T 77 x77 := ⟨Try.f77, [.frz [1]], Try.func77, by decide +kernel, by kernel_rfl⟩
/-- laws.toRowS -/
def x58_1 : XCode := (.reg false [⟨(some 14), (.mv (.t 3)), none, 0⟩, ⟨(some 15), (.mv (.t 4)), none, 0⟩, ⟨(some 16), (.mv (.t 0)), none, 0⟩, ⟨(some 17), (.mv (.t 4)), none, 0⟩, ⟨(some 18), (.ia 2 (.t 16) (.t 17)), none, 0⟩, ⟨(some 19), (.ld (some 2) (.t 18)), none, 0⟩, ⟨(some 20), (.call (.c (.fn 77 [])) [(.t 19)]), none, 0⟩, ⟨(some 21), (.ia 2 (.t 14) (.t 15)), none, 0⟩, ⟨none, (.st 2 (.t 21) (.t 20)), none, 0⟩])
def x58_2 : XCode := (.seq (.block 1 x58_1) (.reg false [⟨(some 12), (.mv (.t 4)), none, 0⟩, ⟨(some 13), (.bin .add (.t 12) (.c (.int .i64 1))), none, 0⟩, ⟨(some 4), (.mv (.t 13)), none, 0⟩]))
def x58_3 : XCode := (.seq (.seq (.reg false [⟨(some 8), (.mv (.t 4)), none, 0⟩, ⟨(some 9), (.mv (.t 0)), none, 0⟩, ⟨(some 10), (.len (.t 9)), none, 0⟩, ⟨(some 11), (.bin .lss (.t 8) (.t 10)), none, 0⟩]) (.cond (.t 11) .skip (.exit 0))) x58_2)
def x58_4 : XCode := (.block 0 (.loop [0, 3, 4] x58_3))
def x58_5 : XCode := x58_4
def x58_6 : XCode := (.seq (.seq (.reg false [⟨(some 4), (.mv (.c (.int .i64 0))), none, 0⟩]) x58_5) (.seq (.reg false [⟨(some 22), (.mv (.t 3)), none, 0⟩, ⟨(some 2), (.mv (.t 22)), none, 0⟩]) .ret))
def x58_7 : XCode := (.seq (.reg false [⟨(some 5), (.mv (.t 0)), none, 0⟩, ⟨(some 6), (.len (.t 5)), none, 0⟩, ⟨(some 7), (.mkS 92 2 16 [(.int .i64 0), (.int .i64 0)] (.t 6) (.t 6)), none, 0⟩, ⟨(some 3), (.mv (.t 7)), none, 0⟩]) x58_6)
def x58 : XFn := ⟨(.seq (.reg false [⟨(some 2), (.mv (.c .nil)), none, 0⟩]) x58_7), 23, [(.t 2)]⟩
theorem ok58 : FnOk Try.prog T 58 x58 := ⟨Try.f58, [.loop [0, 3, 4]], Try.func58, by decide +kernel, by kernel_rfl⟩
/-- laws.toNode -/
def x76_1 : XCode := (.seq (.reg false [⟨(some 16), (.fa 5 (.t 1)), none, 0⟩, ⟨(some 17), (.ld none (.t 16)), none, 0⟩, ⟨(some 18), (.fa 5 (.t 3)), none, 0⟩, ⟨none, (.st 1 (.t 18) (.t 17)), none, 0⟩]) (.seq (.reg false [⟨(some 19), (.ld (some 6) (.t 3)), none, 0⟩, ⟨none, (.st 6 (.t 2) (.t 19)), none, 0⟩]) .ret))
def x76_2 : XCode := (.seq (.reg false [⟨(some 12), (.fa 4 (.t 1)), none, 0⟩, ⟨(some 13), (.ld none (.t 12)), none, 0⟩, ⟨(some 14), (.call (.c (.fn 75 [])) [(.t 13)]), none, 0⟩, ⟨(some 15), (.fa 4 (.t 3)), none, 0⟩, ⟨none, (.st 1 (.t 15) (.t 14)), none, 0⟩]) x76_1)
def x76_3 : XCode := (.seq (.reg false [⟨(some 8), (.fa 3 (.t 1)), none, 0⟩, ⟨(some 9), (.ld none (.t 8)), none, 0⟩, ⟨(some 10), (.call (.c (.fn 58 [])) [(.t 9)]), none, 0⟩, ⟨(some 11), (.fa 3 (.t 3)), none, 0⟩, ⟨none, (.st 1 (.t 11) (.t 10)), none, 0⟩]) x76_2)
def x76_4 : XCode := (.seq (.reg false [⟨(some 4), (.fa 0 (.t 1)), none, 0⟩, ⟨(some 5), (.ld (some 3) (.t 4)), none, 0⟩, ⟨(some 6), (.call (.c (.fn 56 [])) [(.t 5)]), none, 0⟩, ⟨(some 7), (.fa 0 (.t 3)), none, 0⟩, ⟨none, (.st 3 (.t 7) (.t 6)), none, 0⟩]) x76_3)
def x76_5 : XCode := (.seq (.reg false [⟨(some 3), (.new 68 [(.int .i64 0), (.int .i64 0), .nil, .nil, .nil, (.int .i64 0)]), none, 0⟩]) x76_4)
def x76 : XFn := ⟨(.seq (.seq (.reg false [⟨(some 1), (.box 95 6 (.t 0)), none, 0⟩, ⟨(some 2), (.new 68 [(.int .i64 0), (.int .i64 0), .nil, .nil, .nil, (.int .i64 0)]), none, 0⟩]) (.frz [1])) x76_5), 20, [(.cell 2 (some 6))]⟩
theorem ok76 : FnOk Try.prog T 76 x76 := ⟨Try.f76, [.frz [1]], Try.func76, by decide +kernel, by kernel_rfl⟩
/-- laws.toNodeS -/
def x57_1 : XCode := (.reg false [⟨(some 14), (.mv (.t 3)), none, 0⟩, ⟨(some 15), (.mv (.t 4)), none, 0⟩, ⟨(some 16), (.mv (.t 0)), none, 0⟩, ⟨(some 17), (.mv (.t 4)), none, 0⟩, ⟨(some 18), (.ia 6 (.t 16) (.t 17)), none, 0⟩, ⟨(some 19), (.ld (some 6) (.t 18)), none, 0⟩, ⟨(some 20), (.call (.c (.fn 76 [])) [(.t 19)]), none, 0⟩, ⟨(some 21), (.ia 6 (.t 14) (.t 15)), none, 0⟩, ⟨none, (.st 6 (.t 21) (.t 20)), none, 0⟩])
def x57_2 : XCode := (.seq (.block 1 x57_1) (.reg false [⟨(some 12), (.mv (.t 4)), none, 0⟩, ⟨(some 13), (.bin .add (.t 12) (.c (.int .i64 1))), none, 0⟩, ⟨(some 4), (.mv (.t 13)), none, 0⟩]))
def x57_3 : XCode := (.seq (.seq (.reg false [⟨(some 8), (.mv (.t 4)), none, 0⟩, ⟨(some 9), (.mv (.t 0)), none, 0⟩, ⟨(some 10), (.len (.t 9)), none, 0⟩, ⟨(some 11), (.bin .lss (.t 8) (.t 10)), none, 0⟩]) (.cond (.t 11) .skip (.exit 0))) x57_2)
def x57_4 : XCode := (.block 0 (.loop [0, 3, 4] x57_3))
def x57_5 : XCode := x57_4
def x57_6 : XCode := (.seq (.seq (.reg false [⟨(some 4), (.mv (.c (.int .i64 0))), none, 0⟩]) x57_5) (.seq (.reg false [⟨(some 22), (.mv (.t 3)), none, 0⟩, ⟨(some 2), (.mv (.t 22)), none, 0⟩]) .ret))
def x57_7 : XCode := (.seq (.reg false [⟨(some 5), (.mv (.t 0)), none, 0⟩, ⟨(some 6), (.len (.t 5)), none, 0⟩, ⟨(some 7), (.mkS 68 6 96 [(.int .i64 0), (.int .i64 0), .nil, .nil, .nil, (.int .i64 0)] (.t 6) (.t 6)), none, 0⟩, ⟨(some 3), (.mv (.t 7)), none, 0⟩]) x57_6)
def x57 : XFn := ⟨(.seq (.reg false [⟨(some 2), (.mv (.c .nil)), none, 0⟩]) x57_7), 23, [(.t 2)]⟩
theorem ok57 : FnOk Try.prog T 57 x57 := ⟨Try.f57, [.loop [0, 3, 4]], Try.func57, by decide +kernel, by kernel_rfl⟩
/-- laws.toCluster -/
def x16_1 : XCode := (.seq (.reg false [⟨(some 12), (.fa 4 (.t 1)), none, 0⟩, ⟨(some 13), (.ld none (.t 12)), none, 0⟩, ⟨(some 14), (.call (.c (.fn 58 [])) [(.t 13)]), none, 0⟩, ⟨(some 15), (.fa 4 (.t 3)), none, 0⟩, ⟨none, (.st 1 (.t 15) (.t 14)), none, 0⟩]) (.seq (.reg false [⟨(some 16), (.ld (some 5) (.t 3)), none, 0⟩, ⟨none, (.st 5 (.t 2) (.t 16)), none, 0⟩]) .ret))
def x16_2 : XCode := (.seq (.reg false [⟨(some 8), (.fa 3 (.t 1)), none, 0⟩, ⟨(some 9), (.ld none (.t 8)), none, 0⟩, ⟨(some 10), (.call (.c (.fn 57 [])) [(.t 9)]), none, 0⟩, ⟨(some 11), (.fa 3 (.t 3)), none, 0⟩, ⟨none, (.st 1 (.t 11) (.t 10)), none, 0⟩]) x16_1)
def x16_3 : XCode := (.seq (.reg false [⟨(some 4), (.fa 0 (.t 1)), none, 0⟩, ⟨(some 5), (.ld (some 3) (.t 4)), none, 0⟩, ⟨(some 6), (.call (.c (.fn 56 [])) [(.t 5)]), none, 0⟩, ⟨(some 7), (.fa 0 (.t 3)), none, 0⟩, ⟨none, (.st 3 (.t 7) (.t 6)), none, 0⟩]) x16_2)
def x16_4 : XCode := (.seq (.reg false [⟨(some 3), (.new 28 [(.int .i64 0), (.int .i64 0), .nil, .nil, .nil]), none, 0⟩]) x16_3)
def x16 : XFn := ⟨(.seq (.seq (.reg false [⟨(some 1), (.box 38 5 (.t 0)), none, 0⟩, ⟨(some 2), (.new 28 [(.int .i64 0), (.int .i64 0), .nil, .nil, .nil]), none, 0⟩]) (.frz [1])) x16_4), 17, [(.cell 2 (some 5))]⟩
theorem ok16 : FnOk Try.prog T 16 x16 := ⟨Try.f16, [.frz [1]], Try.func16, by decide +kernel, by kernel_rfl⟩
/-- laws.heldIntS -/
def x22_1 : XCode := (.seq (.seq (.reg false [⟨(some 12), (.mv (.t 0)), none, 0⟩, ⟨(some 13), (.mv (.t 5)), none, 0⟩, ⟨(some 14), (.ia 1 (.t 12) (.t 13)), none, 0⟩, ⟨(some 15), (.ld none (.t 14)), none, 0⟩, ⟨(some 16), (.mv (.t 1)), none, 0⟩, ⟨(some 17), (.bin .neq (.t 15) (.t 16)), none, 0⟩]) (.cond (.t 17) (.seq (.reg false [⟨(some 4), (.mv (.c (.int .i64 (-1)))), none, 0⟩]) .ret) .skip)) (.reg false [⟨(some 18), (.mv (.t 1)), none, 0⟩, ⟨(some 19), (.bin .add (.t 18) (.c (.int .i64 1))), none, 0⟩, ⟨(some 1), (.mv (.t 19)), none, 0⟩]))
def x22_2 : XCode := (.seq (.block 1 x22_1) (.reg false [⟨(some 10), (.mv (.t 5)), none, 0⟩, ⟨(some 11), (.bin .add (.t 10) (.c (.int .i64 1))), none, 0⟩, ⟨(some 5), (.mv (.t 11)), none, 0⟩]))
def x22_3 : XCode := (.seq (.seq (.reg false [⟨(some 6), (.mv (.t 5)), none, 0⟩, ⟨(some 7), (.mv (.t 0)), none, 0⟩, ⟨(some 8), (.len (.t 7)), none, 0⟩, ⟨(some 9), (.bin .lss (.t 6) (.t 8)), none, 0⟩]) (.cond (.t 9) .skip (.exit 0))) x22_2)
def x22_4 : XCode := (.block 0 (.loop [0, 1, 5] x22_3))
def x22_5 : XCode := x22_4
def x22_6 : XCode := (.seq (.seq (.reg false [⟨(some 5), (.mv (.c (.int .i64 0))), none, 0⟩]) x22_5) (.seq (.reg false [⟨(some 20), (.mv (.t 1)), none, 0⟩, ⟨(some 4), (.mv (.t 20)), none, 0⟩]) .ret))
def x22 : XFn := ⟨(.seq (.reg false [⟨(some 4), (.mv (.c (.int .i64 0))), none, 0⟩]) x22_6), 21, [(.t 4)]⟩
theorem ok22 : FnOk Try.prog T 22 x22 := ⟨Try.f22, [.loop [0, 1, 5]], Try.func22, by decide +kernel, by kernel_rfl⟩
/-- spec.l1In -/
def x37_1 : XCode := (.seq (.reg false [⟨(some 7), (.mv (.t 0)), none, 0⟩, ⟨(some 8), (.mv (.t 1)), none, 0⟩, ⟨(some 9), (.bin .geq (.t 7) (.t 8)), none, 0⟩, ⟨(some 10), (.mv (.t 9)), none, 0⟩, ⟨(some 11), (.mv (.t 0)), (some (10, true)), 0⟩, ⟨(some 12), (.mv (.t 2)), (some (10, true)), 0⟩, ⟨(some 13), (.bin .leq (.t 11) (.t 12)), (some (10, true)), 0⟩, ⟨(some 14), (.pick (.t 10) (.t 13) (.c (.bool false))), none, 0⟩, ⟨(some 6), (.mv (.t 14)), none, 0⟩]) .ret)
def x37 : XFn := ⟨(.seq (.reg false [⟨(some 6), (.mv (.c (.bool false))), none, 0⟩]) x37_1), 15, [(.t 6)]⟩
theorem ok37 : FnOk Try.prog T 37 x37 := ⟨Try.f37, [], Try.func37, by decide +kernel, by kernel_rfl⟩
/-- spec.l6Group -/
def x72_1 : XCode := (.seq (.reg false [⟨(some 14), (.mv (.t 6)), none, 0⟩, ⟨(some 15), (.bin .lss (.t 14) (.c (.int .i64 0))), none, 0⟩, ⟨(some 16), (.mv (.t 15)), none, 0⟩, ⟨(some 17), (.mv (.t 6)), (some (16, false)), 0⟩, ⟨(some 18), (.mv (.t 1)), (some (16, false)), 0⟩, ⟨(some 19), (.bin .geq (.t 17) (.t 18)), (some (16, false)), 0⟩, ⟨(some 20), (.pick (.t 16) (.c (.bool true)) (.t 19)), none, 0⟩, ⟨(some 21), (.mv (.t 20)), none, 0⟩, ⟨(some 22), (.mv (.t 5)), (some (21, false)), 0⟩, ⟨(some 23), (.bin .gtr (.t 22) (.c (.int .i64 0))), (some (21, false)), 0⟩, ⟨(some 24), (.mv (.t 23)), (some (21, false)), 0⟩, ⟨(some 25), (.mv (.t 0)), (some (24, true)), 0⟩, ⟨(some 26), (.mv (.t 5)), (some (24, true)), 0⟩, ⟨(some 27), (.bin .sub (.t 26) (.c (.int .i64 1))), (some (24, true)), 0⟩, ⟨(some 28), (.ia 1 (.t 25) (.t 27)), (some (24, true)), 0⟩, ⟨(some 29), (.ld none (.t 28)), (some (24, true)), 0⟩, ⟨(some 30), (.mv (.t 6)), (some (24, true)), 0⟩, ⟨(some 31), (.bin .geq (.t 29) (.t 30)), (some (24, true)), 0⟩, ⟨(some 32), (.pick (.t 24) (.t 31) (.c (.bool false))), (some (21, false)), 0⟩, ⟨(some 33), (.pick (.t 21) (.c (.bool true)) (.t 32)), none, 0⟩]) (.cond (.t 33) (.seq (.reg false [⟨(some 4), (.mv (.c (.bool false))), none, 0⟩]) .ret) .skip))
def x72_2 : XCode := (.seq (.reg false [⟨(some 11), (.mv (.t 9)), none, 0⟩, ⟨(some 12), (.ia 1 (.t 7) (.t 9)), none, 0⟩, ⟨(some 13), (.ld none (.t 12)), none, 0⟩, ⟨(some 5), (.mv (.t 11)), none, 0⟩, ⟨(some 6), (.mv (.t 13)), none, 0⟩]) x72_1)
def x72_3 : XCode := (.block 0 (.loop [0, 1, 7, 8, 9] (.seq (.reg false [⟨(some 10), (.bin .lss (.t 9) (.t 8)), none, 0⟩]) (.seq (.cond (.t 10) .skip (.exit 0)) (.seq (.block 1 x72_2) (.reg false [⟨(some 34), (.bin .add (.t 9) (.c (.int .i64 1))), none, 0⟩, ⟨(some 9), (.mv (.t 34)), none, 0⟩]))))))
def x72_4 : XCode := x72_3
def x72_5 : XCode := (.seq (.seq (.reg false [⟨(some 7), (.mv (.t 0)), none, 0⟩, ⟨(some 8), (.len (.t 7)), none, 0⟩, ⟨(some 9), (.mv (.c (.int .i64 0))), none, 0⟩]) x72_4) (.seq (.reg false [⟨(some 4), (.mv (.c (.bool true))), none, 0⟩]) .ret))
def x72 : XFn := ⟨(.seq (.reg false [⟨(some 4), (.mv (.c (.bool false))), none, 0⟩]) x72_5), 35, [(.t 4)]⟩
theorem ok72 : FnOk Try.prog T 72 x72 := ⟨Try.f72, [.loop [0, 1, 7, 8, 9]], Try.func72, by decide +kernel, by kernel_rfl⟩
/-- spec.l1Has -/
def x73_1 : XCode := (.seq (.reg false [⟨(some 13), (.mv (.t 6)), none, 0⟩, ⟨(some 14), (.mv (.t 1)), none, 0⟩, ⟨(some 15), (.bin .eql (.t 13) (.t 14)), none, 0⟩]) (.cond (.t 15) (.seq (.reg false [⟨(some 4), (.mv (.c (.bool true))), none, 0⟩]) .ret) .skip))
def x73_2 : XCode := (.seq (.reg false [⟨(some 11), (.ia 1 (.t 7) (.t 9)), none, 0⟩, ⟨(some 12), (.ld none (.t 11)), none, 0⟩, ⟨(some 6), (.mv (.t 12)), none, 0⟩]) x73_1)
def x73_3 : XCode := (.block 0 (.loop [1, 7, 8, 9] (.seq (.reg false [⟨(some 10), (.bin .lss (.t 9) (.t 8)), none, 0⟩]) (.seq (.cond (.t 10) .skip (.exit 0)) (.seq (.block 1 x73_2) (.reg false [⟨(some 16), (.bin .add (.t 9) (.c (.int .i64 1))), none, 0⟩, ⟨(some 9), (.mv (.t 16)), none, 0⟩]))))))
def x73_4 : XCode := x73_3
def x73_5 : XCode := (.seq (.seq (.reg false [⟨(some 7), (.mv (.t 0)), none, 0⟩, ⟨(some 8), (.len (.t 7)), none, 0⟩, ⟨(some 9), (.mv (.c (.int .i64 0))), none, 0⟩]) x73_4) (.seq (.reg false [⟨(some 4), (.mv (.c (.bool false))), none, 0⟩]) .ret))
def x73 : XFn := ⟨(.seq (.reg false [⟨(some 4), (.mv (.c (.bool false))), none, 0⟩]) x73_5), 17, [(.t 4)]⟩
theorem ok73 : FnOk Try.prog T 73 x73 := ⟨Try.f73, [.loop [1, 7, 8, 9]], Try.func73, by decide +kernel, by kernel_rfl⟩
/-- spec.l17View -/
def x53_1 : XCode := (.seq (.reg false [⟨(some 5), (.fa 0 (.t 2)), none, 0⟩, ⟨(some 6), (.ld none (.t 5)), none, 0⟩, ⟨(some 7), (.call (.c (.fn 37 [])) [(.t 6), (.c (.int .i64 0)), (.c (.int .i64 100))]), none, 0⟩, ⟨(some 8), (.mv (.t 7)), none, 0⟩, ⟨(some 9), (.fa 2 (.t 2)), (some (8, true)), 0⟩, ⟨(some 10), (.ld none (.t 9)), (some (8, true)), 0⟩, ⟨(some 11), (.mv (.t 1)), (some (8, true)), 0⟩, ⟨(some 12), (.call (.c (.fn 72 [])) [(.t 10), (.t 11)]), (some (8, true)), 0⟩, ⟨(some 13), (.pick (.t 8) (.t 12) (.c (.bool false))), none, 0⟩, ⟨(some 14), (.mv (.t 13)), none, 0⟩, ⟨(some 15), (.fa 2 (.t 2)), (some (14, true)), 0⟩, ⟨(some 16), (.ld none (.t 15)), (some (14, true)), 0⟩, ⟨(some 17), (.fa 1 (.t 2)), (some (14, true)), 0⟩, ⟨(some 18), (.ld none (.t 17)), (some (14, true)), 0⟩, ⟨(some 19), (.call (.c (.fn 73 [])) [(.t 16), (.t 18)]), (some (14, true)), 0⟩, ⟨(some 20), (.pick (.t 14) (.t 19) (.c (.bool false))), none, 0⟩, ⟨(some 4), (.mv (.t 20)), none, 0⟩]) .ret)
def x53 : XFn := ⟨(.seq (.seq (.reg false [⟨(some 2), (.box 24 3 (.t 0)), none, 0⟩, ⟨(some 4), (.mv (.c (.bool false))), none, 0⟩]) (.frz [2])) x53_1), 21, [(.t 4)]⟩
theorem ok53 : FnOk Try.prog T 53 x53 := ⟨Try.f53, [.frz [2]], Try.func53, by decide +kernel, by kernel_rfl⟩
/-- spec.l11Log -/
def x54_1 : XCode := (.seq (.reg true [⟨(some 14), (.fa 0 (.t 6)), none, 4⟩, ⟨(some 15), (.ld none (.t 14)), none, 4⟩, ⟨(some 16), (.mv (.t 1)), none, 4⟩, ⟨(some 17), (.call (.c (.fn 37 [])) [(.t 15), (.c (.int .i64 0)), (.t 16)]), none, 3⟩, ⟨(some 18), (.un .not (.t 17)), none, 4⟩, ⟨(some 19), (.mv (.t 18)), none, 4⟩, ⟨(some 20), (.fa 1 (.t 6)), (some (19, false)), 4⟩, ⟨(some 21), (.ld none (.t 20)), (some (19, false)), 4⟩, ⟨(some 22), (.call (.c (.fn 37 [])) [(.t 21), (.c (.int .i64 0)), (.c (.int .i64 99))]), (some (19, false)), 3⟩, ⟨(some 23), (.un .not (.t 22)), (some (19, false)), 4⟩, ⟨(some 24), (.pick (.t 19) (.c (.bool true)) (.t 23)), none, 4⟩, ⟨(some 25), (.mv (.t 24)), none, 4⟩, ⟨(some 26), (.mv (.t 5)), (some (25, false)), 4⟩, ⟨(some 27), (.bin .gtr (.t 26) (.c (.int .i64 0))), (some (25, false)), 4⟩, ⟨(some 28), (.mv (.t 27)), (some (25, false)), 4⟩, ⟨(some 29), (.mv (.t 0)), (some (28, true)), 4⟩, ⟨(some 30), (.mv (.t 5)), (some (28, true)), 4⟩, ⟨(some 31), (.bin .sub (.t 30) (.c (.int .i64 1))), (some (28, true)), 4⟩, ⟨(some 32), (.ia 2 (.t 29) (.t 31)), (some (28, true)), 4⟩, ⟨(some 33), (.fa 0 (.t 32)), (some (28, true)), 4⟩, ⟨(some 34), (.ld none (.t 33)), (some (28, true)), 4⟩, ⟨(some 35), (.fa 0 (.t 6)), (some (28, true)), 4⟩, ⟨(some 36), (.ld none (.t 35)), (some (28, true)), 4⟩, ⟨(some 37), (.bin .gtr (.t 34) (.t 36)), (some (28, true)), 4⟩, ⟨(some 38), (.pick (.t 28) (.t 37) (.c (.bool false))), (some (25, false)), 4⟩, ⟨(some 39), (.pick (.t 25) (.c (.bool true)) (.t 38)), none, 4⟩]) (.cond (.t 39) (.seq (.reg false [⟨(some 4), (.mv (.c (.bool false))), none, 0⟩]) .ret) .skip))
def x54_2 : XCode := (.seq (.seq (.reg false [⟨(some 11), (.mv (.t 9)), none, 0⟩, ⟨(some 12), (.ia 2 (.t 7) (.t 9)), none, 0⟩, ⟨(some 13), (.ld (some 2) (.t 12)), none, 0⟩, ⟨(some 6), (.new 92 [(.int .i64 0), (.int .i64 0)]), none, 0⟩, ⟨(some 5), (.mv (.t 11)), none, 0⟩, ⟨none, (.st 2 (.t 6) (.t 13)), none, 0⟩]) (.frz [6])) x54_1)
def x54_3 : XCode := (.block 0 (.loop [0, 1, 7, 8, 9] (.seq (.reg false [⟨(some 10), (.bin .lss (.t 9) (.t 8)), none, 0⟩]) (.seq (.cond (.t 10) .skip (.exit 0)) (.seq (.block 1 x54_2) (.reg false [⟨(some 40), (.bin .add (.t 9) (.c (.int .i64 1))), none, 0⟩, ⟨(some 9), (.mv (.t 40)), none, 0⟩]))))))
def x54_4 : XCode := x54_3
def x54_5 : XCode := (.seq (.reg false [⟨(some 41), (.mv (.t 0)), none, 0⟩, ⟨(some 42), (.len (.t 41)), none, 0⟩, ⟨(some 43), (.bin .leq (.t 42) (.c (.int .i64 30))), none, 0⟩, ⟨(some 4), (.mv (.t 43)), none, 0⟩]) .ret)
def x54_6 : XCode := (.seq (.seq (.reg false [⟨(some 7), (.mv (.t 0)), none, 0⟩, ⟨(some 8), (.len (.t 7)), none, 0⟩, ⟨(some 9), (.mv (.c (.int .i64 0))), none, 0⟩]) x54_4) x54_5)
def x54 : XFn := ⟨(.seq (.reg false [⟨(some 4), (.mv (.c (.bool false))), none, 0⟩]) x54_6), 44, [(.t 4)]⟩
theorem ok54 : FnOk Try.prog T 54 x54 := ⟨Try.f54, [.loop [0, 1, 7, 8, 9], .frz [], .frz [6], .draw [0, 1, 2, 3, 4, 5, 6, 7, 8, 9, 10, 11, 12, 13, 14, 15, 16, 17, 18, 19, 20, 21, 22, 23, 24, 25] [4, 4, 4, 3, 4, 4, 4, 4, 3, 4, 4, 4, 4, 4, 4, 4, 4, 4, 4, 4, 4, 4, 4, 4, 4, 4]], Try.func54, by decide +kernel, by kernel_rfl⟩
/-- spec.l17Thinks -/
def x60_1 : XCode := (.seq (.reg false [⟨(some 5), (.fa 3 (.t 2)), none, 0⟩, ⟨(some 6), (.ld none (.t 5)), none, 0⟩, ⟨(some 7), (.mv (.t 1)), none, 0⟩, ⟨(some 8), (.ia 6 (.t 6) (.t 7)), none, 0⟩, ⟨(some 9), (.fa 0 (.t 8)), none, 0⟩, ⟨(some 10), (.fa 1 (.t 9)), none, 0⟩, ⟨(some 11), (.ld none (.t 10)), none, 0⟩, ⟨(some 12), (.mv (.t 1)), none, 0⟩, ⟨(some 13), (.bin .eql (.t 11) (.t 12)), none, 0⟩, ⟨(some 4), (.mv (.t 13)), none, 0⟩]) .ret)
def x60 : XFn := ⟨(.seq (.seq (.reg false [⟨(some 2), (.box 28 5 (.t 0)), none, 0⟩, ⟨(some 4), (.mv (.c (.bool false))), none, 0⟩]) (.frz [2])) x60_1), 14, [(.t 4)]⟩
theorem ok60 : FnOk Try.prog T 60 x60 := ⟨Try.f60, [.frz [2]], Try.func60, by decide +kernel, by kernel_rfl⟩
/-- spec.l11Same -/
def x74_1 : XCode := (.seq (.seq (.reg true [⟨(some 6), (.mv (.t 5)), none, 4⟩, ⟨(some 7), (.mv (.t 0)), none, 4⟩, ⟨(some 8), (.len (.t 7)), none, 4⟩, ⟨(some 9), (.bin .lss (.t 6) (.t 8)), none, 4⟩, ⟨(some 10), (.mv (.t 9)), none, 4⟩, ⟨(some 11), (.mv (.t 5)), (some (10, true)), 4⟩, ⟨(some 12), (.mv (.t 1)), (some (10, true)), 4⟩, ⟨(some 13), (.len (.t 12)), (some (10, true)), 4⟩, ⟨(some 14), (.bin .lss (.t 11) (.t 13)), (some (10, true)), 4⟩, ⟨(some 15), (.pick (.t 10) (.t 14) (.c (.bool false))), none, 4⟩, ⟨(some 16), (.mv (.t 15)), none, 4⟩, ⟨(some 17), (.mv (.t 0)), (some (16, true)), 4⟩, ⟨(some 18), (.mv (.t 5)), (some (16, true)), 4⟩, ⟨(some 19), (.ia 2 (.t 17) (.t 18)), (some (16, true)), 4⟩, ⟨(some 20), (.ld (some 2) (.t 19)), (some (16, true)), 4⟩, ⟨(some 21), (.mv (.t 1)), (some (16, true)), 4⟩, ⟨(some 22), (.mv (.t 5)), (some (16, true)), 4⟩, ⟨(some 23), (.ia 2 (.t 21) (.t 22)), (some (16, true)), 4⟩, ⟨(some 24), (.ld (some 2) (.t 23)), (some (16, true)), 4⟩, ⟨(some 25), (.eqs false [(.int .i64), (.int .i64)] (.t 20) (.t 24)), (some (16, true)), 4⟩, ⟨(some 26), (.pick (.t 16) (.t 25) (.c (.bool false))), none, 4⟩]) (.cond (.t 26) .skip (.exit 0))) (.block 1 (.reg false [⟨(some 27), (.mv (.t 5)), none, 0⟩, ⟨(some 28), (.bin .add (.t 27) (.c (.int .i64 1))), none, 0⟩, ⟨(some 5), (.mv (.t 28)), none, 0⟩])))
def x74_2 : XCode := (.block 0 (.loop [0, 1, 5] x74_1))
def x74_3 : XCode := (.seq x74_2 (.seq (.reg false [⟨(some 29), (.mv (.t 5)), none, 0⟩, ⟨(some 4), (.mv (.t 29)), none, 0⟩]) .ret))
def x74_4 : XCode := (.seq (.reg false [⟨(some 5), (.mv (.c (.int .i64 0))), none, 0⟩]) x74_3)
def x74 : XFn := ⟨(.seq (.reg false [⟨(some 4), (.mv (.c (.int .i64 0))), none, 0⟩]) x74_4), 30, [(.t 4)]⟩
theorem ok74 : FnOk Try.prog T 74 x74 := ⟨Try.f74, [.loop [0, 1, 5], .draw [0, 1, 2, 3, 4, 5, 6, 7, 8, 9, 10, 11, 12, 13, 14, 15, 16, 17, 18, 19, 20] [4, 4, 4, 4, 4, 4, 4, 4, 4, 4, 4, 4, 4, 4, 4, 4, 4, 4, 4, 4, 4]], Try.func74, by decide +kernel, by kernel_rfl⟩
/-- spec.l17Node -/
def x55_1 : XCode := (.seq (.reg false [⟨(some 85), (.mv (.t 7)), none, 0⟩, ⟨(some 86), (.bin .lss (.t 85) (.c (.int .i64 0))), none, 0⟩, ⟨(some 87), (.mv (.t 86)), none, 0⟩, ⟨(some 88), (.mv (.t 7)), (some (87, false)), 0⟩, ⟨(some 89), (.fa 3 (.t 5)), (some (87, false)), 0⟩, ⟨(some 90), (.ld none (.t 89)), (some (87, false)), 0⟩, ⟨(some 91), (.len (.t 90)), (some (87, false)), 0⟩, ⟨(some 92), (.bin .gtr (.t 88) (.t 91)), (some (87, false)), 0⟩, ⟨(some 93), (.pick (.t 87) (.c (.bool true)) (.t 92)), none, 0⟩, ⟨(some 94), (.mv (.t 93)), none, 0⟩, ⟨(some 95), (.ld (some 5) (.t 2)), (some (94, false)), 0⟩, ⟨(some 96), (.mv (.t 1)), (some (94, false)), 0⟩, ⟨(some 97), (.call (.c (.fn 60 [])) [(.t 95), (.t 96)]), (some (94, false)), 0⟩, ⟨(some 98), (.un .not (.t 97)), (some (94, false)), 0⟩, ⟨(some 99), (.mv (.t 98)), (some (94, false)), 0⟩, ⟨(some 100), (.mv (.t 7)), (some (99, true)), 0⟩, ⟨(some 101), (.bin .neq (.t 100) (.c (.int .i64 0))), (some (99, true)), 0⟩, ⟨(some 102), (.pick (.t 99) (.t 101) (.c (.bool false))), (some (94, false)), 0⟩, ⟨(some 103), (.pick (.t 94) (.c (.bool true)) (.t 102)), none, 0⟩]) (.cond (.t 103) (.seq (.reg false [⟨(some 4), (.mv (.c (.bool false))), none, 0⟩]) .ret) .skip))
def x55_2 : XCode := (.seq (.reg false [⟨(some 83), (.ia 1 (.t 79) (.t 81)), none, 0⟩, ⟨(some 84), (.ld none (.t 83)), none, 0⟩, ⟨(some 7), (.mv (.t 84)), none, 0⟩]) x55_1)
def x55_3 : XCode := (.block 0 (.loop [1, 2, 5, 79, 80, 81] (.seq (.reg false [⟨(some 82), (.bin .lss (.t 81) (.t 80)), none, 0⟩]) (.seq (.cond (.t 82) .skip (.exit 0)) (.seq (.block 1 x55_2) (.reg false [⟨(some 104), (.bin .add (.t 81) (.c (.int .i64 1))), none, 0⟩, ⟨(some 81), (.mv (.t 104)), none, 0⟩]))))))
def x55_4 : XCode := x55_3
def x55_5 : XCode := (.seq (.reg true [⟨(some 105), (.fa 0 (.t 2)), none, 4⟩, ⟨(some 106), (.fa 2 (.t 105)), none, 4⟩, ⟨(some 107), (.ld none (.t 106)), none, 4⟩, ⟨(some 108), (.mv (.t 1)), none, 4⟩, ⟨(some 109), (.call (.c (.fn 73 [])) [(.t 107), (.t 108)]), none, 3⟩, ⟨(some 110), (.un .not (.t 109)), none, 4⟩, ⟨(some 111), (.mv (.t 110)), none, 4⟩, ⟨(some 112), (.fa 4 (.t 2)), (some (111, false)), 4⟩, ⟨(some 113), (.ld none (.t 112)), (some (111, false)), 4⟩, ⟨(some 114), (.fa 3 (.t 5)), (some (111, false)), 4⟩, ⟨(some 115), (.ld none (.t 114)), (some (111, false)), 4⟩, ⟨(some 116), (.call (.c (.fn 74 [])) [(.t 113), (.t 115)]), (some (111, false)), 2⟩, ⟨(some 117), (.fa 4 (.t 2)), (some (111, false)), 1⟩, ⟨(some 118), (.ld none (.t 117)), (some (111, false)), 1⟩, ⟨(some 119), (.len (.t 118)), (some (111, false)), 1⟩, ⟨(some 120), (.bin .eql (.t 116) (.t 119)), (some (111, false)), 4⟩, ⟨(some 121), (.pick (.t 111) (.c (.bool true)) (.t 120)), none, 4⟩, ⟨(some 4), (.mv (.t 121)), none, 4⟩]) .ret)
def x55_6 : XCode := (.seq (.seq (.reg false [⟨(some 78), (.fa 4 (.t 5)), none, 0⟩, ⟨(some 79), (.ld none (.t 78)), none, 0⟩, ⟨(some 80), (.len (.t 79)), none, 0⟩, ⟨(some 81), (.mv (.c (.int .i64 0))), none, 0⟩]) x55_4) x55_5)
def x55_7 : XCode := (.seq (.seq (.reg false [⟨(some 13), (.fa 0 (.t 5)), none, 0⟩, ⟨(some 14), (.ld (some 3) (.t 13)), none, 0⟩, ⟨(some 15), (.fa 3 (.t 2)), none, 0⟩, ⟨(some 16), (.ld none (.t 15)), none, 0⟩, ⟨(some 17), (.len (.t 16)), none, 0⟩, ⟨(some 18), (.call (.c (.fn 53 [])) [(.t 14), (.t 17)]), none, 0⟩, ⟨(some 19), (.un .not (.t 18)), none, 0⟩, ⟨(some 20), (.mv (.t 19)), none, 0⟩, ⟨(some 21), (.fa 0 (.t 5)), (some (20, false)), 0⟩, ⟨(some 22), (.fa 0 (.t 21)), (some (20, false)), 0⟩, ⟨(some 23), (.ld none (.t 22)), (some (20, false)), 0⟩, ⟨(some 24), (.fa 0 (.t 2)), (some (20, false)), 0⟩, ⟨(some 25), (.fa 0 (.t 24)), (some (20, false)), 0⟩, ⟨(some 26), (.ld none (.t 25)), (some (20, false)), 0⟩, ⟨(some 27), (.bin .gtr (.t 23) (.t 26)), (some (20, false)), 0⟩, ⟨(some 28), (.pick (.t 20) (.c (.bool true)) (.t 27)), none, 0⟩, ⟨(some 29), (.mv (.t 28)), none, 0⟩, ⟨(some 30), (.fa 0 (.t 5)), (some (29, false)), 0⟩, ⟨(some 31), (.fa 0 (.t 30)), (some (29, false)), 0⟩, ⟨(some 32), (.ld none (.t 31)), (some (29, false)), 0⟩, ⟨(some 33), (.fa 0 (.t 2)), (some (29, false)), 0⟩, ⟨(some 34), (.fa 0 (.t 33)), (some (29, false)), 0⟩, ⟨(some 35), (.ld none (.t 34)), (some (29, false)), 0⟩, ⟨(some 36), (.bin .eql (.t 32) (.t 35)), (some (29, false)), 0⟩, ⟨(some 37), (.mv (.t 36)), (some (29, false)), 0⟩, ⟨(some 38), (.fa 0 (.t 5)), (some (37, true)), 0⟩, ⟨(some 39), (.fa 1 (.t 38)), (some (37, true)), 0⟩, ⟨(some 40), (.ld none (.t 39)), (some (37, true)), 0⟩, ⟨(some 41), (.fa 0 (.t 2)), (some (37, true)), 0⟩, ⟨(some 42), (.fa 1 (.t 41)), (some (37, true)), 0⟩, ⟨(some 43), (.ld none (.t 42)), (some (37, true)), 0⟩, ⟨(some 44), (.bin .neq (.t 40) (.t 43)), (some (37, true)), 0⟩, ⟨(some 45), (.pick (.t 37) (.t 44) (.c (.bool false))), (some (29, false)), 0⟩, ⟨(some 46), (.pick (.t 29) (.c (.bool true)) (.t 45)), none, 0⟩, ⟨(some 47), (.mv (.t 46)), none, 0⟩, ⟨(some 48), (.fa 3 (.t 5)), (some (47, false)), 0⟩, ⟨(some 49), (.ld none (.t 48)), (some (47, false)), 0⟩, ⟨(some 50), (.fa 0 (.t 5)), (some (47, false)), 0⟩, ⟨(some 51), (.fa 0 (.t 50)), (some (47, false)), 0⟩, ⟨(some 52), (.ld none (.t 51)), (some (47, false)), 0⟩, ⟨(some 53), (.call (.c (.fn 54 [])) [(.t 49), (.t 52)]), (some (47, false)), 0⟩, ⟨(some 54), (.un .not (.t 53)), (some (47, false)), 0⟩, ⟨(some 55), (.pick (.t 47) (.c (.bool true)) (.t 54)), none, 0⟩, ⟨(some 56), (.mv (.t 55)), none, 0⟩, ⟨(some 57), (.fa 4 (.t 5)), (some (56, false)), 0⟩, ⟨(some 58), (.ld none (.t 57)), (some (56, false)), 0⟩, ⟨(some 59), (.len (.t 58)), (some (56, false)), 0⟩, ⟨(some 60), (.fa 3 (.t 2)), (some (56, false)), 0⟩, ⟨(some 61), (.ld none (.t 60)), (some (56, false)), 0⟩, ⟨(some 62), (.len (.t 61)), (some (56, false)), 0⟩, ⟨(some 63), (.bin .neq (.t 59) (.t 62)), (some (56, false)), 0⟩, ⟨(some 64), (.pick (.t 56) (.c (.bool true)) (.t 63)), none, 0⟩, ⟨(some 65), (.mv (.t 64)), none, 0⟩, ⟨(some 66), (.fa 5 (.t 5)), (some (65, false)), 0⟩, ⟨(some 67), (.ld none (.t 66)), (some (65, false)), 0⟩, ⟨(some 68), (.bin .lss (.t 67) (.c (.int .i64 0))), (some (65, false)), 0⟩, ⟨(some 69), (.pick (.t 65) (.c (.bool true)) (.t 68)), none, 0⟩, ⟨(some 70), (.mv (.t 69)), none, 0⟩, ⟨(some 71), (.fa 5 (.t 5)), (some (70, false)), 0⟩, ⟨(some 72), (.ld none (.t 71)), (some (70, false)), 0⟩, ⟨(some 73), (.fa 3 (.t 5)), (some (70, false)), 0⟩, ⟨(some 74), (.ld none (.t 73)), (some (70, false)), 0⟩, ⟨(some 75), (.len (.t 74)), (some (70, false)), 0⟩, ⟨(some 76), (.bin .gtr (.t 72) (.t 75)), (some (70, false)), 0⟩, ⟨(some 77), (.pick (.t 70) (.c (.bool true)) (.t 76)), none, 0⟩]) (.cond (.t 77) (.seq (.reg false [⟨(some 4), (.mv (.c (.bool false))), none, 0⟩]) .ret) .skip)) x55_6)
def x55_8 : XCode := (.seq (.seq (.reg false [⟨(some 8), (.fa 3 (.t 2)), none, 0⟩, ⟨(some 9), (.ld none (.t 8)), none, 0⟩, ⟨(some 10), (.mv (.t 1)), none, 0⟩, ⟨(some 11), (.ia 6 (.t 9) (.t 10)), none, 0⟩, ⟨(some 12), (.ld (some 6) (.t 11)), none, 0⟩, ⟨(some 5), (.new 68 [(.int .i64 0), (.int .i64 0), .nil, .nil, .nil, (.int .i64 0)]), none, 0⟩, ⟨none, (.st 6 (.t 5) (.t 12)), none, 0⟩]) (.frz [5])) x55_7)
def x55 : XFn := ⟨(.seq (.seq (.reg false [⟨(some 2), (.box 28 5 (.t 0)), none, 0⟩, ⟨(some 4), (.mv (.c (.bool false))), none, 0⟩]) (.frz [2])) x55_8), 122, [(.t 4)]⟩
theorem ok55 : FnOk Try.prog T 55 x55 := ⟨Try.f55, [.frz [2], .frz [5], .loop [1, 2, 5, 79, 80, 81], .draw [0, 1, 2, 3, 4, 5, 6, 7, 8, 9, 10, 11, 12, 13, 14, 15, 16, 17] [4, 4, 4, 4, 3, 4, 4, 4, 4, 4, 4, 2, 1, 1, 1, 4, 4, 4]], Try.func55, by decide +kernel, by kernel_rfl⟩
/-- spec.GoodCluster -/
def x15_1 : XCode := (.seq (.reg false [⟨(some 30), (.ld (some 5) (.t 1)), none, 0⟩, ⟨(some 31), (.mv (.t 4)), none, 0⟩, ⟨(some 32), (.call (.c (.fn 55 [])) [(.t 30), (.t 31)]), none, 0⟩, ⟨(some 33), (.un .not (.t 32)), none, 0⟩]) (.cond (.t 33) (.seq (.reg false [⟨(some 2), (.mv (.c (.bool false))), none, 0⟩]) .ret) .skip))
def x15_2 : XCode := (.seq (.reg false [⟨(some 29), (.mv (.t 27)), none, 0⟩, ⟨(some 4), (.mv (.t 29)), none, 0⟩]) x15_1)
def x15_3 : XCode := (.block 0 (.loop [1, 26, 27] (.seq (.reg false [⟨(some 28), (.bin .lss (.t 27) (.t 26)), none, 0⟩]) (.seq (.cond (.t 28) .skip (.exit 0)) (.seq (.block 1 x15_2) (.reg false [⟨(some 34), (.bin .add (.t 27) (.c (.int .i64 1))), none, 0⟩, ⟨(some 27), (.mv (.t 34)), none, 0⟩]))))))
def x15_4 : XCode := x15_3
def x15_5 : XCode := (.seq (.seq (.reg false [⟨(some 24), (.fa 3 (.t 1)), none, 0⟩, ⟨(some 25), (.ld none (.t 24)), none, 0⟩, ⟨(some 26), (.len (.t 25)), none, 0⟩, ⟨(some 27), (.mv (.c (.int .i64 0))), none, 0⟩]) x15_4) (.seq (.reg false [⟨(some 2), (.mv (.c (.bool true))), none, 0⟩]) .ret))
def x15_6 : XCode := (.seq (.seq (.reg false [⟨(some 8), (.mv (.t 3)), none, 0⟩, ⟨(some 9), (.call (.c (.fn 37 [])) [(.t 8), (.c (.int .i64 2)), (.c (.int .i64 4))]), none, 0⟩, ⟨(some 10), (.un .not (.t 9)), none, 0⟩, ⟨(some 11), (.mv (.t 10)), none, 0⟩, ⟨(some 12), (.fa 0 (.t 1)), (some (11, false)), 0⟩, ⟨(some 13), (.ld (some 3) (.t 12)), (some (11, false)), 0⟩, ⟨(some 14), (.mv (.t 3)), (some (11, false)), 0⟩, ⟨(some 15), (.call (.c (.fn 53 [])) [(.t 13), (.t 14)]), (some (11, false)), 0⟩, ⟨(some 16), (.un .not (.t 15)), (some (11, false)), 0⟩, ⟨(some 17), (.pick (.t 11) (.c (.bool true)) (.t 16)), none, 0⟩, ⟨(some 18), (.mv (.t 17)), none, 0⟩, ⟨(some 19), (.fa 4 (.t 1)), (some (18, false)), 0⟩, ⟨(some 20), (.ld none (.t 19)), (some (18, false)), 0⟩, ⟨(some 21), (.call (.c (.fn 54 [])) [(.t 20), (.c (.int .i64 100))]), (some (18, false)), 0⟩, ⟨(some 22), (.un .not (.t 21)), (some (18, false)), 0⟩, ⟨(some 23), (.pick (.t 18) (.c (.bool true)) (.t 22)), none, 0⟩]) (.cond (.t 23) (.seq (.reg false [⟨(some 2), (.mv (.c (.bool false))), none, 0⟩]) .ret) .skip)) x15_5)
def x15_7 : XCode := (.seq (.reg false [⟨(some 5), (.fa 3 (.t 1)), none, 0⟩, ⟨(some 6), (.ld none (.t 5)), none, 0⟩, ⟨(some 7), (.len (.t 6)), none, 0⟩, ⟨(some 3), (.mv (.t 7)), none, 0⟩]) x15_6)
def x15 : XFn := ⟨(.seq (.seq (.reg false [⟨(some 1), (.box 28 5 (.t 0)), none, 0⟩, ⟨(some 2), (.mv (.c (.bool false))), none, 0⟩]) (.frz [1])) x15_7), 35, [(.t 2)]⟩
theorem ok15 : FnOk Try.prog T 15 x15 := ⟨Try.f15, [.frz [1], .loop [1, 26, 27]], Try.func15, by decide +kernel, by kernel_rfl⟩
/-- spec.l6Has -/
def x97_1 : XCode := (.seq (.reg false [⟨(some 13), (.mv (.t 0)), none, 0⟩, ⟨(some 14), (.mv (.t 6)), none, 0⟩, ⟨(some 15), (.call (.c (.fn 73 [])) [(.t 13), (.t 14)]), none, 0⟩, ⟨(some 16), (.un .not (.t 15)), none, 0⟩]) (.cond (.t 16) (.seq (.reg false [⟨(some 4), (.mv (.c (.bool false))), none, 0⟩]) .ret) .skip))
def x97_2 : XCode := (.seq (.reg false [⟨(some 11), (.ia 1 (.t 7) (.t 9)), none, 0⟩, ⟨(some 12), (.ld none (.t 11)), none, 0⟩, ⟨(some 6), (.mv (.t 12)), none, 0⟩]) x97_1)
def x97_3 : XCode := (.block 0 (.loop [0, 7, 8, 9] (.seq (.reg false [⟨(some 10), (.bin .lss (.t 9) (.t 8)), none, 0⟩]) (.seq (.cond (.t 10) .skip (.exit 0)) (.seq (.block 1 x97_2) (.reg false [⟨(some 17), (.bin .add (.t 9) (.c (.int .i64 1))), none, 0⟩, ⟨(some 9), (.mv (.t 17)), none, 0⟩]))))))
def x97_4 : XCode := x97_3
def x97_5 : XCode := (.seq (.seq (.reg false [⟨(some 7), (.mv (.t 1)), none, 0⟩, ⟨(some 8), (.len (.t 7)), none, 0⟩, ⟨(some 9), (.mv (.c (.int .i64 0))), none, 0⟩]) x97_4) (.seq (.reg false [⟨(some 4), (.mv (.c (.bool true))), none, 0⟩]) .ret))
def x97 : XFn := ⟨(.seq (.reg false [⟨(some 4), (.mv (.c (.bool false))), none, 0⟩]) x97_5), 18, [(.t 4)]⟩
theorem ok97 : FnOk Try.prog T 97 x97 := ⟨Try.f97, [.loop [0, 7, 8, 9]], Try.func97, by decide +kernel, by kernel_rfl⟩
/-- spec.l14Same -/
def x82_1 : XCode := (.seq (.reg false [⟨(some 5), (.mv (.t 0)), none, 0⟩, ⟨(some 6), (.mv (.t 1)), none, 0⟩, ⟨(some 7), (.call (.c (.fn 97 [])) [(.t 5), (.t 6)]), none, 0⟩, ⟨(some 8), (.mv (.t 7)), none, 0⟩, ⟨(some 9), (.mv (.t 0)), (some (8, true)), 0⟩, ⟨(some 10), (.len (.t 9)), (some (8, true)), 0⟩, ⟨(some 11), (.mv (.t 1)), (some (8, true)), 0⟩, ⟨(some 12), (.len (.t 11)), (some (8, true)), 0⟩, ⟨(some 13), (.bin .eql (.t 10) (.t 12)), (some (8, true)), 0⟩, ⟨(some 14), (.pick (.t 8) (.t 13) (.c (.bool false))), none, 0⟩, ⟨(some 4), (.mv (.t 14)), none, 0⟩]) .ret)
def x82 : XFn := ⟨(.seq (.reg false [⟨(some 4), (.mv (.c (.bool false))), none, 0⟩]) x82_1), 15, [(.t 4)]⟩
theorem ok82 : FnOk Try.prog T 82 x82 := ⟨Try.f82, [], Try.func82, by decide +kernel, by kernel_rfl⟩
/-- spec.l17Same -/
def x61_1 : XCode := (.seq (.reg false [⟨(some 5), (.fa 0 (.t 2)), none, 0⟩, ⟨(some 6), (.ld none (.t 5)), none, 0⟩, ⟨(some 7), (.fa 0 (.t 3)), none, 0⟩, ⟨(some 8), (.ld none (.t 7)), none, 0⟩, ⟨(some 9), (.bin .eql (.t 6) (.t 8)), none, 0⟩, ⟨(some 10), (.mv (.t 9)), none, 0⟩, ⟨(some 11), (.fa 1 (.t 2)), (some (10, true)), 0⟩, ⟨(some 12), (.ld none (.t 11)), (some (10, true)), 0⟩, ⟨(some 13), (.fa 1 (.t 3)), (some (10, true)), 0⟩, ⟨(some 14), (.ld none (.t 13)), (some (10, true)), 0⟩, ⟨(some 15), (.bin .eql (.t 12) (.t 14)), (some (10, true)), 0⟩, ⟨(some 16), (.pick (.t 10) (.t 15) (.c (.bool false))), none, 0⟩, ⟨(some 17), (.mv (.t 16)), none, 0⟩, ⟨(some 18), (.fa 2 (.t 2)), (some (17, true)), 0⟩, ⟨(some 19), (.ld none (.t 18)), (some (17, true)), 0⟩, ⟨(some 20), (.fa 2 (.t 3)), (some (17, true)), 0⟩, ⟨(some 21), (.ld none (.t 20)), (some (17, true)), 0⟩, ⟨(some 22), (.call (.c (.fn 82 [])) [(.t 19), (.t 21)]), (some (17, true)), 0⟩, ⟨(some 23), (.pick (.t 17) (.t 22) (.c (.bool false))), none, 0⟩, ⟨(some 4), (.mv (.t 23)), none, 0⟩]) .ret)
def x61 : XFn := ⟨(.seq (.seq (.reg false [⟨(some 2), (.box 24 3 (.t 0)), none, 0⟩, ⟨(some 3), (.box 24 3 (.t 1)), none, 0⟩, ⟨(some 4), (.mv (.c (.bool false))), none, 0⟩]) (.frz [2, 3])) x61_1), 24, [(.t 4)]⟩
theorem ok61 : FnOk Try.prog T 61 x61 := ⟨Try.f61, [.frz [2, 3]], Try.func61, by decide +kernel, by kernel_rfl⟩
/-- spec.BehindIn -/
def x23_1 : XCode := (.cond (.t 9) (.seq (.reg false [⟨(some 2), (.mv (.c .nil)), none, 0⟩, ⟨(some 3), (.mv (.c (.bool false))), none, 0⟩]) .ret) .skip)
def x23_2 : XCode := (.reg false [⟨(some 24), (.mv (.t 4)), none, 0⟩, ⟨(some 25), (.mv (.t 5)), none, 0⟩, ⟨(some 26), (.buildS 3 1 [(.int .i64 0)] [(0, (1, (.t 25)))]), none, 0⟩, ⟨(some 27), (.app 3 1 8 (.t 24) (.t 26)), none, 0⟩, ⟨(some 4), (.mv (.t 27)), none, 0⟩])
def x23_3 : XCode := (.cond (.t 23) x23_2 .skip)
def x23_4 : XCode := (.seq (.reg false [⟨(some 18), (.fa 0 (.t 6)), none, 0⟩, ⟨(some 19), (.ld (some 3) (.t 18)), none, 0⟩, ⟨(some 20), (.fa 0 (.t 1)), none, 0⟩, ⟨(some 21), (.ld (some 3) (.t 20)), none, 0⟩, ⟨(some 22), (.call (.c (.fn 61 [])) [(.t 19), (.t 21)]), none, 0⟩, ⟨(some 23), (.un .not (.t 22)), none, 0⟩]) x23_3)
def x23_5 : XCode := (.seq (.seq (.reg false [⟨(some 15), (.mv (.t 13)), none, 0⟩, ⟨(some 16), (.ia 6 (.t 11) (.t 13)), none, 0⟩, ⟨(some 17), (.ld (some 6) (.t 16)), none, 0⟩, ⟨(some 6), (.new 68 [(.int .i64 0), (.int .i64 0), .nil, .nil, .nil, (.int .i64 0)]), none, 0⟩, ⟨(some 5), (.mv (.t 15)), none, 0⟩, ⟨none, (.st 6 (.t 6) (.t 17)), none, 0⟩]) (.frz [6])) x23_4)
def x23_6 : XCode := (.block 0 (.loop [1, 4, 11, 12, 13] (.seq (.reg false [⟨(some 14), (.bin .lss (.t 13) (.t 12)), none, 0⟩]) (.seq (.cond (.t 14) .skip (.exit 0)) (.seq (.block 1 x23_5) (.reg false [⟨(some 28), (.bin .add (.t 13) (.c (.int .i64 1))), none, 0⟩, ⟨(some 13), (.mv (.t 28)), none, 0⟩]))))))
def x23_7 : XCode := x23_6
def x23_8 : XCode := (.seq (.seq (.reg false [⟨(some 10), (.fa 3 (.t 1)), none, 0⟩, ⟨(some 11), (.ld none (.t 10)), none, 0⟩, ⟨(some 12), (.len (.t 11)), none, 0⟩, ⟨(some 13), (.mv (.c (.int .i64 0))), none, 0⟩]) x23_7) (.seq (.reg false [⟨(some 29), (.mv (.t 4)), none, 0⟩, ⟨(some 2), (.mv (.t 29)), none, 0⟩, ⟨(some 3), (.mv (.c (.bool true))), none, 0⟩]) .ret))
def x23_9 : XCode := (.seq (.reg false [⟨(some 4), (.mv (.c .nil)), none, 0⟩]) x23_8)
def x23_10 : XCode := (.seq (.seq (.reg false [⟨(some 7), (.ld (some 5) (.t 1)), none, 0⟩, ⟨(some 8), (.call (.c (.fn 15 [])) [(.t 7)]), none, 0⟩, ⟨(some 9), (.un .not (.t 8)), none, 0⟩]) x23_1) x23_9)
def x23 : XFn := ⟨(.seq (.seq (.reg false [⟨(some 1), (.box 28 5 (.t 0)), none, 0⟩, ⟨(some 2), (.mv (.c .nil)), none, 0⟩, ⟨(some 3), (.mv (.c (.bool false))), none, 0⟩]) (.frz [1])) x23_10), 30, [(.t 2), (.t 3)]⟩
theorem ok23 : FnOk Try.prog T 23 x23 := ⟨Try.f23, [.frz [1], .loop [1, 4, 11, 12, 13], .frz [], .frz [6]], Try.func23, by decide +kernel, by kernel_rfl⟩
/-- impl.in -/
def x39_1 : XCode := (.seq (.reg false [⟨(some 7), (.mv (.t 0)), none, 0⟩, ⟨(some 8), (.mv (.t 1)), none, 0⟩, ⟨(some 9), (.bin .geq (.t 7) (.t 8)), none, 0⟩, ⟨(some 10), (.mv (.t 9)), none, 0⟩, ⟨(some 11), (.mv (.t 0)), (some (10, true)), 0⟩, ⟨(some 12), (.mv (.t 2)), (some (10, true)), 0⟩, ⟨(some 13), (.bin .leq (.t 11) (.t 12)), (some (10, true)), 0⟩, ⟨(some 14), (.pick (.t 10) (.t 13) (.c (.bool false))), none, 0⟩, ⟨(some 6), (.mv (.t 14)), none, 0⟩]) .ret)
def x39 : XFn := ⟨(.seq (.reg false [⟨(some 6), (.mv (.c (.bool false))), none, 0⟩]) x39_1), 15, [(.t 6)]⟩
theorem ok39 : FnOk Try.prog T 39 x39 := ⟨Try.f39, [], Try.func39, by decide +kernel, by kernel_rfl⟩
/-- slices.Index[[]int,int] -/
def x96_1 : XCode := (.cond (.t 16) (.seq (.reg false [⟨(some 17), (.mv (.t 5)), none, 0⟩, ⟨(some 4), (.mv (.t 17)), none, 0⟩]) .ret) .skip)
def x96_2 : XCode := (.seq (.reg false [⟨(some 11), (.mv (.t 1)), none, 0⟩, ⟨(some 12), (.mv (.t 0)), none, 0⟩, ⟨(some 13), (.mv (.t 5)), none, 0⟩, ⟨(some 14), (.ia 1 (.t 12) (.t 13)), none, 0⟩, ⟨(some 15), (.ld none (.t 14)), none, 0⟩, ⟨(some 16), (.bin .eql (.t 11) (.t 15)), none, 0⟩]) x96_1)
def x96_3 : XCode := (.seq (.reg false [⟨(some 10), (.mv (.t 8)), none, 0⟩, ⟨(some 5), (.mv (.t 10)), none, 0⟩]) x96_2)
def x96_4 : XCode := (.block 0 (.loop [0, 1, 7, 8] (.seq (.reg false [⟨(some 9), (.bin .lss (.t 8) (.t 7)), none, 0⟩]) (.seq (.cond (.t 9) .skip (.exit 0)) (.seq (.block 1 x96_3) (.reg false [⟨(some 18), (.bin .add (.t 8) (.c (.int .i64 1))), none, 0⟩, ⟨(some 8), (.mv (.t 18)), none, 0⟩]))))))
def x96_5 : XCode := x96_4
def x96_6 : XCode := (.seq (.seq (.reg false [⟨(some 6), (.mv (.t 0)), none, 0⟩, ⟨(some 7), (.len (.t 6)), none, 0⟩, ⟨(some 8), (.mv (.c (.int .i64 0))), none, 0⟩]) x96_5) (.seq (.reg false [⟨(some 4), (.mv (.c (.int .i64 (-1)))), none, 0⟩]) .ret))
def x96 : XFn := ⟨(.seq (.reg false [⟨(some 4), (.mv (.c (.int .i64 0))), none, 0⟩]) x96_6), 19, [(.t 4)]⟩
theorem ok96 : FnOk Try.prog T 96 x96 := ⟨Try.f96, [.loop [0, 1, 7, 8]], Try.func96, by decide +kernel, by kernel_rfl⟩
/-- slices.Contains[[]int,int] -/
def x80_1 : XCode := (.seq (.reg false [⟨(some 5), (.mv (.t 0)), none, 0⟩, ⟨(some 6), (.mv (.t 1)), none, 0⟩, ⟨(some 7), (.call (.c (.fn 96 [])) [(.t 5), (.t 6)]), none, 0⟩, ⟨(some 8), (.bin .geq (.t 7) (.c (.int .i64 0))), none, 0⟩, ⟨(some 4), (.mv (.t 8)), none, 0⟩]) .ret)
def x80 : XFn := ⟨(.seq (.reg false [⟨(some 4), (.mv (.c (.bool false))), none, 0⟩]) x80_1), 9, [(.t 4)]⟩
theorem ok80 : FnOk Try.prog T 80 x80 := ⟨Try.f80, [], Try.func80, by decide +kernel, by kernel_rfl⟩
/-- impl.areMembers -/
def x92_1 : XCode := (.seq (.reg false [⟨(some 14), (.mv (.t 6)), none, 0⟩, ⟨(some 15), (.mv (.t 1)), none, 0⟩, ⟨(some 16), (.bin .sub (.t 15) (.c (.int .i64 1))), none, 0⟩, ⟨(some 17), (.call (.c (.fn 39 [])) [(.t 14), (.c (.int .i64 0)), (.t 16)]), none, 0⟩, ⟨(some 18), (.un .not (.t 17)), none, 0⟩, ⟨(some 19), (.mv (.t 18)), none, 0⟩, ⟨(some 20), (.mv (.t 5)), (some (19, false)), 0⟩, ⟨(some 21), (.bin .gtr (.t 20) (.c (.int .i64 0))), (some (19, false)), 0⟩, ⟨(some 22), (.mv (.t 21)), (some (19, false)), 0⟩, ⟨(some 23), (.mv (.t 0)), (some (22, true)), 0⟩, ⟨(some 24), (.mv (.t 5)), (some (22, true)), 0⟩, ⟨(some 25), (.bin .sub (.t 24) (.c (.int .i64 1))), (some (22, true)), 0⟩, ⟨(some 26), (.ia 1 (.t 23) (.t 25)), (some (22, true)), 0⟩, ⟨(some 27), (.ld none (.t 26)), (some (22, true)), 0⟩, ⟨(some 28), (.mv (.t 6)), (some (22, true)), 0⟩, ⟨(some 29), (.bin .geq (.t 27) (.t 28)), (some (22, true)), 0⟩, ⟨(some 30), (.pick (.t 22) (.t 29) (.c (.bool false))), (some (19, false)), 0⟩, ⟨(some 31), (.pick (.t 19) (.c (.bool true)) (.t 30)), none, 0⟩]) (.cond (.t 31) (.seq (.reg false [⟨(some 4), (.mv (.c (.bool false))), none, 0⟩]) .ret) .skip))
def x92_2 : XCode := (.seq (.reg false [⟨(some 11), (.mv (.t 9)), none, 0⟩, ⟨(some 12), (.ia 1 (.t 7) (.t 9)), none, 0⟩, ⟨(some 13), (.ld none (.t 12)), none, 0⟩, ⟨(some 5), (.mv (.t 11)), none, 0⟩, ⟨(some 6), (.mv (.t 13)), none, 0⟩]) x92_1)
def x92_3 : XCode := (.block 0 (.loop [0, 1, 7, 8, 9] (.seq (.reg false [⟨(some 10), (.bin .lss (.t 9) (.t 8)), none, 0⟩]) (.seq (.cond (.t 10) .skip (.exit 0)) (.seq (.block 1 x92_2) (.reg false [⟨(some 32), (.bin .add (.t 9) (.c (.int .i64 1))), none, 0⟩, ⟨(some 9), (.mv (.t 32)), none, 0⟩]))))))
def x92_4 : XCode := x92_3
def x92_5 : XCode := (.seq (.seq (.reg false [⟨(some 7), (.mv (.t 0)), none, 0⟩, ⟨(some 8), (.len (.t 7)), none, 0⟩, ⟨(some 9), (.mv (.c (.int .i64 0))), none, 0⟩]) x92_4) (.seq (.reg false [⟨(some 4), (.mv (.c (.bool true))), none, 0⟩]) .ret))
def x92 : XFn := ⟨(.seq (.reg false [⟨(some 4), (.mv (.c (.bool false))), none, 0⟩]) x92_5), 33, [(.t 4)]⟩
theorem ok92 : FnOk Try.prog T 92 x92 := ⟨Try.f92, [.loop [0, 1, 7, 8, 9]], Try.func92, by decide +kernel, by kernel_rfl⟩
/-- impl.isView -/
def x78_1 : XCode := (.seq (.reg false [⟨(some 5), (.fa 0 (.t 2)), none, 0⟩, ⟨(some 6), (.ld none (.t 5)), none, 0⟩, ⟨(some 7), (.call (.c (.fn 39 [])) [(.t 6), (.c (.int .i64 0)), (.c (.int .i64 100))]), none, 0⟩, ⟨(some 8), (.mv (.t 7)), none, 0⟩, ⟨(some 9), (.fa 2 (.t 2)), (some (8, true)), 0⟩, ⟨(some 10), (.ld none (.t 9)), (some (8, true)), 0⟩, ⟨(some 11), (.mv (.t 1)), (some (8, true)), 0⟩, ⟨(some 12), (.call (.c (.fn 92 [])) [(.t 10), (.t 11)]), (some (8, true)), 0⟩, ⟨(some 13), (.pick (.t 8) (.t 12) (.c (.bool false))), none, 0⟩, ⟨(some 14), (.mv (.t 13)), none, 0⟩, ⟨(some 15), (.fa 2 (.t 2)), (some (14, true)), 0⟩, ⟨(some 16), (.ld none (.t 15)), (some (14, true)), 0⟩, ⟨(some 17), (.fa 1 (.t 2)), (some (14, true)), 0⟩, ⟨(some 18), (.ld none (.t 17)), (some (14, true)), 0⟩, ⟨(some 19), (.call (.c (.fn 80 [])) [(.t 16), (.t 18)]), (some (14, true)), 0⟩, ⟨(some 20), (.pick (.t 14) (.t 19) (.c (.bool false))), none, 0⟩, ⟨(some 4), (.mv (.t 20)), none, 0⟩]) .ret)
def x78 : XFn := ⟨(.seq (.seq (.reg false [⟨(some 2), (.box 24 3 (.t 0)), none, 0⟩, ⟨(some 4), (.mv (.c (.bool false))), none, 0⟩]) (.frz [2])) x78_1), 21, [(.t 4)]⟩
theorem ok78 : FnOk Try.prog T 78 x78 := ⟨Try.f78, [.frz [2]], Try.func78, by decide +kernel, by kernel_rfl⟩
/-- impl.isRows -/
def x93_1 : XCode := (.seq (.seq (.reg false [⟨(some 14), (.fa 0 (.t 7)), none, 0⟩, ⟨(some 15), (.ld none (.t 14)), none, 0⟩, ⟨(some 16), (.mv (.t 5)), none, 0⟩, ⟨(some 17), (.mv (.t 1)), none, 0⟩, ⟨(some 18), (.call (.c (.fn 39 [])) [(.t 15), (.t 16), (.t 17)]), none, 0⟩, ⟨(some 19), (.un .not (.t 18)), none, 0⟩, ⟨(some 20), (.mv (.t 19)), none, 0⟩, ⟨(some 21), (.fa 1 (.t 7)), (some (20, false)), 0⟩, ⟨(some 22), (.ld none (.t 21)), (some (20, false)), 0⟩, ⟨(some 23), (.call (.c (.fn 39 [])) [(.t 22), (.c (.int .i64 0)), (.c (.int .i64 99))]), (some (20, false)), 0⟩, ⟨(some 24), (.un .not (.t 23)), (some (20, false)), 0⟩, ⟨(some 25), (.pick (.t 20) (.c (.bool true)) (.t 24)), none, 0⟩]) (.cond (.t 25) (.seq (.reg false [⟨(some 4), (.mv (.c (.bool false))), none, 0⟩]) .ret) .skip)) (.reg false [⟨(some 26), (.fa 0 (.t 7)), none, 0⟩, ⟨(some 27), (.ld none (.t 26)), none, 0⟩, ⟨(some 5), (.mv (.t 27)), none, 0⟩]))
def x93_2 : XCode := (.seq (.seq (.reg false [⟨(some 12), (.ia 2 (.t 8) (.t 10)), none, 0⟩, ⟨(some 13), (.ld (some 2) (.t 12)), none, 0⟩, ⟨(some 7), (.new 92 [(.int .i64 0), (.int .i64 0)]), none, 0⟩, ⟨none, (.st 2 (.t 7) (.t 13)), none, 0⟩]) (.frz [7])) x93_1)
def x93_3 : XCode := (.block 0 (.loop [0, 1, 5, 8, 9, 10] (.seq (.reg false [⟨(some 11), (.bin .lss (.t 10) (.t 9)), none, 0⟩]) (.seq (.cond (.t 11) .skip (.exit 0)) (.seq (.block 1 x93_2) (.reg false [⟨(some 28), (.bin .add (.t 10) (.c (.int .i64 1))), none, 0⟩, ⟨(some 10), (.mv (.t 28)), none, 0⟩]))))))
def x93_4 : XCode := x93_3
def x93_5 : XCode := (.seq (.reg false [⟨(some 29), (.mv (.t 0)), none, 0⟩, ⟨(some 30), (.len (.t 29)), none, 0⟩, ⟨(some 31), (.bin .leq (.t 30) (.c (.int .i64 30))), none, 0⟩, ⟨(some 4), (.mv (.t 31)), none, 0⟩]) .ret)
def x93_6 : XCode := (.seq (.seq (.reg false [⟨(some 8), (.mv (.t 0)), none, 0⟩, ⟨(some 9), (.len (.t 8)), none, 0⟩, ⟨(some 10), (.mv (.c (.int .i64 0))), none, 0⟩]) x93_4) x93_5)
def x93_7 : XCode := (.seq (.reg false [⟨(some 5), (.mv (.c (.int .i64 0))), none, 0⟩]) x93_6)
def x93 : XFn := ⟨(.seq (.reg false [⟨(some 4), (.mv (.c (.bool false))), none, 0⟩]) x93_7), 32, [(.t 4)]⟩
theorem ok93 : FnOk Try.prog T 93 x93 := ⟨Try.f93, [.loop [0, 1, 5, 8, 9, 10], .frz [], .frz [7]], Try.func93, by decide +kernel, by kernel_rfl⟩
/-- slices.IndexFunc[[]int,int] -/
def x101_1 : XCode := (.cond (.t 16) (.seq (.reg false [⟨(some 17), (.mv (.t 5)), none, 0⟩, ⟨(some 4), (.mv (.t 17)), none, 0⟩]) .ret) .skip)
def x101_2 : XCode := (.seq (.reg false [⟨(some 11), (.mv (.t 1)), none, 0⟩, ⟨(some 12), (.mv (.t 0)), none, 0⟩, ⟨(some 13), (.mv (.t 5)), none, 0⟩, ⟨(some 14), (.ia 1 (.t 12) (.t 13)), none, 0⟩, ⟨(some 15), (.ld none (.t 14)), none, 0⟩, ⟨(some 16), (.call (.t 11) [(.t 15)]), none, 0⟩]) x101_1)
def x101_3 : XCode := (.seq (.reg false [⟨(some 10), (.mv (.t 8)), none, 0⟩, ⟨(some 5), (.mv (.t 10)), none, 0⟩]) x101_2)
def x101_4 : XCode := (.block 0 (.loop [0, 1, 7, 8] (.seq (.reg false [⟨(some 9), (.bin .lss (.t 8) (.t 7)), none, 0⟩]) (.seq (.cond (.t 9) .skip (.exit 0)) (.seq (.block 1 x101_3) (.reg false [⟨(some 18), (.bin .add (.t 8) (.c (.int .i64 1))), none, 0⟩, ⟨(some 8), (.mv (.t 18)), none, 0⟩]))))))
def x101_5 : XCode := x101_4
def x101_6 : XCode := (.seq (.seq (.reg false [⟨(some 6), (.mv (.t 0)), none, 0⟩, ⟨(some 7), (.len (.t 6)), none, 0⟩, ⟨(some 8), (.mv (.c (.int .i64 0))), none, 0⟩]) x101_5) (.seq (.reg false [⟨(some 4), (.mv (.c (.int .i64 (-1)))), none, 0⟩]) .ret))
def x101 : XFn := ⟨(.seq (.reg false [⟨(some 4), (.mv (.c (.int .i64 0))), none, 0⟩]) x101_6), 19, [(.t 4)]⟩
theorem ok101 : FnOk Try.prog T 101 x101 := ⟨Try.f101, [.loop [0, 1, 7, 8]], Try.func101, by decide +kernel, by kernel_rfl⟩
/-- slices.ContainsFunc[[]int,int] -/
def x94_1 : XCode := (.seq (.reg false [⟨(some 5), (.mv (.t 0)), none, 0⟩, ⟨(some 6), (.mv (.t 1)), none, 0⟩, ⟨(some 7), (.call (.c (.fn 101 [])) [(.t 5), (.t 6)]), none, 0⟩, ⟨(some 8), (.bin .geq (.t 7) (.c (.int .i64 0))), none, 0⟩, ⟨(some 4), (.mv (.t 8)), none, 0⟩]) .ret)
def x94 : XFn := ⟨(.seq (.reg false [⟨(some 4), (.mv (.c (.bool false))), none, 0⟩]) x94_1), 9, [(.t 4)]⟩
theorem ok94 : FnOk Try.prog T 94 x94 := ⟨Try.f94, [], Try.func94, by decide +kernel, by kernel_rfl⟩
/-- impl.isClusterNode$1 -/
def x95_1 : XCode := (.seq (.reg false [⟨(some 5), (.mv (.t 0)), none, 0⟩, ⟨(some 6), (.fa 3 (.t 1)), none, 0⟩, ⟨(some 7), (.ld none (.t 6)), none, 0⟩, ⟨(some 8), (.len (.t 7)), none, 0⟩, ⟨(some 9), (.call (.c (.fn 39 [])) [(.t 5), (.c (.int .i64 0)), (.t 8)]), none, 0⟩, ⟨(some 10), (.un .not (.t 9)), none, 0⟩, ⟨(some 11), (.mv (.t 10)), none, 0⟩, ⟨(some 12), (.fa 0 (.t 1)), (some (11, false)), 0⟩, ⟨(some 13), (.fa 1 (.t 12)), (some (11, false)), 0⟩, ⟨(some 14), (.ld none (.t 13)), (some (11, false)), 0⟩, ⟨(some 15), (.ld none (.t 2)), (some (11, false)), 0⟩, ⟨(some 16), (.bin .neq (.t 14) (.t 15)), (some (11, false)), 0⟩, ⟨(some 17), (.mv (.t 16)), (some (11, false)), 0⟩, ⟨(some 18), (.mv (.t 0)), (some (17, true)), 0⟩, ⟨(some 19), (.bin .neq (.t 18) (.c (.int .i64 0))), (some (17, true)), 0⟩, ⟨(some 20), (.pick (.t 17) (.t 19) (.c (.bool false))), (some (11, false)), 0⟩, ⟨(some 21), (.pick (.t 11) (.c (.bool true)) (.t 20)), none, 0⟩, ⟨(some 4), (.mv (.t 21)), none, 0⟩]) .ret)
def x95 : XFn := ⟨(.seq (.reg false [⟨(some 4), (.mv (.c (.bool false))), none, 0⟩]) x95_1), 22, [(.t 4)]⟩
theorem ok95 : FnOk Try.prog T 95 x95 := ⟨Try.f95, [], Try.func95, by decide +kernel, by kernel_rfl⟩
/-- impl.isClusterNode -/
def x79_1 : XCode := (.seq (.reg false [⟨(some 37), (.fa 4 (.t 3)), none, 0⟩, ⟨(some 38), (.ld none (.t 37)), none, 0⟩, ⟨(some 39), (.mkF 95 [(.t 3), (.t 4)]), none, 0⟩, ⟨(some 40), (.call (.c (.fn 94 [])) [(.t 38), (.t 39)]), none, 0⟩, ⟨(some 41), (.un .not (.t 40)), none, 0⟩, ⟨(some 6), (.mv (.t 41)), none, 0⟩]) .ret)
def x79_2 : XCode := (.seq (.seq (.reg false [⟨(some 7), (.fa 0 (.t 3)), none, 0⟩, ⟨(some 8), (.ld (some 3) (.t 7)), none, 0⟩, ⟨(some 9), (.mv (.t 2)), none, 0⟩, ⟨(some 10), (.call (.c (.fn 78 [])) [(.t 8), (.t 9)]), none, 0⟩, ⟨(some 11), (.un .not (.t 10)), none, 0⟩, ⟨(some 12), (.mv (.t 11)), none, 0⟩, ⟨(some 13), (.fa 3 (.t 3)), (some (12, false)), 0⟩, ⟨(some 14), (.ld none (.t 13)), (some (12, false)), 0⟩, ⟨(some 15), (.fa 0 (.t 3)), (some (12, false)), 0⟩, ⟨(some 16), (.fa 0 (.t 15)), (some (12, false)), 0⟩, ⟨(some 17), (.ld none (.t 16)), (some (12, false)), 0⟩, ⟨(some 18), (.call (.c (.fn 93 [])) [(.t 14), (.t 17)]), (some (12, false)), 0⟩, ⟨(some 19), (.un .not (.t 18)), (some (12, false)), 0⟩, ⟨(some 20), (.pick (.t 12) (.c (.bool true)) (.t 19)), none, 0⟩, ⟨(some 21), (.mv (.t 20)), none, 0⟩, ⟨(some 22), (.fa 4 (.t 3)), (some (21, false)), 0⟩, ⟨(some 23), (.ld none (.t 22)), (some (21, false)), 0⟩, ⟨(some 24), (.len (.t 23)), (some (21, false)), 0⟩, ⟨(some 25), (.mv (.t 2)), (some (21, false)), 0⟩, ⟨(some 26), (.bin .neq (.t 24) (.t 25)), (some (21, false)), 0⟩, ⟨(some 27), (.pick (.t 21) (.c (.bool true)) (.t 26)), none, 0⟩, ⟨(some 28), (.mv (.t 27)), none, 0⟩, ⟨(some 29), (.fa 5 (.t 3)), (some (28, false)), 0⟩, ⟨(some 30), (.ld none (.t 29)), (some (28, false)), 0⟩, ⟨(some 31), (.fa 3 (.t 3)), (some (28, false)), 0⟩, ⟨(some 32), (.ld none (.t 31)), (some (28, false)), 0⟩, ⟨(some 33), (.len (.t 32)), (some (28, false)), 0⟩, ⟨(some 34), (.call (.c (.fn 39 [])) [(.t 30), (.c (.int .i64 0)), (.t 33)]), (some (28, false)), 0⟩, ⟨(some 35), (.un .not (.t 34)), (some (28, false)), 0⟩, ⟨(some 36), (.pick (.t 28) (.c (.bool true)) (.t 35)), none, 0⟩]) (.cond (.t 36) (.seq (.reg false [⟨(some 6), (.mv (.c (.bool false))), none, 0⟩]) .ret) .skip)) x79_1)
def x79 : XFn := ⟨(.seq (.seq (.reg false [⟨(some 3), (.box 68 6 (.t 0)), none, 0⟩, ⟨(some 4), (.box 3 1 (.t 1)), none, 0⟩, ⟨(some 6), (.mv (.c (.bool false))), none, 0⟩]) (.frz [3, 4])) x79_2), 42, [(.t 6)]⟩
theorem ok79 : FnOk Try.prog T 79 x79 := ⟨Try.f79, [.frz [3, 4]], Try.func79, by decide +kernel, by kernel_rfl⟩
/-- impl.Row] -/
def x81_1 : XCode := (.seq (.reg true [⟨(some 16), (.mv (.t 0)), none, 4⟩, ⟨(some 17), (.mv (.t 5)), none, 4⟩, ⟨(some 18), (.ia 2 (.t 16) (.t 17)), none, 4⟩, ⟨(some 19), (.ld (some 2) (.t 18)), none, 4⟩, ⟨(some 20), (.mv (.t 1)), none, 4⟩, ⟨(some 21), (.mv (.t 5)), none, 4⟩, ⟨(some 22), (.ia 2 (.t 20) (.t 21)), none, 4⟩, ⟨(some 23), (.ld (some 2) (.t 22)), none, 4⟩, ⟨(some 24), (.eqs true [(.int .i64), (.int .i64)] (.t 19) (.t 23)), none, 4⟩]) (.cond (.t 24) (.seq (.reg false [⟨(some 4), (.mv (.c (.bool false))), none, 0⟩]) .ret) .skip))
def x81_2 : XCode := (.seq (.reg false [⟨(some 15), (.mv (.t 13)), none, 0⟩, ⟨(some 5), (.mv (.t 15)), none, 0⟩]) x81_1)
def x81_3 : XCode := (.block 0 (.loop [0, 1, 12, 13] (.seq (.reg false [⟨(some 14), (.bin .lss (.t 13) (.t 12)), none, 0⟩]) (.seq (.cond (.t 14) .skip (.exit 0)) (.seq (.block 1 x81_2) (.reg false [⟨(some 25), (.bin .add (.t 13) (.c (.int .i64 1))), none, 0⟩, ⟨(some 13), (.mv (.t 25)), none, 0⟩]))))))
def x81_4 : XCode := x81_3
def x81_5 : XCode := (.seq (.seq (.reg false [⟨(some 11), (.mv (.t 0)), none, 0⟩, ⟨(some 12), (.len (.t 11)), none, 0⟩, ⟨(some 13), (.mv (.c (.int .i64 0))), none, 0⟩]) x81_4) (.seq (.reg false [⟨(some 4), (.mv (.c (.bool true))), none, 0⟩]) .ret))
def x81_6 : XCode := (.seq (.seq (.reg false [⟨(some 6), (.mv (.t 0)), none, 0⟩, ⟨(some 7), (.len (.t 6)), none, 0⟩, ⟨(some 8), (.mv (.t 1)), none, 0⟩, ⟨(some 9), (.len (.t 8)), none, 0⟩, ⟨(some 10), (.bin .neq (.t 7) (.t 9)), none, 0⟩]) (.cond (.t 10) (.seq (.reg false [⟨(some 4), (.mv (.c (.bool false))), none, 0⟩]) .ret) .skip)) x81_5)
def x81 : XFn := ⟨(.seq (.reg false [⟨(some 4), (.mv (.c (.bool false))), none, 0⟩]) x81_6), 26, [(.t 4)]⟩
theorem ok81 : FnOk Try.prog T 81 x81 := ⟨Try.f81, [.loop [0, 1, 12, 13], .draw [0, 1, 2, 3, 4, 5, 6, 7, 8] [4, 4, 4, 4, 4, 4, 4, 4, 4]], Try.func81, by decide +kernel, by kernel_rfl⟩
/-- impl.isCluster -/
def x59_1 : XCode := (.seq (.reg true [⟨(some 67), (.fa 0 (.t 1)), none, 4⟩, ⟨(some 68), (.fa 2 (.t 67)), none, 4⟩, ⟨(some 69), (.ld none (.t 68)), none, 4⟩, ⟨(some 70), (.mv (.t 3)), none, 4⟩, ⟨(some 71), (.call (.c (.fn 80 [])) [(.t 69), (.t 70)]), none, 3⟩, ⟨(some 72), (.mv (.t 71)), none, 4⟩, ⟨(some 73), (.fa 3 (.t 4)), (some (72, true)), 4⟩, ⟨(some 74), (.ld none (.t 73)), (some (72, true)), 4⟩, ⟨(some 75), (.len (.t 74)), (some (72, true)), 4⟩, ⟨(some 76), (.fa 4 (.t 1)), (some (72, true)), 4⟩, ⟨(some 77), (.ld none (.t 76)), (some (72, true)), 4⟩, ⟨(some 78), (.len (.t 77)), (some (72, true)), 4⟩, ⟨(some 79), (.bin .lss (.t 75) (.t 78)), (some (72, true)), 4⟩, ⟨(some 80), (.mv (.t 79)), (some (72, true)), 4⟩, ⟨(some 81), (.fa 3 (.t 4)), (some (80, false)), 4⟩, ⟨(some 82), (.ld none (.t 81)), (some (80, false)), 4⟩, ⟨(some 83), (.fa 4 (.t 1)), (some (80, false)), 4⟩, ⟨(some 84), (.ld none (.t 83)), (some (80, false)), 4⟩, ⟨(some 85), (.len (.t 84)), (some (80, false)), 4⟩, ⟨(some 86), (.slc 92 2 (.t 82) none (some (.t 85)) none), (some (80, false)), 4⟩, ⟨(some 87), (.fa 4 (.t 1)), (some (80, false)), 4⟩, ⟨(some 88), (.ld none (.t 87)), (some (80, false)), 4⟩, ⟨(some 89), (.call (.c (.fn 81 [])) [(.t 86), (.t 88)]), (some (80, false)), 3⟩, ⟨(some 90), (.un .not (.t 89)), (some (80, false)), 4⟩, ⟨(some 91), (.pick (.t 80) (.c (.bool true)) (.t 90)), (some (72, true)), 4⟩, ⟨(some 92), (.pick (.t 72) (.t 91) (.c (.bool false))), none, 4⟩]) (.cond (.t 92) (.seq (.reg false [⟨(some 2), (.mv (.c (.bool false))), none, 0⟩]) .ret) .skip))
def x59_2 : XCode := (.seq (.seq (.reg false [⟨(some 33), (.ld (some 6) (.t 4)), none, 0⟩, ⟨(some 34), (.mv (.t 3)), none, 0⟩, ⟨(some 35), (.fa 3 (.t 1)), none, 0⟩, ⟨(some 36), (.ld none (.t 35)), none, 0⟩, ⟨(some 37), (.len (.t 36)), none, 0⟩, ⟨(some 38), (.call (.c (.fn 79 [])) [(.t 33), (.t 34), (.t 37)]), none, 0⟩, ⟨(some 39), (.un .not (.t 38)), none, 0⟩, ⟨(some 40), (.mv (.t 39)), none, 0⟩, ⟨(some 41), (.fa 0 (.t 4)), (some (40, false)), 0⟩, ⟨(some 42), (.fa 0 (.t 41)), (some (40, false)), 0⟩, ⟨(some 43), (.ld none (.t 42)), (some (40, false)), 0⟩, ⟨(some 44), (.fa 0 (.t 1)), (some (40, false)), 0⟩, ⟨(some 45), (.fa 0 (.t 44)), (some (40, false)), 0⟩, ⟨(some 46), (.ld none (.t 45)), (some (40, false)), 0⟩, ⟨(some 47), (.bin .gtr (.t 43) (.t 46)), (some (40, false)), 0⟩, ⟨(some 48), (.pick (.t 40) (.c (.bool true)) (.t 47)), none, 0⟩, ⟨(some 49), (.mv (.t 48)), none, 0⟩, ⟨(some 50), (.fa 0 (.t 4)), (some (49, false)), 0⟩, ⟨(some 51), (.fa 0 (.t 50)), (some (49, false)), 0⟩, ⟨(some 52), (.ld none (.t 51)), (some (49, false)), 0⟩, ⟨(some 53), (.fa 0 (.t 1)), (some (49, false)), 0⟩, ⟨(some 54), (.fa 0 (.t 53)), (some (49, false)), 0⟩, ⟨(some 55), (.ld none (.t 54)), (some (49, false)), 0⟩, ⟨(some 56), (.bin .eql (.t 52) (.t 55)), (some (49, false)), 0⟩, ⟨(some 57), (.mv (.t 56)), (some (49, false)), 0⟩, ⟨(some 58), (.fa 0 (.t 4)), (some (57, true)), 0⟩, ⟨(some 59), (.fa 1 (.t 58)), (some (57, true)), 0⟩, ⟨(some 60), (.ld none (.t 59)), (some (57, true)), 0⟩, ⟨(some 61), (.fa 0 (.t 1)), (some (57, true)), 0⟩, ⟨(some 62), (.fa 1 (.t 61)), (some (57, true)), 0⟩, ⟨(some 63), (.ld none (.t 62)), (some (57, true)), 0⟩, ⟨(some 64), (.bin .neq (.t 60) (.t 63)), (some (57, true)), 0⟩, ⟨(some 65), (.pick (.t 57) (.t 64) (.c (.bool false))), (some (49, false)), 0⟩, ⟨(some 66), (.pick (.t 49) (.c (.bool true)) (.t 65)), none, 0⟩]) (.cond (.t 66) (.seq (.reg false [⟨(some 2), (.mv (.c (.bool false))), none, 0⟩]) .ret) .skip)) x59_1)
def x59_3 : XCode := (.seq (.seq (.reg false [⟨(some 30), (.mv (.t 28)), none, 0⟩, ⟨(some 31), (.ia 6 (.t 26) (.t 28)), none, 0⟩, ⟨(some 32), (.ld (some 6) (.t 31)), none, 0⟩, ⟨(some 4), (.new 68 [(.int .i64 0), (.int .i64 0), .nil, .nil, .nil, (.int .i64 0)]), none, 0⟩, ⟨(some 3), (.mv (.t 30)), none, 0⟩, ⟨none, (.st 6 (.t 4) (.t 32)), none, 0⟩]) (.frz [4])) x59_2)
def x59_4 : XCode := (.block 0 (.loop [1, 26, 27, 28] (.seq (.reg false [⟨(some 29), (.bin .lss (.t 28) (.t 27)), none, 0⟩]) (.seq (.cond (.t 29) .skip (.exit 0)) (.seq (.block 1 x59_3) (.reg false [⟨(some 93), (.bin .add (.t 28) (.c (.int .i64 1))), none, 0⟩, ⟨(some 28), (.mv (.t 93)), none, 0⟩]))))))
def x59_5 : XCode := x59_4
def x59_6 : XCode := (.seq (.seq (.reg false [⟨(some 25), (.fa 3 (.t 1)), none, 0⟩, ⟨(some 26), (.ld none (.t 25)), none, 0⟩, ⟨(some 27), (.len (.t 26)), none, 0⟩, ⟨(some 28), (.mv (.c (.int .i64 0))), none, 0⟩]) x59_5) (.seq (.reg false [⟨(some 2), (.mv (.c (.bool true))), none, 0⟩]) .ret))
def x59_7 : XCode := (.seq (.seq (.reg false [⟨(some 5), (.fa 3 (.t 1)), none, 0⟩, ⟨(some 6), (.ld none (.t 5)), none, 0⟩, ⟨(some 7), (.len (.t 6)), none, 0⟩, ⟨(some 8), (.call (.c (.fn 39 [])) [(.t 7), (.c (.int .i64 2)), (.c (.int .i64 4))]), none, 0⟩, ⟨(some 9), (.un .not (.t 8)), none, 0⟩, ⟨(some 10), (.mv (.t 9)), none, 0⟩, ⟨(some 11), (.fa 0 (.t 1)), (some (10, false)), 0⟩, ⟨(some 12), (.ld (some 3) (.t 11)), (some (10, false)), 0⟩, ⟨(some 13), (.fa 3 (.t 1)), (some (10, false)), 0⟩, ⟨(some 14), (.ld none (.t 13)), (some (10, false)), 0⟩, ⟨(some 15), (.len (.t 14)), (some (10, false)), 0⟩, ⟨(some 16), (.call (.c (.fn 78 [])) [(.t 12), (.t 15)]), (some (10, false)), 0⟩, ⟨(some 17), (.un .not (.t 16)), (some (10, false)), 0⟩, ⟨(some 18), (.pick (.t 10) (.c (.bool true)) (.t 17)), none, 0⟩, ⟨(some 19), (.mv (.t 18)), none, 0⟩, ⟨(some 20), (.fa 4 (.t 1)), (some (19, false)), 0⟩, ⟨(some 21), (.ld none (.t 20)), (some (19, false)), 0⟩, ⟨(some 22), (.len (.t 21)), (some (19, false)), 0⟩, ⟨(some 23), (.bin .gtr (.t 22) (.c (.int .i64 30))), (some (19, false)), 0⟩, ⟨(some 24), (.pick (.t 19) (.c (.bool true)) (.t 23)), none, 0⟩]) (.cond (.t 24) (.seq (.reg false [⟨(some 2), (.mv (.c (.bool false))), none, 0⟩]) .ret) .skip)) x59_6)
def x59 : XFn := ⟨(.seq (.seq (.reg false [⟨(some 1), (.box 28 5 (.t 0)), none, 0⟩, ⟨(some 2), (.mv (.c (.bool false))), none, 0⟩]) (.frz [1])) x59_7), 94, [(.t 2)]⟩
theorem ok59 : FnOk Try.prog T 59 x59 := ⟨Try.f59, [.frz [1], .loop [1, 26, 27, 28], .frz [], .frz [4], .draw [0, 1, 2, 3, 4, 5, 6, 7, 8, 9, 10, 11, 12, 13, 14, 15, 16, 17, 18, 19, 20, 21, 22, 23, 24, 25] [4, 4, 4, 4, 3, 4, 4, 4, 4, 4, 4, 4, 4, 4, 4, 4, 4, 4, 4, 4, 4, 4, 3, 4, 4, 4]], Try.func59, by decide +kernel, by kernel_rfl⟩
/-- slices.Equal[[]int,int] -/
def x83_1 : XCode := (.seq (.reg true [⟨(some 16), (.mv (.t 0)), none, 4⟩, ⟨(some 17), (.mv (.t 5)), none, 4⟩, ⟨(some 18), (.ia 1 (.t 16) (.t 17)), none, 4⟩, ⟨(some 19), (.ld none (.t 18)), none, 4⟩, ⟨(some 20), (.mv (.t 1)), none, 4⟩, ⟨(some 21), (.mv (.t 5)), none, 4⟩, ⟨(some 22), (.ia 1 (.t 20) (.t 21)), none, 4⟩, ⟨(some 23), (.ld none (.t 22)), none, 4⟩, ⟨(some 24), (.bin .neq (.t 19) (.t 23)), none, 4⟩]) (.cond (.t 24) (.seq (.reg false [⟨(some 4), (.mv (.c (.bool false))), none, 0⟩]) .ret) .skip))
def x83_2 : XCode := (.seq (.reg false [⟨(some 15), (.mv (.t 13)), none, 0⟩, ⟨(some 5), (.mv (.t 15)), none, 0⟩]) x83_1)
def x83_3 : XCode := (.block 0 (.loop [0, 1, 12, 13] (.seq (.reg false [⟨(some 14), (.bin .lss (.t 13) (.t 12)), none, 0⟩]) (.seq (.cond (.t 14) .skip (.exit 0)) (.seq (.block 1 x83_2) (.reg false [⟨(some 25), (.bin .add (.t 13) (.c (.int .i64 1))), none, 0⟩, ⟨(some 13), (.mv (.t 25)), none, 0⟩]))))))
def x83_4 : XCode := x83_3
def x83_5 : XCode := (.seq (.seq (.reg false [⟨(some 11), (.mv (.t 0)), none, 0⟩, ⟨(some 12), (.len (.t 11)), none, 0⟩, ⟨(some 13), (.mv (.c (.int .i64 0))), none, 0⟩]) x83_4) (.seq (.reg false [⟨(some 4), (.mv (.c (.bool true))), none, 0⟩]) .ret))
def x83_6 : XCode := (.seq (.seq (.reg false [⟨(some 6), (.mv (.t 0)), none, 0⟩, ⟨(some 7), (.len (.t 6)), none, 0⟩, ⟨(some 8), (.mv (.t 1)), none, 0⟩, ⟨(some 9), (.len (.t 8)), none, 0⟩, ⟨(some 10), (.bin .neq (.t 7) (.t 9)), none, 0⟩]) (.cond (.t 10) (.seq (.reg false [⟨(some 4), (.mv (.c (.bool false))), none, 0⟩]) .ret) .skip)) x83_5)
def x83 : XFn := ⟨(.seq (.reg false [⟨(some 4), (.mv (.c (.bool false))), none, 0⟩]) x83_6), 26, [(.t 4)]⟩
theorem ok83 : FnOk Try.prog T 83 x83 := ⟨Try.f83, [.loop [0, 1, 12, 13], .draw [0, 1, 2, 3, 4, 5, 6, 7, 8] [4, 4, 4, 4, 4, 4, 4, 4, 4]], Try.func83, by decide +kernel, by kernel_rfl⟩
/-- impl.sameView -/
def x62_1 : XCode := (.seq (.reg false [⟨(some 5), (.fa 0 (.t 2)), none, 0⟩, ⟨(some 6), (.ld none (.t 5)), none, 0⟩, ⟨(some 7), (.fa 0 (.t 3)), none, 0⟩, ⟨(some 8), (.ld none (.t 7)), none, 0⟩, ⟨(some 9), (.bin .eql (.t 6) (.t 8)), none, 0⟩, ⟨(some 10), (.mv (.t 9)), none, 0⟩, ⟨(some 11), (.fa 1 (.t 2)), (some (10, true)), 0⟩, ⟨(some 12), (.ld none (.t 11)), (some (10, true)), 0⟩, ⟨(some 13), (.fa 1 (.t 3)), (some (10, true)), 0⟩, ⟨(some 14), (.ld none (.t 13)), (some (10, true)), 0⟩, ⟨(some 15), (.bin .eql (.t 12) (.t 14)), (some (10, true)), 0⟩, ⟨(some 16), (.pick (.t 10) (.t 15) (.c (.bool false))), none, 0⟩, ⟨(some 17), (.mv (.t 16)), none, 0⟩, ⟨(some 18), (.fa 2 (.t 2)), (some (17, true)), 0⟩, ⟨(some 19), (.ld none (.t 18)), (some (17, true)), 0⟩, ⟨(some 20), (.fa 2 (.t 3)), (some (17, true)), 0⟩, ⟨(some 21), (.ld none (.t 20)), (some (17, true)), 0⟩, ⟨(some 22), (.call (.c (.fn 83 [])) [(.t 19), (.t 21)]), (some (17, true)), 0⟩, ⟨(some 23), (.pick (.t 17) (.t 22) (.c (.bool false))), none, 0⟩, ⟨(some 4), (.mv (.t 23)), none, 0⟩]) .ret)
def x62 : XFn := ⟨(.seq (.seq (.reg false [⟨(some 2), (.box 24 3 (.t 0)), none, 0⟩, ⟨(some 3), (.box 24 3 (.t 1)), none, 0⟩, ⟨(some 4), (.mv (.c (.bool false))), none, 0⟩]) (.frz [2, 3])) x62_1), 24, [(.t 4)]⟩
theorem ok62 : FnOk Try.prog T 62 x62 := ⟨Try.f62, [.frz [2, 3]], Try.func62, by decide +kernel, by kernel_rfl⟩
/-- impl.BehindIn -/
def x24_1 : XCode := (.cond (.t 9) (.seq (.reg false [⟨(some 2), (.mv (.c .nil)), none, 0⟩, ⟨(some 3), (.mv (.c (.bool false))), none, 0⟩]) .ret) .skip)
def x24_2 : XCode := (.reg false [⟨(some 25), (.mv (.t 4)), none, 0⟩, ⟨(some 26), (.mv (.t 5)), none, 0⟩, ⟨(some 27), (.buildS 3 1 [(.int .i64 0)] [(0, (1, (.t 26)))]), none, 0⟩, ⟨(some 28), (.app 3 1 8 (.t 25) (.t 27)), none, 0⟩, ⟨(some 4), (.mv (.t 28)), none, 0⟩])
def x24_3 : XCode := (.cond (.t 24) x24_2 .skip)
def x24_4 : XCode := (.seq (.reg false [⟨(some 19), (.fa 0 (.t 6)), none, 0⟩, ⟨(some 20), (.ld (some 3) (.t 19)), none, 0⟩, ⟨(some 21), (.fa 0 (.t 1)), none, 0⟩, ⟨(some 22), (.ld (some 3) (.t 21)), none, 0⟩, ⟨(some 23), (.call (.c (.fn 62 [])) [(.t 20), (.t 22)]), none, 0⟩, ⟨(some 24), (.un .not (.t 23)), none, 0⟩]) x24_3)
def x24_5 : XCode := (.seq (.seq (.reg false [⟨(some 16), (.mv (.t 14)), none, 0⟩, ⟨(some 17), (.ia 6 (.t 12) (.t 14)), none, 0⟩, ⟨(some 18), (.ld (some 6) (.t 17)), none, 0⟩, ⟨(some 6), (.new 68 [(.int .i64 0), (.int .i64 0), .nil, .nil, .nil, (.int .i64 0)]), none, 0⟩, ⟨(some 5), (.mv (.t 16)), none, 0⟩, ⟨none, (.st 6 (.t 6) (.t 18)), none, 0⟩]) (.frz [6])) x24_4)
def x24_6 : XCode := (.block 0 (.loop [1, 4, 12, 13, 14] (.seq (.reg false [⟨(some 15), (.bin .lss (.t 14) (.t 13)), none, 0⟩]) (.seq (.cond (.t 15) .skip (.exit 0)) (.seq (.block 1 x24_5) (.reg false [⟨(some 29), (.bin .add (.t 14) (.c (.int .i64 1))), none, 0⟩, ⟨(some 14), (.mv (.t 29)), none, 0⟩]))))))
def x24_7 : XCode := x24_6
def x24_8 : XCode := (.seq (.seq (.reg false [⟨(some 11), (.fa 3 (.t 1)), none, 0⟩, ⟨(some 12), (.ld none (.t 11)), none, 0⟩, ⟨(some 13), (.len (.t 12)), none, 0⟩, ⟨(some 14), (.mv (.c (.int .i64 0))), none, 0⟩]) x24_7) (.seq (.reg false [⟨(some 30), (.mv (.t 4)), none, 0⟩, ⟨(some 2), (.mv (.t 30)), none, 0⟩, ⟨(some 3), (.mv (.c (.bool true))), none, 0⟩]) .ret))
def x24_9 : XCode := (.seq (.reg false [⟨(some 10), (.buildS 3 0 [] []), none, 0⟩, ⟨(some 4), (.mv (.t 10)), none, 0⟩]) x24_8)
def x24_10 : XCode := (.seq (.seq (.reg false [⟨(some 7), (.ld (some 5) (.t 1)), none, 0⟩, ⟨(some 8), (.call (.c (.fn 59 [])) [(.t 7)]), none, 0⟩, ⟨(some 9), (.un .not (.t 8)), none, 0⟩]) x24_1) x24_9)
def x24 : XFn := ⟨(.seq (.seq (.reg false [⟨(some 1), (.box 28 5 (.t 0)), none, 0⟩, ⟨(some 2), (.mv (.c .nil)), none, 0⟩, ⟨(some 3), (.mv (.c (.bool false))), none, 0⟩]) (.frz [1])) x24_10), 31, [(.t 2), (.t 3)]⟩
theorem ok24 : FnOk Try.prog T 24 x24 := ⟨Try.f24, [.frz [1], .loop [1, 4, 12, 13, 14], .frz [], .frz [6]], Try.func24, by decide +kernel, by kernel_rfl⟩
/-- laws.FnExactBehindIn -/
def x6_1 : XCode := (.seq (.seq (.reg false [⟨(some 93), (.mv (.t 11)), none, 0⟩, ⟨(some 94), (.mv (.t 10)), none, 0⟩, ⟨(some 95), (.bin .neq (.t 93) (.t 94)), none, 0⟩]) (.cond (.t 95) (.seq (.reg false [⟨(some 2), (.mv (.c (.bool false))), none, 0⟩]) .ret) .skip)) (.seq (.reg false [⟨(some 2), (.mv (.c (.bool true))), none, 0⟩]) .ret))
def x6_2 : XCode := (.seq (.seq (.reg false [⟨(some 91), (.mv (.t 11)), none, 0⟩, ⟨(some 92), (.bin .lss (.t 91) (.c (.int .i64 0))), none, 0⟩]) (.cond (.t 92) (.seq (.reg false [⟨(some 2), (.mv (.c (.bool false))), none, 0⟩]) .ret) .skip)) x6_1)
def x6_3 : XCode := (.seq (.reg false [⟨(some 88), (.mv (.t 7)), none, 0⟩, ⟨(some 89), (.mv (.t 11)), none, 0⟩, ⟨(some 90), (.call (.c (.fn 22 [])) [(.t 88), (.t 89)]), none, 0⟩, ⟨(some 11), (.mv (.t 90)), none, 0⟩]) x6_2)
def x6_4 : XCode := (.seq (.reg false [⟨(some 11), (.mv (.c (.int .i64 1))), none, 0⟩]) x6_3)
def x6_5 : XCode := (.seq (.seq (.reg false [⟨(some 79), (.mv (.t 12)), none, 0⟩, ⟨(some 80), (.mv (.t 4)), none, 0⟩, ⟨(some 81), (.call (.c (.fn 20 [])) [(.t 79), (.t 80)]), none, 0⟩, ⟨(some 82), (.un .not (.t 81)), none, 0⟩, ⟨(some 83), (.mv (.t 82)), none, 0⟩, ⟨(some 84), (.mv (.t 13)), (some (83, false)), 0⟩, ⟨(some 85), (.mv (.t 5)), (some (83, false)), 0⟩, ⟨(some 86), (.eqb true (.t 84) (.t 85)), (some (83, false)), 0⟩, ⟨(some 87), (.pick (.t 83) (.c (.bool true)) (.t 86)), none, 0⟩]) (.cond (.t 87) (.seq (.reg false [⟨(some 2), (.mv (.c (.bool false))), none, 0⟩]) .ret) .skip)) x6_4)
def x6_6 : XCode := (.seq (.reg false [⟨(some 74), (.ld (some 5) (.t 1)), none, 0⟩, ⟨(some 75), (.call (.c (.fn 16 [])) [(.t 74)]), none, 0⟩, ⟨(some 76), (.call (.c (.fn 24 [])) [(.t 75)]), none, 0⟩, ⟨(some 73), (.mv (.t 76)), none, 0⟩, ⟨(some 77), (.ext (.t 73) 0), none, 0⟩, ⟨(some 78), (.ext (.t 73) 1), none, 0⟩, ⟨(some 12), (.mv (.t 77)), none, 0⟩, ⟨(some 13), (.mv (.t 78)), none, 0⟩]) x6_5)
def x6_7 : XCode := (.seq (.seq (.reg false [⟨(some 70), (.mv (.t 11)), none, 0⟩, ⟨(some 71), (.mv (.t 10)), none, 0⟩, ⟨(some 72), (.bin .neq (.t 70) (.t 71)), none, 0⟩]) (.cond (.t 72) (.seq (.reg false [⟨(some 2), (.mv (.c (.bool false))), none, 0⟩]) .ret) .skip)) x6_6)
def x6_8 : XCode := (.seq (.seq (.reg false [⟨(some 68), (.mv (.t 11)), none, 0⟩, ⟨(some 69), (.bin .lss (.t 68) (.c (.int .i64 0))), none, 0⟩]) (.cond (.t 69) (.seq (.reg false [⟨(some 2), (.mv (.c (.bool false))), none, 0⟩]) .ret) .skip)) x6_7)
def x6_9 : XCode := (.seq (.reg false [⟨(some 65), (.mv (.t 7)), none, 0⟩, ⟨(some 66), (.mv (.t 11)), none, 0⟩, ⟨(some 67), (.call (.c (.fn 22 [])) [(.t 65), (.t 66)]), none, 0⟩, ⟨(some 11), (.mv (.t 67)), none, 0⟩]) x6_8)
def x6_10 : XCode := (.seq (.reg false [⟨(some 11), (.mv (.c (.int .i64 1))), none, 0⟩]) x6_9)
def x6_11 : XCode := (.seq (.reg false [⟨(some 62), (.mv (.t 7)), none, 0⟩, ⟨(some 63), (.mv (.t 10)), none, 0⟩, ⟨(some 64), (.call (.c (.fn 21 [])) [(.t 62), (.t 63)]), none, 0⟩, ⟨(some 10), (.mv (.t 64)), none, 0⟩]) x6_10)
def x6_12 : XCode := (.seq (.reg false [⟨(some 10), (.mv (.c (.int .i64 1))), none, 0⟩]) x6_11)
def x6_13 : XCode := (.seq (.seq (.reg false [⟨(some 49), (.mv (.t 9)), none, 0⟩, ⟨(some 50), (.bin .lss (.t 49) (.c (.int .i64 0))), none, 0⟩, ⟨(some 51), (.mv (.t 50)), none, 0⟩, ⟨(some 52), (.mv (.t 7)), (some (51, false)), 0⟩, ⟨(some 53), (.mv (.t 4)), (some (51, false)), 0⟩, ⟨(some 54), (.call (.c (.fn 20 [])) [(.t 52), (.t 53)]), (some (51, false)), 0⟩, ⟨(some 55), (.un .not (.t 54)), (some (51, false)), 0⟩, ⟨(some 56), (.pick (.t 51) (.c (.bool true)) (.t 55)), none, 0⟩, ⟨(some 57), (.mv (.t 56)), none, 0⟩, ⟨(some 58), (.mv (.t 8)), (some (57, false)), 0⟩, ⟨(some 59), (.mv (.t 5)), (some (57, false)), 0⟩, ⟨(some 60), (.eqb true (.t 58) (.t 59)), (some (57, false)), 0⟩, ⟨(some 61), (.pick (.t 57) (.c (.bool true)) (.t 60)), none, 0⟩]) (.cond (.t 61) (.seq (.reg false [⟨(some 2), (.mv (.c (.bool false))), none, 0⟩]) .ret) .skip)) x6_12)
def x6_14 : XCode := (.seq (.reg false [⟨(some 46), (.ld (some 5) (.t 6)), none, 0⟩, ⟨(some 47), (.mv (.t 9)), none, 0⟩, ⟨(some 48), (.call (.c (.fn 12 [])) [(.t 46), (.t 47)]), none, 0⟩, ⟨(some 9), (.mv (.t 48)), none, 0⟩]) x6_13)
def x6_15 : XCode := (.seq (.reg false [⟨(some 9), (.mv (.c (.int .i64 1))), none, 0⟩]) x6_14)
def x6_16 : XCode := (.seq (.seq (.reg true [⟨(some 41), (.ld (some 5) (.t 6)), none, 1⟩, ⟨(some 42), (.ld (some 5) (.t 1)), none, 4⟩, ⟨(some 43), (.call (.c (.fn 16 [])) [(.t 42)]), none, 2⟩, ⟨(some 44), (.call (.c (.fn 11 [])) [(.t 41), (.t 43)]), none, 3⟩, ⟨(some 45), (.un .not (.t 44)), none, 4⟩]) (.cond (.t 45) (.seq (.reg false [⟨(some 2), (.mv (.c (.bool false))), none, 0⟩]) .ret) .skip)) x6_15)
def x6_17 : XCode := (.seq (.seq (.reg false [⟨(some 32), (.mv (.t 7)), none, 0⟩, ⟨(some 33), (.mv (.t 4)), none, 0⟩, ⟨(some 34), (.call (.c (.fn 20 [])) [(.t 32), (.t 33)]), none, 0⟩, ⟨(some 35), (.un .not (.t 34)), none, 0⟩, ⟨(some 36), (.mv (.t 35)), none, 0⟩, ⟨(some 37), (.mv (.t 8)), (some (36, false)), 0⟩, ⟨(some 38), (.mv (.t 5)), (some (36, false)), 0⟩, ⟨(some 39), (.eqb true (.t 37) (.t 38)), (some (36, false)), 0⟩, ⟨(some 40), (.pick (.t 36) (.c (.bool true)) (.t 39)), none, 0⟩]) (.cond (.t 40) (.seq (.reg false [⟨(some 2), (.mv (.c (.bool false))), none, 0⟩]) .ret) .skip)) x6_16)
def x6_18 : XCode := (.seq (.reg false [⟨(some 28), (.ld (some 5) (.t 6)), none, 0⟩, ⟨(some 29), (.call (.c (.fn 24 [])) [(.t 28)]), none, 0⟩, ⟨(some 27), (.mv (.t 29)), none, 0⟩, ⟨(some 30), (.ext (.t 27) 0), none, 0⟩, ⟨(some 31), (.ext (.t 27) 1), none, 0⟩, ⟨(some 7), (.mv (.t 30)), none, 0⟩, ⟨(some 8), (.mv (.t 31)), none, 0⟩]) x6_17)
def x6_19 : XCode := (.seq (.seq (.reg false [⟨(some 25), (.ld (some 5) (.t 1)), none, 0⟩, ⟨(some 26), (.call (.c (.fn 16 [])) [(.t 25)]), none, 0⟩, ⟨(some 6), (.new 28 [(.int .i64 0), (.int .i64 0), .nil, .nil, .nil]), none, 0⟩, ⟨none, (.st 5 (.t 6) (.t 26)), none, 0⟩]) (.frz [6])) x6_18)
def x6_20 : XCode := (.seq (.reg false [⟨(some 20), (.ld (some 5) (.t 1)), none, 0⟩, ⟨(some 21), (.call (.c (.fn 16 [])) [(.t 20)]), none, 0⟩, ⟨(some 22), (.call (.c (.fn 23 [])) [(.t 21)]), none, 0⟩, ⟨(some 19), (.mv (.t 22)), none, 0⟩, ⟨(some 23), (.ext (.t 19) 0), none, 0⟩, ⟨(some 24), (.ext (.t 19) 1), none, 0⟩, ⟨(some 4), (.mv (.t 23)), none, 0⟩, ⟨(some 5), (.mv (.t 24)), none, 0⟩]) x6_19)
def x6_21 : XCode := (.seq (.seq (.reg false [⟨(some 17), (.mv (.t 3)), none, 0⟩, ⟨(some 18), (.bin .lss (.t 17) (.c (.int .i64 0))), none, 0⟩]) (.cond (.t 18) (.seq (.reg false [⟨(some 2), (.mv (.c (.bool true))), none, 0⟩]) .ret) .skip)) x6_20)
def x6_22 : XCode := (.seq (.reg false [⟨(some 14), (.ld (some 5) (.t 1)), none, 0⟩, ⟨(some 15), (.mv (.t 3)), none, 0⟩, ⟨(some 16), (.call (.c (.fn 14 [])) [(.t 14), (.t 15)]), none, 0⟩, ⟨(some 3), (.mv (.t 16)), none, 0⟩]) x6_21)
def x6_23 : XCode := (.seq (.reg false [⟨(some 3), (.mv (.c (.int .i64 1048576))), none, 0⟩]) x6_22)
def x6 : XFn := ⟨(.seq (.seq (.reg false [⟨(some 1), (.box 38 5 (.t 0)), none, 0⟩, ⟨(some 2), (.mv (.c (.bool false))), none, 0⟩]) (.frz [1])) x6_23), 96, [(.t 2)]⟩
theorem ok6 : FnOk Try.prog T 6 x6 := ⟨Try.f6, [.frz [1], .frz [], .frz [], .frz [], .frz [], .frz [], .frz [6], .draw [0, 1, 2, 3, 4] [1, 4, 2, 3, 4]], Try.func6, by decide +kernel, by kernel_rfl⟩
def fl : List (Nat × XFn) := [(20, x20), (41, x41), (69, x69), (43, x43), (68, x68), (42, x42), (11, x11), (21, x21), (44, x44), (46, x46), (45, x45), (12, x12), (70, x70), (50, x50), (52, x52), (71, x71), (51, x51), (14, x14), (75, x75), (56, x56), (77, x77), (58, x58), (76, x76), (57, x57), (16, x16), (22, x22), (37, x37), (72, x72), (73, x73), (53, x53), (54, x54), (60, x60), (74, x74), (55, x55), (15, x15), (97, x97), (82, x82), (61, x61), (23, x23), (39, x39), (96, x96), (80, x80), (92, x92), (78, x78), (93, x93), (101, x101), (94, x94), (95, x95), (79, x79), (81, x81), (59, x59), (83, x83), (62, x62), (24, x24), (6, x6)]
theorem fl_ok : ∀ p ∈ fl, FnOk Try.prog T p.1 p.2 := by
  simp only [fl, List.forall_mem_cons]
  exact ⟨ok20, ok41, ok69, ok43, ok68, ok42, ok11, ok21, ok44, ok46, ok45, ok12, ok70, ok50, ok52, ok71, ok51, ok14, ok75, ok56, ok77, ok58, ok76, ok57, ok16, ok22, ok37, ok72, ok73, ok53, ok54, ok60, ok74, ok55, ok15, ok97, ok82, ok61, ok23, ok39, ok96, ok80, ok92, ok78, ok93, ok101, ok94, ok95, ok79, ok81, ok59, ok83, ok62, ok24, ok6, fun _ h => by cases h⟩
def roL : List Nat := [6, 11, 14, 15, 20, 22, 37, 39, 41, 42, 43, 50, 51, 52, 53, 54, 55, 59, 60, 61, 62, 68, 69, 70, 71, 72, 73, 74, 77, 78, 79, 80, 81, 82, 83, 92, 93, 94, 95, 96, 97, 101]
def mkL : List Nat := [16, 23, 24, 56, 57, 58, 75, 76]
def coL : List Nat := []
def modeF (n : Nat) : Nat := if roL.contains n then 1 else if mkL.contains n then 2 else if coL.contains n then 3 else 0
def E : Env := ⟨fnsL fl, modeF, szL tl⟩
end Go.Proofs.Ytohofoampalhoaa.X
