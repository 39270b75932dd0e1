/- The seat's types and functions as X has them; the kernel checks each against the program. -/
import Derived.Test.YtddkoiapboeemaaXSS
set_option linter.unusedVariables false
set_option linter.unusedSimpArgs false
set_option maxRecDepth 100000
namespace Go.Proofs.Ytddkoiapboeemaa.X
open Go
def tl : List (Nat × TI) := [(1, ⟨.other, 1, 8, [.nilfn]⟩),
  (2, ⟨(.int .i64), 1, 8, [(.int .i64 0)]⟩),
  (3, ⟨(.int .i64), 1, 8, [(.int .i64 0)]⟩),
  (4, ⟨.bool, 1, 1, [(.bool false)]⟩),
  (5, ⟨(.int .u8), 1, 1, [(.int .u8 0)]⟩),
  (6, ⟨(.int .u8), 1, 1, [(.int .u8 0)]⟩),
  (7, ⟨(.struct [(0, 2), (1, 3), (2, 4), (3, 6)]), 4, 24, [(.int .i64 0), (.int .i64 0), (.bool false), (.int .u8 0)]⟩),
  (8, ⟨(.struct [(0, 2), (1, 3), (2, 4), (3, 6)]), 4, 24, [(.int .i64 0), (.int .i64 0), (.bool false), (.int .u8 0)]⟩),
  (9, ⟨.str, 1, 16, [(.str (ByteArray.mk #[]))]⟩),
  (10, ⟨.str, 1, 16, [(.str (ByteArray.mk #[]))]⟩),
  (11, ⟨.str, 1, 16, [(.str (ByteArray.mk #[]))]⟩),
  (12, ⟨(.int .u64), 1, 8, [(.int .u64 0)]⟩),
  (15, ⟨.ptr, 1, 8, [.nilptr]⟩),
  (16, ⟨.ptr, 1, 8, [.nilptr]⟩),
  (17, ⟨.ptr, 1, 8, [.nilptr]⟩),
  (21, ⟨(.int .i32), 1, 4, [(.int .i32 0)]⟩),
  (22, ⟨(.slice 57), 1, 24, [.nil]⟩),
  (23, ⟨.other, 1, 8, [.nilfn]⟩),
  (24, ⟨(.slice 55), 1, 24, [.nil]⟩),
  (26, ⟨.other, 1, 8, [.nilfn]⟩),
  (27, ⟨.other, 1, 8, [.nilfn]⟩),
  (28, ⟨.other, 1, 8, [.nilfn]⟩),
  (29, ⟨.other, 1, 8, [.nilfn]⟩),
  (30, ⟨.other, 1, 8, [.nilfn]⟩),
  (32, ⟨.other, 1, 8, [.nilfn]⟩),
  (33, ⟨.other, 1, 8, [.nilfn]⟩),
  (34, ⟨(.slice 3), 1, 24, [.nil]⟩),
  (36, ⟨.other, 1, 8, [.nilfn]⟩),
  (37, ⟨.other, 1, 8, [.nilfn]⟩),
  (38, ⟨.other, 1, 8, [.nilfn]⟩),
  (39, ⟨.other, 1, 8, [.nilfn]⟩),
  (40, ⟨.other, 1, 8, [.nilfn]⟩),
  (41, ⟨.other, 1, 8, [.nilfn]⟩),
  (42, ⟨(.slice 5), 1, 24, [.nil]⟩),
  (43, ⟨.other, 1, 8, [.nilfn]⟩),
  (45, ⟨.other, 1, 8, [.nilfn]⟩),
  (46, ⟨.other, 1, 8, [.nilfn]⟩),
  (47, ⟨.other, 1, 8, [.nilfn]⟩),
  (49, ⟨.other, 1, 8, [.nilfn]⟩),
  (51, ⟨.other, 1, 8, [.nilfn]⟩),
  (52, ⟨.other, 1, 8, [.nilfn]⟩),
  (53, ⟨.other, 1, 8, [.nilfn]⟩),
  (54, ⟨(.struct [(0, 3), (1, 3), (2, 4), (3, 3), (4, 3), (5, 3)]), 6, 48, [(.int .i64 0), (.int .i64 0), (.bool false), (.int .i64 0), (.int .i64 0), (.int .i64 0)]⟩),
  (55, ⟨(.struct [(0, 3), (1, 3), (2, 4), (3, 3), (4, 3), (5, 3)]), 6, 48, [(.int .i64 0), (.int .i64 0), (.bool false), (.int .i64 0), (.int .i64 0), (.int .i64 0)]⟩),
  (56, ⟨.other, 1, 8, [.nilfn]⟩),
  (57, ⟨(.struct [(0, 3), (1, 3), (2, 4), (3, 3), (4, 3), (5, 3)]), 6, 48, [(.int .i64 0), (.int .i64 0), (.bool false), (.int .i64 0), (.int .i64 0), (.int .i64 0)]⟩),
  (58, ⟨.other, 1, 8, [.nilfn]⟩),
  (59, ⟨.other, 1, 8, [.nilfn]⟩),
  (60, ⟨.other, 1, 8, [.nilfn]⟩),
  (61, ⟨.other, 1, 8, [.nilfn]⟩),
  (62, ⟨.other, 1, 8, [.nilfn]⟩),
  (63, ⟨.other, 1, 8, [.nilfn]⟩),
  (64, ⟨.other, 1, 8, [.nilfn]⟩),
  (65, ⟨.other, 1, 8, [.nilfn]⟩),
  (66, ⟨.other, 1, 8, [.nilfn]⟩),
  (67, ⟨.other, 1, 8, [.nilfn]⟩),
  (68, ⟨.other, 1, 8, [.nilfn]⟩),
  (69, ⟨.ptr, 1, 8, [.nilptr]⟩),
  (70, ⟨(.int .u64), 1, 8, [(.int .u64 0)]⟩),
  (71, ⟨(.struct [(0, 42), (1, 3), (2, 70)]), 3, 40, [.nil, (.int .i64 0), (.int .u64 0)]⟩),
  (72, ⟨(.struct [(0, 42), (1, 3), (2, 70)]), 3, 40, [.nil, (.int .i64 0), (.int .u64 0)]⟩),
  (73, ⟨.other, 1, 8, [.nilfn]⟩),
  (74, ⟨.other, 1, 8, [.nilfn]⟩),
  (75, ⟨.other, 1, 8, [.nilfn]⟩),
  (76, ⟨.other, 1, 8, [.nilfn]⟩),
  (77, ⟨.other, 1, 8, [.nilfn]⟩),
  (78, ⟨.other, 1, 8, [.nilfn]⟩),
  (79, ⟨.other, 1, 8, [.nilfn]⟩),
  (80, ⟨.other, 1, 8, [.nilfn]⟩),
  (81, ⟨(.array 3 3), 3, 24, [(.int .i64 0), (.int .i64 0), (.int .i64 0)]⟩),
  (82, ⟨.other, 1, 8, [.nilfn]⟩),
  (83, ⟨.other, 1, 8, [.nilfn]⟩),
  (84, ⟨.other, 1, 8, [.nilfn]⟩),
  (85, ⟨.other, 1, 8, [.nilfn]⟩),
  (86, ⟨(.int .u64), 1, 8, [(.int .u64 0)]⟩),
  (87, ⟨.other, 1, 8, [.nilfn]⟩),
  (88, ⟨(.int .i64), 1, 8, [(.int .i64 0)]⟩),
  (90, ⟨.other, 1, 8, [.nilfn]⟩),
  (91, ⟨.other, 1, 8, [.nilfn]⟩),
  (92, ⟨.other, 1, 8, [.nilfn]⟩),
  (93, ⟨.other, 1, 8, [.nilfn]⟩),
  (94, ⟨.other, 1, 8, [.nilfn]⟩),
  (95, ⟨(.int .u32), 1, 4, [(.int .u32 0)]⟩),
  (96, ⟨.other, 1, 8, [.nilfn]⟩),
  (97, ⟨(.int .u64), 1, 8, [(.int .u64 0)]⟩),
  (98, ⟨.other, 1, 8, [.nilfn]⟩),
  (99, ⟨.other, 1, 8, [.nilfn]⟩),
  (100, ⟨.other, 1, 8, [.nilfn]⟩),
  (101, ⟨.ptr, 1, 8, [.nilptr]⟩),
  (102, ⟨.other, 1, 8, [.nilfn]⟩),
  (103, ⟨.ptr, 1, 8, [.nilptr]⟩),
  (105, ⟨.other, 1, 8, [.nilfn]⟩),
  (106, ⟨.other, 1, 8, [.nilfn]⟩),
  (109, ⟨(.array 0 16), 0, 0, []⟩),
  (112, ⟨(.int .u8), 1, 1, [(.int .u8 0)]⟩),
  (113, ⟨(.int .u8), 1, 1, [(.int .u8 0)]⟩),
  (114, ⟨.other, 1, 8, [.nilfn]⟩),
  (115, ⟨.ptr, 1, 8, [.nilptr]⟩),
  (116, ⟨(.int .i32), 1, 4, [(.int .i32 0)]⟩),
  (117, ⟨(.int .i32), 1, 4, [(.int .i32 0)]⟩)]
abbrev T : Tab := tabL tl
theorem tl_ok : ∀ p ∈ tl, tabOf Try.prog p.1 = some p.2 := by
  simp only [tl, List.forall_mem_cons]
  exact ⟨by kernel_rfl, by kernel_rfl, by kernel_rfl, by kernel_rfl, by kernel_rfl, by kernel_rfl, by kernel_rfl, by kernel_rfl, by kernel_rfl, by kernel_rfl, by kernel_rfl, by kernel_rfl, by kernel_rfl, by kernel_rfl, by kernel_rfl, by kernel_rfl, by kernel_rfl, by kernel_rfl, by kernel_rfl, by kernel_rfl, by kernel_rfl, by kernel_rfl, by kernel_rfl, by kernel_rfl, by kernel_rfl, by kernel_rfl, by kernel_rfl, by kernel_rfl, by kernel_rfl, by kernel_rfl, by kernel_rfl, by kernel_rfl, by kernel_rfl, by kernel_rfl, by kernel_rfl, by kernel_rfl, by kernel_rfl, by kernel_rfl, by kernel_rfl, by kernel_rfl, by kernel_rfl, by kernel_rfl, by kernel_rfl, by kernel_rfl, by kernel_rfl, by kernel_rfl, by kernel_rfl, by kernel_rfl, by kernel_rfl, by kernel_rfl, by kernel_rfl, by kernel_rfl, by kernel_rfl, by kernel_rfl, by kernel_rfl, by kernel_rfl, by kernel_rfl, by kernel_rfl, by kernel_rfl, by kernel_rfl, by kernel_rfl, by kernel_rfl, by kernel_rfl, by kernel_rfl, by kernel_rfl, by kernel_rfl, by kernel_rfl, by kernel_rfl, by kernel_rfl, by kernel_rfl, by kernel_rfl, by kernel_rfl, by kernel_rfl, by kernel_rfl, by kernel_rfl, by kernel_rfl, by kernel_rfl, by kernel_rfl, by kernel_rfl, by kernel_rfl, by kernel_rfl, by kernel_rfl, by kernel_rfl, by kernel_rfl, by kernel_rfl, by kernel_rfl, by kernel_rfl, by kernel_rfl, by kernel_rfl, by kernel_rfl, by kernel_rfl, by kernel_rfl, by kernel_rfl, by kernel_rfl, by kernel_rfl, by kernel_rfl, by kernel_rfl, by kernel_rfl, by kernel_rfl, by kernel_rfl, fun _ h => by cases h⟩
/-- impl.in -/
def x44_1 : XCode := (.seq (.reg false [⟨(some 7), (.mv (.t 0)), none, 0⟩, ⟨(some 8), (.mv (.t 1)), none, 0⟩, ⟨(some 9), (.bin .geq (.t 7) (.t 8)), none, 0⟩, ⟨(some 10), (.mv (.t 9)), none, 0⟩, ⟨(some 11), (.mv (.t 0)), (some (10, true)), 0⟩, ⟨(some 12), (.mv (.t 2)), (some (10, true)), 0⟩, ⟨(some 13), (.bin .leq (.t 11) (.t 12)), (some (10, true)), 0⟩, ⟨(some 14), (.pick (.t 10) (.t 13) (.c (.bool false))), none, 0⟩, ⟨(some 6), (.mv (.t 14)), none, 0⟩]) .ret)
def x44 : XFn := ⟨(.seq (.reg false [⟨(some 6), (.mv (.c (.bool false))), none, 0⟩]) x44_1), 15, [(.t 6)]⟩
theorem ok44 : FnOk Try.prog T 44 x44 := ⟨Try.f44, [], Try.func44, by decide +kernel, by kernel_rfl⟩
/-- impl.areCalls -/
def x43_1 : XCode := (.seq (.reg false [⟨(some 61), (.fa 0 (.t 4)), none, 0⟩, ⟨(some 62), (.ld none (.t 61)), none, 0⟩, ⟨(some 63), (.fa 0 (.t 7)), none, 0⟩, ⟨(some 64), (.ld none (.t 63)), none, 0⟩, ⟨(some 65), (.bin .eql (.t 62) (.t 64)), none, 0⟩, ⟨(some 66), (.mv (.t 65)), none, 0⟩, ⟨(some 67), (.fa 5 (.t 4)), (some (66, true)), 0⟩, ⟨(some 68), (.ld none (.t 67)), (some (66, true)), 0⟩, ⟨(some 69), (.fa 4 (.t 7)), (some (66, true)), 0⟩, ⟨(some 70), (.ld none (.t 69)), (some (66, true)), 0⟩, ⟨(some 71), (.bin .gtr (.t 68) (.t 70)), (some (66, true)), 0⟩, ⟨(some 72), (.pick (.t 66) (.t 71) (.c (.bool false))), none, 0⟩, ⟨(some 73), (.mv (.t 72)), none, 0⟩, ⟨(some 74), (.fa 5 (.t 7)), (some (73, true)), 0⟩, ⟨(some 75), (.ld none (.t 74)), (some (73, true)), 0⟩, ⟨(some 76), (.fa 4 (.t 4)), (some (73, true)), 0⟩, ⟨(some 77), (.ld none (.t 76)), (some (73, true)), 0⟩, ⟨(some 78), (.bin .gtr (.t 75) (.t 77)), (some (73, true)), 0⟩, ⟨(some 79), (.pick (.t 73) (.t 78) (.c (.bool false))), none, 0⟩]) (.cond (.t 79) (.seq (.reg false [⟨(some 2), (.mv (.c (.bool false))), none, 0⟩]) .ret) .skip))
def x43_2 : XCode := (.seq (.seq (.reg false [⟨(some 59), (.ia 6 (.t 55) (.t 57)), none, 0⟩, ⟨(some 60), (.ld (some 6) (.t 59)), none, 0⟩, ⟨(some 7), (.new 55 [(.int .i64 0), (.int .i64 0), (.bool false), (.int .i64 0), (.int .i64 0), (.int .i64 0)]), none, 0⟩, ⟨none, (.st 6 (.t 7) (.t 60)), none, 0⟩]) (.frz [7])) x43_1)
def x43_3 : XCode := (.block 2 (.loop [0, 4, 8, 9, 10, 55, 56, 57] (.seq (.reg false [⟨(some 58), (.bin .lss (.t 57) (.t 56)), none, 0⟩]) (.seq (.cond (.t 58) .skip (.exit 2)) (.seq (.block 3 x43_2) (.reg false [⟨(some 80), (.bin .add (.t 57) (.c (.int .i64 1))), none, 0⟩, ⟨(some 57), (.mv (.t 80)), none, 0⟩]))))))
def x43_4 : XCode := x43_3
def x43_5 : XCode := (.seq (.reg false [⟨(some 53), (.mv (.t 0)), none, 0⟩, ⟨(some 54), (.mv (.t 3)), none, 0⟩, ⟨(some 55), (.slc 55 6 (.t 53) none (some (.t 54)) none), none, 0⟩, ⟨(some 56), (.len (.t 55)), none, 0⟩, ⟨(some 57), (.mv (.c (.int .i64 0))), none, 0⟩]) x43_4)
def x43_6 : XCode := (.seq (.seq (.reg false [⟨(some 17), (.fa 0 (.t 4)), none, 0⟩, ⟨(some 18), (.ld none (.t 17)), none, 0⟩, ⟨(some 19), (.call (.c (.fn 44 [])) [(.t 18), (.c (.int .i64 0)), (.c (.int .i64 3))]), none, 0⟩, ⟨(some 20), (.un .not (.t 19)), none, 0⟩, ⟨(some 21), (.mv (.t 20)), none, 0⟩, ⟨(some 22), (.fa 1 (.t 4)), (some (21, false)), 0⟩, ⟨(some 23), (.ld none (.t 22)), (some (21, false)), 0⟩, ⟨(some 24), (.call (.c (.fn 44 [])) [(.t 23), (.c (.int .i64 0)), (.c (.int .i64 2))]), (some (21, false)), 0⟩, ⟨(some 25), (.un .not (.t 24)), (some (21, false)), 0⟩, ⟨(some 26), (.pick (.t 21) (.c (.bool true)) (.t 25)), none, 0⟩, ⟨(some 27), (.mv (.t 26)), none, 0⟩, ⟨(some 28), (.fa 3 (.t 4)), (some (27, false)), 0⟩, ⟨(some 29), (.ld none (.t 28)), (some (27, false)), 0⟩, ⟨(some 30), (.mv (.t 5)), (some (27, false)), 0⟩, ⟨(some 31), (.call (.c (.fn 44 [])) [(.t 29), (.t 30), (.c (.int .i64 9))]), (some (27, false)), 0⟩, ⟨(some 32), (.un .not (.t 31)), (some (27, false)), 0⟩, ⟨(some 33), (.pick (.t 27) (.c (.bool true)) (.t 32)), none, 0⟩, ⟨(some 34), (.mv (.t 33)), none, 0⟩, ⟨(some 35), (.fa 4 (.t 4)), (some (34, false)), 0⟩, ⟨(some 36), (.ld none (.t 35)), (some (34, false)), 0⟩, ⟨(some 37), (.call (.c (.fn 44 [])) [(.t 36), (.c (.int .i64 0)), (.c (.int .i64 100))]), (some (34, false)), 0⟩, ⟨(some 38), (.un .not (.t 37)), (some (34, false)), 0⟩, ⟨(some 39), (.pick (.t 34) (.c (.bool true)) (.t 38)), none, 0⟩, ⟨(some 40), (.mv (.t 39)), none, 0⟩, ⟨(some 41), (.fa 5 (.t 4)), (some (40, false)), 0⟩, ⟨(some 42), (.ld none (.t 41)), (some (40, false)), 0⟩, ⟨(some 43), (.call (.c (.fn 44 [])) [(.t 42), (.c (.int .i64 0)), (.c (.int .i64 100))]), (some (40, false)), 0⟩, ⟨(some 44), (.un .not (.t 43)), (some (40, false)), 0⟩, ⟨(some 45), (.pick (.t 40) (.c (.bool true)) (.t 44)), none, 0⟩, ⟨(some 46), (.mv (.t 45)), none, 0⟩, ⟨(some 47), (.fa 4 (.t 4)), (some (46, false)), 0⟩, ⟨(some 48), (.ld none (.t 47)), (some (46, false)), 0⟩, ⟨(some 49), (.fa 5 (.t 4)), (some (46, false)), 0⟩, ⟨(some 50), (.ld none (.t 49)), (some (46, false)), 0⟩, ⟨(some 51), (.bin .geq (.t 48) (.t 50)), (some (46, false)), 0⟩, ⟨(some 52), (.pick (.t 46) (.c (.bool true)) (.t 51)), none, 0⟩]) (.cond (.t 52) (.seq (.reg false [⟨(some 2), (.mv (.c (.bool false))), none, 0⟩]) .ret) .skip)) x43_5)
def x43_7 : XCode := (.seq (.seq (.reg false [⟨(some 15), (.fa 2 (.t 4)), none, 0⟩, ⟨(some 16), (.ld none (.t 15)), none, 0⟩]) (.cond (.t 16) (.reg false [⟨(some 5), (.mv (.c (.int .i64 1))), none, 0⟩]) .skip)) x43_6)
def x43_8 : XCode := (.seq (.reg false [⟨(some 5), (.mv (.c (.int .i64 0))), none, 0⟩]) x43_7)
def x43_9 : XCode := (.seq (.seq (.reg false [⟨(some 12), (.mv (.t 10)), none, 0⟩, ⟨(some 13), (.ia 6 (.t 8) (.t 10)), none, 0⟩, ⟨(some 14), (.ld (some 6) (.t 13)), none, 0⟩, ⟨(some 4), (.new 55 [(.int .i64 0), (.int .i64 0), (.bool false), (.int .i64 0), (.int .i64 0), (.int .i64 0)]), none, 0⟩, ⟨(some 3), (.mv (.t 12)), none, 0⟩, ⟨none, (.st 6 (.t 4) (.t 14)), none, 0⟩]) (.frz [4])) x43_8)
def x43_10 : XCode := (.block 0 (.loop [0, 8, 9, 10] (.seq (.reg false [⟨(some 11), (.bin .lss (.t 10) (.t 9)), none, 0⟩]) (.seq (.cond (.t 11) .skip (.exit 0)) (.seq (.block 1 x43_9) (.reg false [⟨(some 81), (.bin .add (.t 10) (.c (.int .i64 1))), none, 0⟩, ⟨(some 10), (.mv (.t 81)), none, 0⟩]))))))
def x43_11 : XCode := x43_10
def x43_12 : XCode := (.seq (.reg false [⟨(some 82), (.mv (.t 0)), none, 0⟩, ⟨(some 83), (.len (.t 82)), none, 0⟩, ⟨(some 84), (.bin .leq (.t 83) (.c (.int .i64 7))), none, 0⟩, ⟨(some 2), (.mv (.t 84)), none, 0⟩]) .ret)
def x43_13 : XCode := (.seq (.seq (.reg false [⟨(some 8), (.mv (.t 0)), none, 0⟩, ⟨(some 9), (.len (.t 8)), none, 0⟩, ⟨(some 10), (.mv (.c (.int .i64 0))), none, 0⟩]) x43_11) x43_12)
def x43 : XFn := ⟨(.seq (.reg false [⟨(some 2), (.mv (.c (.bool false))), none, 0⟩]) x43_13), 85, [(.t 2)]⟩
theorem ok43 : FnOk Try.prog T 43 x43 := ⟨Try.f43, [.loop [0, 8, 9, 10], .frz [], .frz [4], .loop [0, 4, 8, 9, 10, 55, 56, 57], .frz [], .frz [7]], Try.func43, by decide +kernel, by kernel_rfl⟩
/-- impl.Call] -/
def x65_1 : XCode := (.cond (.t 16) (.seq (.reg false [⟨(some 17), (.mv (.t 5)), none, 0⟩, ⟨(some 4), (.mv (.t 17)), none, 0⟩]) .ret) .skip)
def x65_2 : XCode := (.seq (.reg false [⟨(some 11), (.mv (.t 1)), none, 0⟩, ⟨(some 12), (.mv (.t 0)), none, 0⟩, ⟨(some 13), (.mv (.t 5)), none, 0⟩, ⟨(some 14), (.ia 6 (.t 12) (.t 13)), none, 0⟩, ⟨(some 15), (.ld (some 6) (.t 14)), none, 0⟩, ⟨(some 16), (.call (.t 11) [(.t 15)]), none, 0⟩]) x65_1)
def x65_3 : XCode := (.seq (.reg false [⟨(some 10), (.mv (.t 8)), none, 0⟩, ⟨(some 5), (.mv (.t 10)), none, 0⟩]) x65_2)
def x65_4 : XCode := (.block 0 (.loop [0, 1, 7, 8] (.seq (.reg false [⟨(some 9), (.bin .lss (.t 8) (.t 7)), none, 0⟩]) (.seq (.cond (.t 9) .skip (.exit 0)) (.seq (.block 1 x65_3) (.reg false [⟨(some 18), (.bin .add (.t 8) (.c (.int .i64 1))), none, 0⟩, ⟨(some 8), (.mv (.t 18)), none, 0⟩]))))))
def x65_5 : XCode := x65_4
def x65_6 : XCode := (.seq (.seq (.reg false [⟨(some 6), (.mv (.t 0)), none, 0⟩, ⟨(some 7), (.len (.t 6)), none, 0⟩, ⟨(some 8), (.mv (.c (.int .i64 0))), none, 0⟩]) x65_5) (.seq (.reg false [⟨(some 4), (.mv (.c (.int .i64 (-1)))), none, 0⟩]) .ret))
def x65 : XFn := ⟨(.seq (.reg false [⟨(some 4), (.mv (.c (.int .i64 0))), none, 0⟩]) x65_6), 19, [(.t 4)]⟩
theorem ok65 : FnOk Try.prog T 65 x65 := ⟨Try.f65, [.loop [0, 1, 7, 8]], Try.func65, by decide +kernel, by kernel_rfl⟩
/-- impl.Call] -/
def x45_1 : XCode := (.cond (.t 12) (.seq (.reg false [⟨(some 13), (.mv (.t 0)), none, 0⟩, ⟨(some 4), (.mv (.t 13)), none, 0⟩]) .ret) .skip)
def x45_2 : XCode := (.seq (.reg false [⟨(some 30), (.mv (.t 0)), none, 0⟩, ⟨(some 31), (.mv (.t 5)), none, 0⟩, ⟨(some 32), (.ld (some 6) (.t 7)), none, 0⟩, ⟨(some 33), (.ia 6 (.t 30) (.t 31)), none, 0⟩, ⟨none, (.st 6 (.t 33) (.t 32)), none, 0⟩]) (.reg false [⟨(some 34), (.mv (.t 5)), none, 0⟩, ⟨(some 35), (.bin .add (.t 34) (.c (.int .i64 1))), none, 0⟩, ⟨(some 5), (.mv (.t 35)), none, 0⟩]))
def x45_3 : XCode := (.cond (.t 29) x45_2 .skip)
def x45_4 : XCode := (.seq (.reg false [⟨(some 26), (.mv (.t 1)), none, 0⟩, ⟨(some 27), (.ld (some 6) (.t 7)), none, 0⟩, ⟨(some 28), (.call (.t 26) [(.t 27)]), none, 0⟩, ⟨(some 29), (.un .not (.t 28)), none, 0⟩]) x45_3)
def x45_5 : XCode := (.seq (.seq (.reg false [⟨(some 22), (.mv (.t 0)), none, 0⟩, ⟨(some 23), (.mv (.t 6)), none, 0⟩, ⟨(some 24), (.ia 6 (.t 22) (.t 23)), none, 0⟩, ⟨(some 25), (.ld (some 6) (.t 24)), none, 0⟩, ⟨(some 7), (.new 55 [(.int .i64 0), (.int .i64 0), (.bool false), (.int .i64 0), (.int .i64 0), (.int .i64 0)]), none, 0⟩, ⟨none, (.st 6 (.t 7) (.t 25)), none, 0⟩]) (.frz [7])) x45_4)
def x45_6 : XCode := (.seq (.block 1 x45_5) (.reg false [⟨(some 20), (.mv (.t 6)), none, 0⟩, ⟨(some 21), (.bin .add (.t 20) (.c (.int .i64 1))), none, 0⟩, ⟨(some 6), (.mv (.t 21)), none, 0⟩]))
def x45_7 : XCode := (.seq (.seq (.reg false [⟨(some 16), (.mv (.t 6)), none, 0⟩, ⟨(some 17), (.mv (.t 0)), none, 0⟩, ⟨(some 18), (.len (.t 17)), none, 0⟩, ⟨(some 19), (.bin .lss (.t 16) (.t 18)), none, 0⟩]) (.cond (.t 19) .skip (.exit 0))) x45_6)
def x45_8 : XCode := (.block 0 (.loop [0, 1, 5, 6] x45_7))
def x45_9 : XCode := x45_8
def x45_10 : XCode := (.seq (.reg false [⟨(some 39), (.mv (.t 0)), none, 0⟩, ⟨(some 40), (.mv (.t 5)), none, 0⟩, ⟨(some 41), (.slc 55 6 (.t 39) none (some (.t 40)) none), none, 0⟩, ⟨(some 4), (.mv (.t 41)), none, 0⟩]) .ret)
def x45_11 : XCode := (.seq (.reg false [⟨(some 36), (.mv (.t 0)), none, 0⟩, ⟨(some 37), (.mv (.t 5)), none, 0⟩, ⟨(some 38), (.slc 55 6 (.t 36) (some (.t 37)) none none), none, 0⟩, ⟨none, (.clr 55 [(.int .i64 0), (.int .i64 0), (.bool false), (.int .i64 0), (.int .i64 0), (.int .i64 0)] (.t 38)), none, 0⟩]) x45_10)
def x45_12 : XCode := (.seq (.seq (.reg false [⟨(some 14), (.mv (.t 5)), none, 0⟩, ⟨(some 15), (.bin .add (.t 14) (.c (.int .i64 1))), none, 0⟩, ⟨(some 6), (.mv (.t 15)), none, 0⟩]) x45_9) x45_11)
def x45_13 : XCode := (.seq (.seq (.reg false [⟨(some 11), (.mv (.t 5)), none, 0⟩, ⟨(some 12), (.bin .eql (.t 11) (.c (.int .i64 (-1)))), none, 0⟩]) x45_1) x45_12)
def x45_14 : XCode := (.seq (.reg false [⟨(some 8), (.mv (.t 0)), none, 0⟩, ⟨(some 9), (.mv (.t 1)), none, 0⟩, ⟨(some 10), (.call (.c (.fn 65 [])) [(.t 8), (.t 9)]), none, 0⟩, ⟨(some 5), (.mv (.t 10)), none, 0⟩]) x45_13)
def x45 : XFn := ⟨(.seq (.reg false [⟨(some 4), (.mv (.c .nil)), none, 0⟩]) x45_14), 42, [(.t 4)]⟩
theorem ok45 : FnOk Try.prog T 45 x45 := ⟨Try.f45, [.loop [0, 1, 5, 6], .frz [], .frz [7]], Try.func45, by decide +kernel, by kernel_rfl⟩
/-- impl.OnObject$1 -/
def x46_1 : XCode := (.seq (.reg false [⟨(some 4), (.fa 1 (.t 2)), none, 0⟩, ⟨(some 5), (.ld none (.t 4)), none, 0⟩, ⟨(some 6), (.ld none (.t 1)), none, 0⟩, ⟨(some 7), (.bin .neq (.t 5) (.t 6)), none, 0⟩, ⟨(some 3), (.mv (.t 7)), none, 0⟩]) .ret)
def x46 : XFn := ⟨(.seq (.seq (.reg false [⟨(some 2), (.box 55 6 (.t 0)), none, 0⟩, ⟨(some 3), (.mv (.c (.bool false))), none, 0⟩]) (.frz [2])) x46_1), 8, [(.t 3)]⟩
theorem ok46 : FnOk Try.prog T 46 x46 := ⟨Try.f46, [.frz [2]], Try.func46, by decide +kernel, by kernel_rfl⟩
/-- impl.OnObject -/
def x14_1 : XCode := (.cond (.t 13) (.seq (.reg false [⟨(some 4), (.mv (.c .nil)), none, 0⟩, ⟨(some 5), (.mv (.c (.bool false))), none, 0⟩]) .ret) .skip)
def x14_2 : XCode := (.seq (.reg false [⟨(some 14), (.buildS 55 0 [] []), none, 0⟩, ⟨(some 15), (.mv (.t 0)), none, 0⟩, ⟨(some 16), (.app 55 6 48 (.t 14) (.t 15)), none, 0⟩, ⟨(some 17), (.mkF 46 [(.t 3)]), none, 0⟩, ⟨(some 18), (.call (.c (.fn 45 [])) [(.t 16), (.t 17)]), none, 0⟩, ⟨(some 4), (.mv (.t 18)), none, 0⟩, ⟨(some 5), (.mv (.c (.bool true))), none, 0⟩]) .ret)
def x14_3 : XCode := (.seq (.seq (.reg false [⟨(some 6), (.mv (.t 0)), none, 0⟩, ⟨(some 7), (.call (.c (.fn 43 [])) [(.t 6)]), none, 0⟩, ⟨(some 8), (.un .not (.t 7)), none, 0⟩, ⟨(some 9), (.mv (.t 8)), none, 0⟩, ⟨(some 10), (.ld none (.t 3)), (some (9, false)), 0⟩, ⟨(some 11), (.call (.c (.fn 44 [])) [(.t 10), (.c (.int .i64 0)), (.c (.int .i64 2))]), (some (9, false)), 0⟩, ⟨(some 12), (.un .not (.t 11)), (some (9, false)), 0⟩, ⟨(some 13), (.pick (.t 9) (.c (.bool true)) (.t 12)), none, 0⟩]) x14_1) x14_2)
def x14 : XFn := ⟨(.seq (.seq (.reg false [⟨(some 3), (.box 3 1 (.t 1)), none, 0⟩, ⟨(some 4), (.mv (.c .nil)), none, 0⟩, ⟨(some 5), (.mv (.c (.bool false))), none, 0⟩]) (.frz [3])) x14_3), 19, [(.t 4), (.t 5)]⟩
theorem ok14 : FnOk Try.prog T 14 x14 := ⟨Try.f14, [.frz [3]], Try.func14, by decide +kernel, by kernel_rfl⟩
/-- spec.l1In -/
def x41_1 : XCode := (.seq (.reg false [⟨(some 7), (.mv (.t 0)), none, 0⟩, ⟨(some 8), (.mv (.t 1)), none, 0⟩, ⟨(some 9), (.bin .geq (.t 7) (.t 8)), none, 0⟩, ⟨(some 10), (.mv (.t 9)), none, 0⟩, ⟨(some 11), (.mv (.t 0)), (some (10, true)), 0⟩, ⟨(some 12), (.mv (.t 2)), (some (10, true)), 0⟩, ⟨(some 13), (.bin .leq (.t 11) (.t 12)), (some (10, true)), 0⟩, ⟨(some 14), (.pick (.t 10) (.t 13) (.c (.bool false))), none, 0⟩, ⟨(some 6), (.mv (.t 14)), none, 0⟩]) .ret)
def x41 : XFn := ⟨(.seq (.reg false [⟨(some 6), (.mv (.c (.bool false))), none, 0⟩]) x41_1), 15, [(.t 6)]⟩
theorem ok41 : FnOk Try.prog T 41 x41 := ⟨Try.f41, [], Try.func41, by decide +kernel, by kernel_rfl⟩
/-- spec.l15Call -/
def x64_1 : XCode := (.seq (.reg false [⟨(some 3), (.fa 0 (.t 1)), none, 0⟩, ⟨(some 4), (.ld none (.t 3)), none, 0⟩, ⟨(some 5), (.call (.c (.fn 41 [])) [(.t 4), (.c (.int .i64 0)), (.c (.int .i64 3))]), none, 0⟩, ⟨(some 6), (.mv (.t 5)), none, 0⟩, ⟨(some 7), (.fa 1 (.t 1)), (some (6, true)), 0⟩, ⟨(some 8), (.ld none (.t 7)), (some (6, true)), 0⟩, ⟨(some 9), (.call (.c (.fn 41 [])) [(.t 8), (.c (.int .i64 0)), (.c (.int .i64 2))]), (some (6, true)), 0⟩, ⟨(some 10), (.pick (.t 6) (.t 9) (.c (.bool false))), none, 0⟩, ⟨(some 11), (.mv (.t 10)), none, 0⟩, ⟨(some 12), (.fa 3 (.t 1)), (some (11, true)), 0⟩, ⟨(some 13), (.ld none (.t 12)), (some (11, true)), 0⟩, ⟨(some 14), (.call (.c (.fn 41 [])) [(.t 13), (.c (.int .i64 0)), (.c (.int .i64 9))]), (some (11, true)), 0⟩, ⟨(some 15), (.pick (.t 11) (.t 14) (.c (.bool false))), none, 0⟩, ⟨(some 16), (.mv (.t 15)), none, 0⟩, ⟨(some 17), (.fa 2 (.t 1)), (some (16, true)), 0⟩, ⟨(some 18), (.ld none (.t 17)), (some (16, true)), 0⟩, ⟨(some 19), (.un .not (.t 18)), (some (16, true)), 0⟩, ⟨(some 20), (.mv (.t 19)), (some (16, true)), 0⟩, ⟨(some 21), (.fa 3 (.t 1)), (some (20, false)), 0⟩, ⟨(some 22), (.ld none (.t 21)), (some (20, false)), 0⟩, ⟨(some 23), (.bin .gtr (.t 22) (.c (.int .i64 0))), (some (20, false)), 0⟩, ⟨(some 24), (.pick (.t 20) (.c (.bool true)) (.t 23)), (some (16, true)), 0⟩, ⟨(some 25), (.pick (.t 16) (.t 24) (.c (.bool false))), none, 0⟩, ⟨(some 26), (.mv (.t 25)), none, 0⟩, ⟨(some 27), (.fa 4 (.t 1)), (some (26, true)), 0⟩, ⟨(some 28), (.ld none (.t 27)), (some (26, true)), 0⟩, ⟨(some 29), (.call (.c (.fn 41 [])) [(.t 28), (.c (.int .i64 0)), (.c (.int .i64 100))]), (some (26, true)), 0⟩, ⟨(some 30), (.pick (.t 26) (.t 29) (.c (.bool false))), none, 0⟩, ⟨(some 31), (.mv (.t 30)), none, 0⟩, ⟨(some 32), (.fa 5 (.t 1)), (some (31, true)), 0⟩, ⟨(some 33), (.ld none (.t 32)), (some (31, true)), 0⟩, ⟨(some 34), (.call (.c (.fn 41 [])) [(.t 33), (.c (.int .i64 0)), (.c (.int .i64 100))]), (some (31, true)), 0⟩, ⟨(some 35), (.pick (.t 31) (.t 34) (.c (.bool false))), none, 0⟩, ⟨(some 36), (.mv (.t 35)), none, 0⟩, ⟨(some 37), (.fa 4 (.t 1)), (some (36, true)), 0⟩, ⟨(some 38), (.ld none (.t 37)), (some (36, true)), 0⟩, ⟨(some 39), (.fa 5 (.t 1)), (some (36, true)), 0⟩, ⟨(some 40), (.ld none (.t 39)), (some (36, true)), 0⟩, ⟨(some 41), (.bin .lss (.t 38) (.t 40)), (some (36, true)), 0⟩, ⟨(some 42), (.pick (.t 36) (.t 41) (.c (.bool false))), none, 0⟩, ⟨(some 2), (.mv (.t 42)), none, 0⟩]) .ret)
def x64 : XFn := ⟨(.seq (.seq (.reg false [⟨(some 1), (.box 55 6 (.t 0)), none, 0⟩, ⟨(some 2), (.mv (.c (.bool false))), none, 0⟩]) (.frz [1])) x64_1), 43, [(.t 2)]⟩
theorem ok64 : FnOk Try.prog T 64 x64 := ⟨Try.f64, [.frz [1]], Try.func64, by decide +kernel, by kernel_rfl⟩
/-- spec.GoodCalls -/
def x40_1 : XCode := (.seq (.reg false [⟨(some 25), (.fa 0 (.t 6)), none, 0⟩, ⟨(some 26), (.ld none (.t 25)), none, 0⟩, ⟨(some 27), (.fa 0 (.t 4)), none, 0⟩, ⟨(some 28), (.ld none (.t 27)), none, 0⟩, ⟨(some 29), (.bin .eql (.t 26) (.t 28)), none, 0⟩, ⟨(some 30), (.mv (.t 29)), none, 0⟩, ⟨(some 31), (.fa 5 (.t 6)), (some (30, true)), 0⟩, ⟨(some 32), (.ld none (.t 31)), (some (30, true)), 0⟩, ⟨(some 33), (.fa 4 (.t 4)), (some (30, true)), 0⟩, ⟨(some 34), (.ld none (.t 33)), (some (30, true)), 0⟩, ⟨(some 35), (.bin .gtr (.t 32) (.t 34)), (some (30, true)), 0⟩, ⟨(some 36), (.pick (.t 30) (.t 35) (.c (.bool false))), none, 0⟩, ⟨(some 37), (.mv (.t 36)), none, 0⟩, ⟨(some 38), (.fa 5 (.t 4)), (some (37, true)), 0⟩, ⟨(some 39), (.ld none (.t 38)), (some (37, true)), 0⟩, ⟨(some 40), (.fa 4 (.t 6)), (some (37, true)), 0⟩, ⟨(some 41), (.ld none (.t 40)), (some (37, true)), 0⟩, ⟨(some 42), (.bin .gtr (.t 39) (.t 41)), (some (37, true)), 0⟩, ⟨(some 43), (.pick (.t 37) (.t 42) (.c (.bool false))), none, 0⟩]) (.cond (.t 43) (.seq (.reg false [⟨(some 2), (.mv (.c (.bool false))), none, 0⟩]) .ret) .skip))
def x40_2 : XCode := (.seq (.seq (.reg false [⟨(some 23), (.ia 6 (.t 19) (.t 21)), none, 0⟩, ⟨(some 24), (.ld (some 6) (.t 23)), none, 0⟩, ⟨(some 6), (.new 55 [(.int .i64 0), (.int .i64 0), (.bool false), (.int .i64 0), (.int .i64 0), (.int .i64 0)]), none, 0⟩, ⟨none, (.st 6 (.t 6) (.t 24)), none, 0⟩]) (.frz [6])) x40_1)
def x40_3 : XCode := (.block 2 (.loop [0, 4, 7, 8, 9, 19, 20, 21] (.seq (.reg false [⟨(some 22), (.bin .lss (.t 21) (.t 20)), none, 0⟩]) (.seq (.cond (.t 22) .skip (.exit 2)) (.seq (.block 3 x40_2) (.reg false [⟨(some 44), (.bin .add (.t 21) (.c (.int .i64 1))), none, 0⟩, ⟨(some 21), (.mv (.t 44)), none, 0⟩]))))))
def x40_4 : XCode := x40_3
def x40_5 : XCode := (.seq (.reg false [⟨(some 17), (.mv (.t 0)), none, 0⟩, ⟨(some 18), (.mv (.t 3)), none, 0⟩, ⟨(some 19), (.slc 55 6 (.t 17) none (some (.t 18)) none), none, 0⟩, ⟨(some 20), (.len (.t 19)), none, 0⟩, ⟨(some 21), (.mv (.c (.int .i64 0))), none, 0⟩]) x40_4)
def x40_6 : XCode := (.seq (.seq (.reg false [⟨(some 14), (.ld (some 6) (.t 4)), none, 0⟩, ⟨(some 15), (.call (.c (.fn 64 [])) [(.t 14)]), none, 0⟩, ⟨(some 16), (.un .not (.t 15)), none, 0⟩]) (.cond (.t 16) (.seq (.reg false [⟨(some 2), (.mv (.c (.bool false))), none, 0⟩]) .ret) .skip)) x40_5)
def x40_7 : XCode := (.seq (.seq (.reg false [⟨(some 11), (.mv (.t 9)), none, 0⟩, ⟨(some 12), (.ia 6 (.t 7) (.t 9)), none, 0⟩, ⟨(some 13), (.ld (some 6) (.t 12)), none, 0⟩, ⟨(some 4), (.new 55 [(.int .i64 0), (.int .i64 0), (.bool false), (.int .i64 0), (.int .i64 0), (.int .i64 0)]), none, 0⟩, ⟨(some 3), (.mv (.t 11)), none, 0⟩, ⟨none, (.st 6 (.t 4) (.t 13)), none, 0⟩]) (.frz [4])) x40_6)
def x40_8 : XCode := (.block 0 (.loop [0, 7, 8, 9] (.seq (.reg false [⟨(some 10), (.bin .lss (.t 9) (.t 8)), none, 0⟩]) (.seq (.cond (.t 10) .skip (.exit 0)) (.seq (.block 1 x40_7) (.reg false [⟨(some 45), (.bin .add (.t 9) (.c (.int .i64 1))), none, 0⟩, ⟨(some 9), (.mv (.t 45)), none, 0⟩]))))))
def x40_9 : XCode := x40_8
def x40_10 : XCode := (.seq (.reg false [⟨(some 46), (.mv (.t 0)), none, 0⟩, ⟨(some 47), (.len (.t 46)), none, 0⟩, ⟨(some 48), (.bin .leq (.t 47) (.c (.int .i64 7))), none, 0⟩, ⟨(some 2), (.mv (.t 48)), none, 0⟩]) .ret)
def x40_11 : XCode := (.seq (.seq (.reg false [⟨(some 7), (.mv (.t 0)), none, 0⟩, ⟨(some 8), (.len (.t 7)), none, 0⟩, ⟨(some 9), (.mv (.c (.int .i64 0))), none, 0⟩]) x40_9) x40_10)
def x40 : XFn := ⟨(.seq (.reg false [⟨(some 2), (.mv (.c (.bool false))), none, 0⟩]) x40_11), 49, [(.t 2)]⟩
theorem ok40 : FnOk Try.prog T 40 x40 := ⟨Try.f40, [.loop [0, 7, 8, 9], .frz [], .frz [4], .loop [0, 4, 7, 8, 9, 19, 20, 21], .frz [], .frz [6]], Try.func40, by decide +kernel, by kernel_rfl⟩
/-- spec.l15Before -/
def x53_1 : XCode := (.seq (.reg false [⟨(some 8), (.fa 0 (.t 3)), none, 0⟩, ⟨(some 9), (.ld none (.t 8)), none, 0⟩, ⟨(some 10), (.fa 0 (.t 4)), none, 0⟩, ⟨(some 11), (.ld none (.t 10)), none, 0⟩, ⟨(some 12), (.bin .eql (.t 9) (.t 11)), none, 0⟩, ⟨(some 13), (.mv (.t 12)), none, 0⟩, ⟨(some 14), (.fa 4 (.t 3)), (some (13, true)), 0⟩, ⟨(some 15), (.ld none (.t 14)), (some (13, true)), 0⟩, ⟨(some 16), (.fa 4 (.t 4)), (some (13, true)), 0⟩, ⟨(some 17), (.ld none (.t 16)), (some (13, true)), 0⟩, ⟨(some 18), (.bin .lss (.t 15) (.t 17)), (some (13, true)), 0⟩, ⟨(some 19), (.pick (.t 13) (.t 18) (.c (.bool false))), none, 0⟩, ⟨(some 6), (.mv (.t 19)), none, 0⟩]) .ret)
def x53_2 : XCode := (.cond (.t 7) x53_1 .skip)
def x53_3 : XCode := (.seq (.reg false [⟨(some 20), (.fa 5 (.t 3)), none, 0⟩, ⟨(some 21), (.ld none (.t 20)), none, 0⟩, ⟨(some 22), (.fa 4 (.t 4)), none, 0⟩, ⟨(some 23), (.ld none (.t 22)), none, 0⟩, ⟨(some 24), (.bin .leq (.t 21) (.t 23)), none, 0⟩, ⟨(some 6), (.mv (.t 24)), none, 0⟩]) .ret)
def x53_4 : XCode := (.seq (.seq (.reg false [⟨(some 7), (.mv (.t 2)), none, 0⟩]) x53_2) x53_3)
def x53 : XFn := ⟨(.seq (.seq (.reg false [⟨(some 3), (.box 55 6 (.t 0)), none, 0⟩, ⟨(some 4), (.box 55 6 (.t 1)), none, 0⟩, ⟨(some 6), (.mv (.c (.bool false))), none, 0⟩]) (.frz [3, 4])) x53_4), 25, [(.t 6)]⟩
theorem ok53 : FnOk Try.prog T 53 x53 := ⟨Try.f53, [.frz [3, 4]], Try.func53, by decide +kernel, by kernel_rfl⟩
/-- spec.l15Legal -/
def x57_1 : XCode := (.reg false [⟨(some 22), (.mv (.t 5)), none, 0⟩, ⟨(some 23), (.fa 1 (.t 8)), none, 0⟩, ⟨(some 24), (.ld none (.t 23)), none, 0⟩, ⟨(some 25), (.fa 3 (.t 8)), none, 0⟩, ⟨(some 26), (.ld none (.t 25)), none, 0⟩, ⟨(some 27), (.ia 1 (.t 22) (.t 24)), none, 0⟩, ⟨none, (.st 1 (.t 27) (.t 26)), none, 0⟩])
def x57_2 : XCode := (.seq (.reg true [⟨(some 28), (.mv (.t 5)), none, 4⟩, ⟨(some 29), (.fa 1 (.t 8)), none, 4⟩, ⟨(some 30), (.ld none (.t 29)), none, 4⟩, ⟨(some 31), (.ia 1 (.t 28) (.t 30)), none, 4⟩, ⟨(some 32), (.ld none (.t 31)), none, 4⟩, ⟨(some 33), (.fa 3 (.t 8)), none, 4⟩, ⟨(some 34), (.ld none (.t 33)), none, 4⟩, ⟨(some 35), (.bin .neq (.t 32) (.t 34)), none, 4⟩]) (.cond (.t 35) (.seq (.reg false [⟨(some 4), (.mv (.c (.bool false))), none, 0⟩]) .ret) .skip))
def x57_3 : XCode := (.cond (.t 21) x57_1 x57_2)
def x57_4 : XCode := (.seq (.reg false [⟨(some 20), (.fa 2 (.t 8)), none, 0⟩, ⟨(some 21), (.ld none (.t 20)), none, 0⟩]) x57_3)
def x57_5 : XCode := (.seq (.seq (.reg false [⟨(some 16), (.mv (.t 0)), none, 0⟩, ⟨(some 17), (.mv (.t 7)), none, 0⟩, ⟨(some 18), (.ia 6 (.t 16) (.t 17)), none, 0⟩, ⟨(some 19), (.ld (some 6) (.t 18)), none, 0⟩, ⟨(some 8), (.new 55 [(.int .i64 0), (.int .i64 0), (.bool false), (.int .i64 0), (.int .i64 0), (.int .i64 0)]), none, 0⟩, ⟨none, (.st 6 (.t 8) (.t 19)), none, 0⟩]) (.frz [8])) x57_4)
def x57_6 : XCode := (.seq (.reg false [⟨(some 14), (.ia 1 (.t 10) (.t 12)), none, 0⟩, ⟨(some 15), (.ld none (.t 14)), none, 0⟩, ⟨(some 7), (.mv (.t 15)), none, 0⟩]) x57_5)
def x57_7 : XCode := (.block 0 (.loop [0, 5, 10, 11, 12] (.seq (.reg false [⟨(some 13), (.bin .lss (.t 12) (.t 11)), none, 0⟩]) (.seq (.cond (.t 13) .skip (.exit 0)) (.seq (.block 1 x57_6) (.reg false [⟨(some 36), (.bin .add (.t 12) (.c (.int .i64 1))), none, 0⟩, ⟨(some 12), (.mv (.t 36)), none, 0⟩]))))))
def x57_8 : XCode := x57_7
def x57_9 : XCode := (.seq (.seq (.reg false [⟨(some 10), (.mv (.t 1)), none, 0⟩, ⟨(some 11), (.len (.t 10)), none, 0⟩, ⟨(some 12), (.mv (.c (.int .i64 0))), none, 0⟩]) x57_8) (.seq (.reg false [⟨(some 4), (.mv (.c (.bool true))), none, 0⟩]) .ret))
def x57_10 : XCode := (.seq (.reg false [⟨(some 9), (.mkS 3 1 8 [(.int .i64 0)] (.c (.int .i64 3)) (.c (.int .i64 3))), none, 0⟩, ⟨(some 5), (.mv (.t 9)), none, 0⟩]) x57_9)
def x57 : XFn := ⟨(.seq (.reg false [⟨(some 4), (.mv (.c (.bool false))), none, 0⟩]) x57_10), 37, [(.t 4)]⟩
theorem ok57 : FnOk Try.prog T 57 x57 := ⟨Try.f57, [.loop [0, 5, 10, 11, 12], .frz [], .frz [], .frz [8], .draw [0, 1, 2, 3, 4, 5, 6, 7] [4, 4, 4, 4, 4, 4, 4, 4]], Try.func57, by decide +kernel, by kernel_rfl⟩
/-- spec.l1Has -/
def x66_1 : XCode := (.seq (.reg false [⟨(some 13), (.mv (.t 6)), none, 0⟩, ⟨(some 14), (.mv (.t 1)), none, 0⟩, ⟨(some 15), (.bin .eql (.t 13) (.t 14)), none, 0⟩]) (.cond (.t 15) (.seq (.reg false [⟨(some 4), (.mv (.c (.bool true))), none, 0⟩]) .ret) .skip))
def x66_2 : XCode := (.seq (.reg false [⟨(some 11), (.ia 1 (.t 7) (.t 9)), none, 0⟩, ⟨(some 12), (.ld none (.t 11)), none, 0⟩, ⟨(some 6), (.mv (.t 12)), none, 0⟩]) x66_1)
def x66_3 : XCode := (.block 0 (.loop [1, 7, 8, 9] (.seq (.reg false [⟨(some 10), (.bin .lss (.t 9) (.t 8)), none, 0⟩]) (.seq (.cond (.t 10) .skip (.exit 0)) (.seq (.block 1 x66_2) (.reg false [⟨(some 16), (.bin .add (.t 9) (.c (.int .i64 1))), none, 0⟩, ⟨(some 9), (.mv (.t 16)), none, 0⟩]))))))
def x66_4 : XCode := x66_3
def x66_5 : XCode := (.seq (.seq (.reg false [⟨(some 7), (.mv (.t 0)), none, 0⟩, ⟨(some 8), (.len (.t 7)), none, 0⟩, ⟨(some 9), (.mv (.c (.int .i64 0))), none, 0⟩]) x66_4) (.seq (.reg false [⟨(some 4), (.mv (.c (.bool false))), none, 0⟩]) .ret))
def x66 : XFn := ⟨(.seq (.reg false [⟨(some 4), (.mv (.c (.bool false))), none, 0⟩]) x66_5), 17, [(.t 4)]⟩
theorem ok66 : FnOk Try.prog T 66 x66 := ⟨Try.f66, [.loop [1, 7, 8, 9]], Try.func66, by decide +kernel, by kernel_rfl⟩
/-- spec.l15Find -/
def x48_1 : XCode := (.cond (.t 21) (.seq (.reg false [⟨(some 22), (.mv (.t 1)), none, 0⟩, ⟨(some 6), (.mv (.t 22)), none, 0⟩]) .ret) .skip)
def x48_2 : XCode := (.seq (.reg false [⟨(some 41), (.mv (.t 10)), none, 0⟩, ⟨(some 42), (.mv (.t 7)), none, 0⟩, ⟨(some 43), (.bin .neq (.t 41) (.t 42)), none, 0⟩, ⟨(some 44), (.mv (.t 43)), none, 0⟩, ⟨(some 45), (.mv (.t 1)), (some (44, true)), 0⟩, ⟨(some 46), (.mv (.t 10)), (some (44, true)), 0⟩, ⟨(some 47), (.call (.c (.fn 66 [])) [(.t 45), (.t 46)]), (some (44, true)), 0⟩, ⟨(some 48), (.un .not (.t 47)), (some (44, true)), 0⟩, ⟨(some 49), (.pick (.t 44) (.t 48) (.c (.bool false))), none, 0⟩, ⟨(some 50), (.mv (.t 49)), none, 0⟩, ⟨(some 51), (.ld (some 6) (.t 11)), (some (50, true)), 0⟩, ⟨(some 52), (.ld (some 6) (.t 8)), (some (50, true)), 0⟩, ⟨(some 53), (.mv (.t 2)), (some (50, true)), 0⟩, ⟨(some 54), (.call (.c (.fn 53 [])) [(.t 51), (.t 52), (.t 53)]), (some (50, true)), 0⟩, ⟨(some 55), (.pick (.t 50) (.t 54) (.c (.bool false))), none, 0⟩]) (.cond (.t 55) (.reg false [⟨(some 9), (.mv (.c (.bool false))), none, 0⟩]) .skip))
def x48_3 : XCode := (.seq (.seq (.reg false [⟨(some 38), (.mv (.t 36)), none, 0⟩, ⟨(some 39), (.ia 6 (.t 34) (.t 36)), none, 0⟩, ⟨(some 40), (.ld (some 6) (.t 39)), none, 0⟩, ⟨(some 11), (.new 55 [(.int .i64 0), (.int .i64 0), (.bool false), (.int .i64 0), (.int .i64 0), (.int .i64 0)]), none, 0⟩, ⟨(some 10), (.mv (.t 38)), none, 0⟩, ⟨none, (.st 6 (.t 11) (.t 40)), none, 0⟩]) (.frz [11])) x48_2)
def x48_4 : XCode := (.block 2 (.loop [0, 1, 2, 7, 8, 9, 23, 24, 25, 34, 35, 36] (.seq (.reg false [⟨(some 37), (.bin .lss (.t 36) (.t 35)), none, 0⟩]) (.seq (.cond (.t 37) .skip (.exit 2)) (.seq (.block 3 x48_3) (.reg false [⟨(some 56), (.bin .add (.t 36) (.c (.int .i64 1))), none, 0⟩, ⟨(some 36), (.mv (.t 56)), none, 0⟩]))))))
def x48_5 : XCode := x48_4
def x48_6 : XCode := (.cond (.t 70) (.seq (.reg false [⟨(some 71), (.mv (.t 12)), none, 0⟩, ⟨(some 6), (.mv (.t 71)), none, 0⟩]) .ret) .skip)
def x48_7 : XCode := (.seq (.reg false [⟨(some 68), (.mv (.t 12)), none, 0⟩, ⟨(some 69), (.len (.t 68)), none, 0⟩, ⟨(some 70), (.bin .gtr (.t 69) (.c (.int .i64 0))), none, 0⟩]) x48_6)
def x48_8 : XCode := (.seq (.reg false [⟨(some 59), (.mv (.t 0)), none, 0⟩, ⟨(some 60), (.buildS 3 0 [] []), none, 0⟩, ⟨(some 61), (.mv (.t 1)), none, 0⟩, ⟨(some 62), (.app 3 1 8 (.t 60) (.t 61)), none, 0⟩, ⟨(some 63), (.mv (.t 7)), none, 0⟩, ⟨(some 64), (.buildS 3 1 [(.int .i64 0)] [(0, (1, (.t 63)))]), none, 0⟩, ⟨(some 65), (.app 3 1 8 (.t 62) (.t 64)), none, 0⟩, ⟨(some 66), (.mv (.t 2)), none, 0⟩, ⟨(some 67), (.call (.c (.fn 48 [])) [(.t 59), (.t 65), (.t 66)]), none, 0⟩, ⟨(some 12), (.mv (.t 67)), none, 0⟩]) x48_7)
def x48_9 : XCode := (.seq (.seq (.reg false [⟨(some 57), (.mv (.t 9)), none, 0⟩, ⟨(some 58), (.un .not (.t 57)), none, 0⟩]) (.cond (.t 58) (.exit 1) .skip)) x48_8)
def x48_10 : XCode := (.seq (.seq (.reg false [⟨(some 34), (.mv (.t 0)), none, 0⟩, ⟨(some 35), (.len (.t 34)), none, 0⟩, ⟨(some 36), (.mv (.c (.int .i64 0))), none, 0⟩]) x48_5) x48_9)
def x48_11 : XCode := (.seq (.reg false [⟨(some 30), (.mv (.t 1)), none, 0⟩, ⟨(some 31), (.mv (.t 7)), none, 0⟩, ⟨(some 32), (.call (.c (.fn 66 [])) [(.t 30), (.t 31)]), none, 0⟩, ⟨(some 33), (.un .not (.t 32)), none, 0⟩, ⟨(some 9), (.mv (.t 33)), none, 0⟩]) x48_10)
def x48_12 : XCode := (.seq (.seq (.reg false [⟨(some 27), (.mv (.t 25)), none, 0⟩, ⟨(some 28), (.ia 6 (.t 23) (.t 25)), none, 0⟩, ⟨(some 29), (.ld (some 6) (.t 28)), none, 0⟩, ⟨(some 8), (.new 55 [(.int .i64 0), (.int .i64 0), (.bool false), (.int .i64 0), (.int .i64 0), (.int .i64 0)]), none, 0⟩, ⟨(some 7), (.mv (.t 27)), none, 0⟩, ⟨none, (.st 6 (.t 8) (.t 29)), none, 0⟩]) (.frz [8])) x48_11)
def x48_13 : XCode := (.block 0 (.loop [0, 1, 2, 23, 24, 25] (.seq (.reg false [⟨(some 26), (.bin .lss (.t 25) (.t 24)), none, 0⟩]) (.seq (.cond (.t 26) .skip (.exit 0)) (.seq (.block 1 x48_12) (.reg false [⟨(some 72), (.bin .add (.t 25) (.c (.int .i64 1))), none, 0⟩, ⟨(some 25), (.mv (.t 72)), none, 0⟩]))))))
def x48_14 : XCode := x48_13
def x48_15 : XCode := (.seq (.seq (.reg false [⟨(some 23), (.mv (.t 0)), none, 0⟩, ⟨(some 24), (.len (.t 23)), none, 0⟩, ⟨(some 25), (.mv (.c (.int .i64 0))), none, 0⟩]) x48_14) (.seq (.reg false [⟨(some 6), (.mv (.c .nil)), none, 0⟩]) .ret))
def x48_16 : XCode := (.seq (.seq (.reg false [⟨(some 17), (.mv (.t 1)), none, 0⟩, ⟨(some 18), (.len (.t 17)), none, 0⟩, ⟨(some 19), (.mv (.t 0)), none, 0⟩, ⟨(some 20), (.len (.t 19)), none, 0⟩, ⟨(some 21), (.bin .eql (.t 18) (.t 20)), none, 0⟩]) x48_1) x48_15)
def x48_17 : XCode := (.seq (.seq (.reg false [⟨(some 13), (.mv (.t 0)), none, 0⟩, ⟨(some 14), (.mv (.t 1)), none, 0⟩, ⟨(some 15), (.call (.c (.fn 57 [])) [(.t 13), (.t 14)]), none, 0⟩, ⟨(some 16), (.un .not (.t 15)), none, 0⟩]) (.cond (.t 16) (.seq (.reg false [⟨(some 6), (.mv (.c .nil)), none, 0⟩]) .ret) .skip)) x48_16)
def x48 : XFn := ⟨(.seq (.reg false [⟨(some 6), (.mv (.c .nil)), none, 0⟩]) x48_17), 73, [(.t 6)]⟩
theorem ok48 : FnOk Try.prog T 48 x48 := ⟨Try.f48, [.loop [0, 1, 2, 23, 24, 25], .frz [], .frz [8], .loop [0, 1, 2, 7, 8, 9, 23, 24, 25, 34, 35, 36], .frz [], .frz [11]], Try.func48, by decide +kernel, by kernel_rfl⟩
/-- spec.IsSequential -/
def x18_1 : XCode := (.cond (.t 6) (.seq (.reg false [⟨(some 2), (.mv (.c (.bool false))), none, 0⟩, ⟨(some 3), (.mv (.c (.bool false))), none, 0⟩]) .ret) .skip)
def x18_2 : XCode := (.seq (.reg false [⟨(some 7), (.mv (.t 0)), none, 0⟩, ⟨(some 8), (.call (.c (.fn 48 [])) [(.t 7), (.c .nil), (.c (.bool true))]), none, 0⟩, ⟨(some 9), (.len (.t 8)), none, 0⟩, ⟨(some 10), (.mv (.t 0)), none, 0⟩, ⟨(some 11), (.len (.t 10)), none, 0⟩, ⟨(some 12), (.bin .eql (.t 9) (.t 11)), none, 0⟩, ⟨(some 2), (.mv (.t 12)), none, 0⟩, ⟨(some 3), (.mv (.c (.bool true))), none, 0⟩]) .ret)
def x18_3 : XCode := (.seq (.seq (.reg false [⟨(some 4), (.mv (.t 0)), none, 0⟩, ⟨(some 5), (.call (.c (.fn 40 [])) [(.t 4)]), none, 0⟩, ⟨(some 6), (.un .not (.t 5)), none, 0⟩]) x18_1) x18_2)
def x18 : XFn := ⟨(.seq (.reg false [⟨(some 2), (.mv (.c (.bool false))), none, 0⟩, ⟨(some 3), (.mv (.c (.bool false))), none, 0⟩]) x18_3), 13, [(.t 2), (.t 3)]⟩
theorem ok18 : FnOk Try.prog T 18 x18 := ⟨Try.f18, [], Try.func18, by decide +kernel, by kernel_rfl⟩
/-- impl.inOrder -/
def x55_1 : XCode := (.seq (.reg false [⟨(some 24), (.mv (.t 1)), none, 0⟩, ⟨(some 25), (.mv (.t 8)), none, 0⟩, ⟨(some 26), (.mv (.t 6)), none, 0⟩, ⟨(some 27), (.call (.t 24) [(.t 25), (.t 26)]), none, 0⟩, ⟨(some 28), (.un .not (.t 27)), none, 0⟩]) (.cond (.t 28) (.seq (.reg false [⟨(some 4), (.mv (.c (.bool false))), none, 0⟩]) .ret) .skip))
def x55_2 : XCode := (.seq (.reg false [⟨(some 22), (.ia 1 (.t 18) (.t 20)), none, 0⟩, ⟨(some 23), (.ld none (.t 22)), none, 0⟩, ⟨(some 8), (.mv (.t 23)), none, 0⟩]) x55_1)
def x55_3 : XCode := (.block 2 (.loop [0, 1, 6, 9, 10, 11, 18, 19, 20] (.seq (.reg false [⟨(some 21), (.bin .lss (.t 20) (.t 19)), none, 0⟩]) (.seq (.cond (.t 21) .skip (.exit 2)) (.seq (.block 3 x55_2) (.reg false [⟨(some 29), (.bin .add (.t 20) (.c (.int .i64 1))), none, 0⟩, ⟨(some 20), (.mv (.t 29)), none, 0⟩]))))))
def x55_4 : XCode := x55_3
def x55_5 : XCode := (.seq (.reg false [⟨(some 16), (.mv (.t 0)), none, 0⟩, ⟨(some 17), (.mv (.t 5)), none, 0⟩, ⟨(some 18), (.slc 3 1 (.t 16) none (some (.t 17)) none), none, 0⟩, ⟨(some 19), (.len (.t 18)), none, 0⟩, ⟨(some 20), (.mv (.c (.int .i64 0))), none, 0⟩]) x55_4)
def x55_6 : XCode := (.seq (.reg false [⟨(some 13), (.mv (.t 11)), none, 0⟩, ⟨(some 14), (.ia 1 (.t 9) (.t 11)), none, 0⟩, ⟨(some 15), (.ld none (.t 14)), none, 0⟩, ⟨(some 5), (.mv (.t 13)), none, 0⟩, ⟨(some 6), (.mv (.t 15)), none, 0⟩]) x55_5)
def x55_7 : XCode := (.block 0 (.loop [0, 1, 9, 10, 11] (.seq (.reg false [⟨(some 12), (.bin .lss (.t 11) (.t 10)), none, 0⟩]) (.seq (.cond (.t 12) .skip (.exit 0)) (.seq (.block 1 x55_6) (.reg false [⟨(some 30), (.bin .add (.t 11) (.c (.int .i64 1))), none, 0⟩, ⟨(some 11), (.mv (.t 30)), none, 0⟩]))))))
def x55_8 : XCode := x55_7
def x55_9 : XCode := (.seq (.seq (.reg false [⟨(some 9), (.mv (.t 0)), none, 0⟩, ⟨(some 10), (.len (.t 9)), none, 0⟩, ⟨(some 11), (.mv (.c (.int .i64 0))), none, 0⟩]) x55_8) (.seq (.reg false [⟨(some 4), (.mv (.c (.bool true))), none, 0⟩]) .ret))
def x55 : XFn := ⟨(.seq (.reg false [⟨(some 4), (.mv (.c (.bool false))), none, 0⟩]) x55_9), 31, [(.t 4)]⟩
theorem ok55 : FnOk Try.prog T 55 x55 := ⟨Try.f55, [.loop [0, 1, 9, 10, 11], .loop [0, 1, 6, 9, 10, 11, 18, 19, 20]], Try.func55, by decide +kernel, by kernel_rfl⟩
/-- impl.isLegal -/
def x58_1 : XCode := (.reg false [⟨(some 22), (.fa 1 (.t 8)), none, 0⟩, ⟨(some 23), (.ld none (.t 22)), none, 0⟩, ⟨(some 24), (.fa 3 (.t 8)), none, 0⟩, ⟨(some 25), (.ld none (.t 24)), none, 0⟩, ⟨(some 26), (.iaA 3 1 (.t 5) (.t 23)), none, 0⟩, ⟨none, (.st 1 (.t 26) (.t 25)), none, 0⟩])
def x58_2 : XCode := (.seq (.reg true [⟨(some 27), (.fa 1 (.t 8)), none, 4⟩, ⟨(some 28), (.ld none (.t 27)), none, 4⟩, ⟨(some 29), (.iaA 3 1 (.t 5) (.t 28)), none, 4⟩, ⟨(some 30), (.ld none (.t 29)), none, 4⟩, ⟨(some 31), (.fa 3 (.t 8)), none, 4⟩, ⟨(some 32), (.ld none (.t 31)), none, 4⟩, ⟨(some 33), (.bin .neq (.t 30) (.t 32)), none, 4⟩]) (.cond (.t 33) (.seq (.reg false [⟨(some 4), (.mv (.c (.bool false))), none, 0⟩]) .ret) .skip))
def x58_3 : XCode := (.cond (.t 21) x58_1 x58_2)
def x58_4 : XCode := (.seq (.reg false [⟨(some 20), (.fa 2 (.t 8)), none, 0⟩, ⟨(some 21), (.ld none (.t 20)), none, 0⟩]) x58_3)
def x58_5 : XCode := (.seq (.seq (.reg false [⟨(some 16), (.mv (.t 0)), none, 0⟩, ⟨(some 17), (.mv (.t 7)), none, 0⟩, ⟨(some 18), (.ia 6 (.t 16) (.t 17)), none, 0⟩, ⟨(some 19), (.ld (some 6) (.t 18)), none, 0⟩, ⟨(some 8), (.new 55 [(.int .i64 0), (.int .i64 0), (.bool false), (.int .i64 0), (.int .i64 0), (.int .i64 0)]), none, 0⟩, ⟨none, (.st 6 (.t 8) (.t 19)), none, 0⟩]) (.frz [8])) x58_4)
def x58_6 : XCode := (.seq (.reg false [⟨(some 14), (.ia 1 (.t 10) (.t 12)), none, 0⟩, ⟨(some 15), (.ld none (.t 14)), none, 0⟩, ⟨(some 7), (.mv (.t 15)), none, 0⟩]) x58_5)
def x58_7 : XCode := (.block 0 (.loop [0, 5, 10, 11, 12] (.seq (.reg false [⟨(some 13), (.bin .lss (.t 12) (.t 11)), none, 0⟩]) (.seq (.cond (.t 13) .skip (.exit 0)) (.seq (.block 1 x58_6) (.reg false [⟨(some 34), (.bin .add (.t 12) (.c (.int .i64 1))), none, 0⟩, ⟨(some 12), (.mv (.t 34)), none, 0⟩]))))))
def x58_8 : XCode := x58_7
def x58_9 : XCode := (.seq (.seq (.reg false [⟨(some 10), (.mv (.t 1)), none, 0⟩, ⟨(some 11), (.len (.t 10)), none, 0⟩, ⟨(some 12), (.mv (.c (.int .i64 0))), none, 0⟩]) x58_8) (.seq (.reg false [⟨(some 4), (.mv (.c (.bool true))), none, 0⟩]) .ret))
def x58_10 : XCode := (.seq (.reg false [⟨(some 9), (.build [(.int .i64 0), (.int .i64 0), (.int .i64 0)] []), none, 0⟩, ⟨(some 5), (.new 81 [(.int .i64 0), (.int .i64 0), (.int .i64 0)]), none, 0⟩, ⟨none, (.st 3 (.t 5) (.t 9)), none, 0⟩]) x58_9)
def x58 : XFn := ⟨(.seq (.reg false [⟨(some 4), (.mv (.c (.bool false))), none, 0⟩]) x58_10), 35, [(.t 4)]⟩
theorem ok58 : FnOk Try.prog T 58 x58 := ⟨Try.f58, [.loop [0, 5, 10, 11, 12], .frz [], .frz [], .frz [8], .draw [0, 1, 2, 3, 4, 5, 6] [4, 4, 4, 4, 4, 4, 4]], Try.func58, by decide +kernel, by kernel_rfl⟩
/-- slices.Index[[]int,int] -/
def x74_1 : XCode := (.cond (.t 16) (.seq (.reg false [⟨(some 17), (.mv (.t 5)), none, 0⟩, ⟨(some 4), (.mv (.t 17)), none, 0⟩]) .ret) .skip)
def x74_2 : XCode := (.seq (.reg false [⟨(some 11), (.mv (.t 1)), none, 0⟩, ⟨(some 12), (.mv (.t 0)), none, 0⟩, ⟨(some 13), (.mv (.t 5)), none, 0⟩, ⟨(some 14), (.ia 1 (.t 12) (.t 13)), none, 0⟩, ⟨(some 15), (.ld none (.t 14)), none, 0⟩, ⟨(some 16), (.bin .eql (.t 11) (.t 15)), none, 0⟩]) x74_1)
def x74_3 : XCode := (.seq (.reg false [⟨(some 10), (.mv (.t 8)), none, 0⟩, ⟨(some 5), (.mv (.t 10)), none, 0⟩]) x74_2)
def x74_4 : XCode := (.block 0 (.loop [0, 1, 7, 8] (.seq (.reg false [⟨(some 9), (.bin .lss (.t 8) (.t 7)), none, 0⟩]) (.seq (.cond (.t 9) .skip (.exit 0)) (.seq (.block 1 x74_3) (.reg false [⟨(some 18), (.bin .add (.t 8) (.c (.int .i64 1))), none, 0⟩, ⟨(some 8), (.mv (.t 18)), none, 0⟩]))))))
def x74_5 : XCode := x74_4
def x74_6 : XCode := (.seq (.seq (.reg false [⟨(some 6), (.mv (.t 0)), none, 0⟩, ⟨(some 7), (.len (.t 6)), none, 0⟩, ⟨(some 8), (.mv (.c (.int .i64 0))), none, 0⟩]) x74_5) (.seq (.reg false [⟨(some 4), (.mv (.c (.int .i64 (-1)))), none, 0⟩]) .ret))
def x74 : XFn := ⟨(.seq (.reg false [⟨(some 4), (.mv (.c (.int .i64 0))), none, 0⟩]) x74_6), 19, [(.t 4)]⟩
theorem ok74 : FnOk Try.prog T 74 x74 := ⟨Try.f74, [.loop [0, 1, 7, 8]], Try.func74, by decide +kernel, by kernel_rfl⟩
/-- slices.Contains[[]int,int] -/
def x68_1 : XCode := (.seq (.reg false [⟨(some 5), (.mv (.t 0)), none, 0⟩, ⟨(some 6), (.mv (.t 1)), none, 0⟩, ⟨(some 7), (.call (.c (.fn 74 [])) [(.t 5), (.t 6)]), none, 0⟩, ⟨(some 8), (.bin .geq (.t 7) (.c (.int .i64 0))), none, 0⟩, ⟨(some 4), (.mv (.t 8)), none, 0⟩]) .ret)
def x68 : XFn := ⟨(.seq (.reg false [⟨(some 4), (.mv (.c (.bool false))), none, 0⟩]) x68_1), 9, [(.t 4)]⟩
theorem ok68 : FnOk Try.prog T 68 x68 := ⟨Try.f68, [], Try.func68, by decide +kernel, by kernel_rfl⟩
/-- impl.orderFor$1 -/
def x67_1 : XCode := (.cond (.t 15) (.seq (.reg false [⟨(some 16), (.mv (.t 0)), none, 0⟩, ⟨(some 5), (.mv (.t 16)), none, 0⟩, ⟨(some 6), (.mv (.c (.bool true))), none, 0⟩]) .ret) .skip)
def x67_2 : XCode := (.cond (.t 49) (.seq (.reg false [⟨(some 50), (.mv (.t 9)), none, 0⟩, ⟨(some 5), (.mv (.t 50)), none, 0⟩, ⟨(some 6), (.mv (.c (.bool true))), none, 0⟩]) .ret) .skip)
def x67_3 : XCode := (.seq (.reg false [⟨(some 49), (.mv (.t 10)), none, 0⟩]) x67_2)
def x67_4 : XCode := (.seq (.reg false [⟨(some 44), (.ld none (.t 3)), none, 0⟩, ⟨(some 45), (.mv (.t 8)), none, 0⟩, ⟨(some 46), (.call (.t 44) [(.t 45)]), none, 0⟩, ⟨(some 43), (.mv (.t 46)), none, 0⟩, ⟨(some 47), (.ext (.t 43) 0), none, 0⟩, ⟨(some 48), (.ext (.t 43) 1), none, 0⟩, ⟨(some 9), (.mv (.t 47)), none, 0⟩, ⟨(some 10), (.mv (.t 48)), none, 0⟩]) x67_3)
def x67_5 : XCode := (.seq (.seq (.reg false [⟨(some 28), (.mv (.t 0)), none, 0⟩, ⟨(some 29), (.mv (.t 7)), none, 0⟩, ⟨(some 30), (.call (.c (.fn 68 [])) [(.t 28), (.t 29)]), none, 0⟩, ⟨(some 31), (.mv (.t 30)), none, 0⟩, ⟨(some 32), (.ld none (.t 1)), (some (31, false)), 0⟩, ⟨(some 33), (.mv (.t 8)), (some (31, false)), 0⟩, ⟨(some 34), (.call (.c (.fn 58 [])) [(.t 32), (.t 33)]), (some (31, false)), 0⟩, ⟨(some 35), (.un .not (.t 34)), (some (31, false)), 0⟩, ⟨(some 36), (.pick (.t 31) (.c (.bool true)) (.t 35)), none, 0⟩, ⟨(some 37), (.mv (.t 36)), none, 0⟩, ⟨(some 38), (.mv (.t 8)), (some (37, false)), 0⟩, ⟨(some 39), (.ld none (.t 2)), (some (37, false)), 0⟩, ⟨(some 40), (.call (.c (.fn 55 [])) [(.t 38), (.t 39)]), (some (37, false)), 0⟩, ⟨(some 41), (.un .not (.t 40)), (some (37, false)), 0⟩, ⟨(some 42), (.pick (.t 37) (.c (.bool true)) (.t 41)), none, 0⟩]) (.cond (.t 42) (.exit 1) .skip)) x67_4)
def x67_6 : XCode := (.seq (.reg false [⟨(some 22), (.buildS 3 0 [] []), none, 0⟩, ⟨(some 23), (.mv (.t 0)), none, 0⟩, ⟨(some 24), (.app 3 1 8 (.t 22) (.t 23)), none, 0⟩, ⟨(some 25), (.mv (.t 7)), none, 0⟩, ⟨(some 26), (.buildS 3 1 [(.int .i64 0)] [(0, (1, (.t 25)))]), none, 0⟩, ⟨(some 27), (.app 3 1 8 (.t 24) (.t 26)), none, 0⟩, ⟨(some 8), (.mv (.t 27)), none, 0⟩]) x67_5)
def x67_7 : XCode := (.seq (.reg false [⟨(some 21), (.mv (.t 19)), none, 0⟩, ⟨(some 7), (.mv (.t 21)), none, 0⟩]) x67_6)
def x67_8 : XCode := (.block 0 (.loop [0, 1, 2, 3, 18, 19] (.seq (.reg false [⟨(some 20), (.bin .lss (.t 19) (.t 18)), none, 0⟩]) (.seq (.cond (.t 20) .skip (.exit 0)) (.seq (.block 1 x67_7) (.reg false [⟨(some 51), (.bin .add (.t 19) (.c (.int .i64 1))), none, 0⟩, ⟨(some 19), (.mv (.t 51)), none, 0⟩]))))))
def x67_9 : XCode := x67_8
def x67_10 : XCode := (.seq (.seq (.reg false [⟨(some 17), (.ld none (.t 1)), none, 0⟩, ⟨(some 18), (.len (.t 17)), none, 0⟩, ⟨(some 19), (.mv (.c (.int .i64 0))), none, 0⟩]) x67_9) (.seq (.reg false [⟨(some 5), (.mv (.c .nil)), none, 0⟩, ⟨(some 6), (.mv (.c (.bool false))), none, 0⟩]) .ret))
def x67_11 : XCode := (.seq (.seq (.reg false [⟨(some 11), (.mv (.t 0)), none, 0⟩, ⟨(some 12), (.len (.t 11)), none, 0⟩, ⟨(some 13), (.ld none (.t 1)), none, 0⟩, ⟨(some 14), (.len (.t 13)), none, 0⟩, ⟨(some 15), (.bin .eql (.t 12) (.t 14)), none, 0⟩]) x67_1) x67_10)
def x67 : XFn := ⟨(.seq (.reg false [⟨(some 5), (.mv (.c .nil)), none, 0⟩, ⟨(some 6), (.mv (.c (.bool false))), none, 0⟩]) x67_11), 52, [(.t 5), (.t 6)]⟩
theorem ok67 : FnOk Try.prog T 67 x67 := ⟨Try.f67, [.loop [0, 1, 2, 3, 18, 19]], Try.func67, by decide +kernel, by kernel_rfl⟩
/-- impl.orderFor -/
def x49_1 : XCode := (.seq (.reg false [⟨(some 8), (.ld none (.t 6)), none, 0⟩, ⟨(some 9), (.buildS 3 0 [] []), none, 0⟩, ⟨(some 10), (.call (.t 8) [(.t 9)]), none, 0⟩, ⟨(some 11), (.ext (.t 10) 0), none, 0⟩, ⟨(some 12), (.ext (.t 10) 1), none, 0⟩, ⟨(some 4), (.mv (.t 11)), none, 0⟩, ⟨(some 5), (.mv (.t 12)), none, 0⟩]) .ret)
def x49_2 : XCode := (.seq (.reg false [⟨(some 7), (.mkF 67 [(.t 2), (.t 3), (.t 6)]), none, 0⟩, ⟨none, (.st 1 (.t 6) (.t 7)), none, 0⟩]) x49_1)
def x49_3 : XCode := (.seq (.reg false [⟨(some 6), (.new 79 [.nilfn]), none, 0⟩]) x49_2)
def x49 : XFn := ⟨(.seq (.seq (.reg false [⟨(some 2), (.box 24 1 (.t 0)), none, 0⟩, ⟨(some 3), (.box 63 1 (.t 1)), none, 0⟩, ⟨(some 4), (.mv (.c .nil)), none, 0⟩, ⟨(some 5), (.mv (.c (.bool false))), none, 0⟩]) (.frz [2, 3])) x49_3), 13, [(.t 4), (.t 5)]⟩
theorem ok49 : FnOk Try.prog T 49 x49 := ⟨Try.f49, [.frz [2, 3]], Try.func49, by decide +kernel, by kernel_rfl⟩
/-- impl.IsSequential$1 -/
def x50_1 : XCode := (.seq (.reg true [⟨(some 6), (.ld none (.t 2)), none, 4⟩, ⟨(some 7), (.mv (.t 0)), none, 4⟩, ⟨(some 8), (.ia 6 (.t 6) (.t 7)), none, 4⟩, ⟨(some 9), (.fa 0 (.t 8)), none, 4⟩, ⟨(some 10), (.ld none (.t 9)), none, 4⟩, ⟨(some 11), (.ld none (.t 2)), none, 4⟩, ⟨(some 12), (.mv (.t 1)), none, 4⟩, ⟨(some 13), (.ia 6 (.t 11) (.t 12)), none, 4⟩, ⟨(some 14), (.fa 0 (.t 13)), none, 4⟩, ⟨(some 15), (.ld none (.t 14)), none, 4⟩, ⟨(some 16), (.bin .neq (.t 10) (.t 15)), none, 4⟩, ⟨(some 17), (.mv (.t 16)), none, 4⟩, ⟨(some 18), (.ld none (.t 2)), (some (17, false)), 4⟩, ⟨(some 19), (.mv (.t 0)), (some (17, false)), 4⟩, ⟨(some 20), (.ia 6 (.t 18) (.t 19)), (some (17, false)), 4⟩, ⟨(some 21), (.fa 4 (.t 20)), (some (17, false)), 4⟩, ⟨(some 22), (.ld none (.t 21)), (some (17, false)), 4⟩, ⟨(some 23), (.ld none (.t 2)), (some (17, false)), 4⟩, ⟨(some 24), (.mv (.t 1)), (some (17, false)), 4⟩, ⟨(some 25), (.ia 6 (.t 23) (.t 24)), (some (17, false)), 4⟩, ⟨(some 26), (.fa 4 (.t 25)), (some (17, false)), 4⟩, ⟨(some 27), (.ld none (.t 26)), (some (17, false)), 4⟩, ⟨(some 28), (.bin .lss (.t 22) (.t 27)), (some (17, false)), 4⟩, ⟨(some 29), (.pick (.t 17) (.c (.bool true)) (.t 28)), none, 4⟩, ⟨(some 5), (.mv (.t 29)), none, 4⟩]) .ret)
def x50 : XFn := ⟨(.seq (.reg false [⟨(some 5), (.mv (.c (.bool false))), none, 0⟩]) x50_1), 30, [(.t 5)]⟩
theorem ok50 : FnOk Try.prog T 50 x50 := ⟨Try.f50, [.draw [0, 1, 2, 3, 4, 5, 6, 7, 8, 9, 10, 11, 12, 13, 14, 15, 16, 17, 18, 19, 20, 21, 22, 23, 24] [4, 4, 4, 4, 4, 4, 4, 4, 4, 4, 4, 4, 4, 4, 4, 4, 4, 4, 4, 4, 4, 4, 4, 4, 4]], Try.func50, by decide +kernel, by kernel_rfl⟩
/-- impl.IsSequential -/
def x19_1 : XCode := (.cond (.t 8) (.seq (.reg false [⟨(some 2), (.mv (.c (.bool false))), none, 0⟩, ⟨(some 3), (.mv (.c (.bool false))), none, 0⟩]) .ret) .skip)
def x19_2 : XCode := (.seq (.reg false [⟨(some 10), (.ld none (.t 1)), none, 0⟩, ⟨(some 11), (.mkF 50 [(.t 1)]), none, 0⟩, ⟨(some 12), (.call (.c (.fn 49 [])) [(.t 10), (.t 11)]), none, 0⟩, ⟨(some 9), (.mv (.t 12)), none, 0⟩, ⟨(some 13), (.ext (.t 9) 0), none, 0⟩, ⟨(some 14), (.ext (.t 9) 1), none, 0⟩, ⟨(some 4), (.mv (.t 13)), none, 0⟩, ⟨(some 5), (.mv (.t 14)), none, 0⟩]) (.seq (.reg false [⟨(some 15), (.mv (.t 5)), none, 0⟩, ⟨(some 2), (.mv (.t 15)), none, 0⟩, ⟨(some 3), (.mv (.c (.bool true))), none, 0⟩]) .ret))
def x19_3 : XCode := (.seq (.seq (.reg false [⟨(some 6), (.ld none (.t 1)), none, 0⟩, ⟨(some 7), (.call (.c (.fn 43 [])) [(.t 6)]), none, 0⟩, ⟨(some 8), (.un .not (.t 7)), none, 0⟩]) x19_1) x19_2)
def x19 : XFn := ⟨(.seq (.seq (.reg false [⟨(some 1), (.box 24 1 (.t 0)), none, 0⟩, ⟨(some 2), (.mv (.c (.bool false))), none, 0⟩, ⟨(some 3), (.mv (.c (.bool false))), none, 0⟩]) (.frz [1])) x19_3), 16, [(.t 2), (.t 3)]⟩
theorem ok19 : FnOk Try.prog T 19 x19 := ⟨Try.f19, [.frz [1]], Try.func19, by decide +kernel, by kernel_rfl⟩
/-- spec.IsLinear -/
def x20_1 : XCode := (.cond (.t 6) (.seq (.reg false [⟨(some 2), (.mv (.c (.bool false))), none, 0⟩, ⟨(some 3), (.mv (.c (.bool false))), none, 0⟩]) .ret) .skip)
def x20_2 : XCode := (.seq (.reg false [⟨(some 7), (.mv (.t 0)), none, 0⟩, ⟨(some 8), (.call (.c (.fn 48 [])) [(.t 7), (.c .nil), (.c (.bool false))]), none, 0⟩, ⟨(some 9), (.len (.t 8)), none, 0⟩, ⟨(some 10), (.mv (.t 0)), none, 0⟩, ⟨(some 11), (.len (.t 10)), none, 0⟩, ⟨(some 12), (.bin .eql (.t 9) (.t 11)), none, 0⟩, ⟨(some 2), (.mv (.t 12)), none, 0⟩, ⟨(some 3), (.mv (.c (.bool true))), none, 0⟩]) .ret)
def x20_3 : XCode := (.seq (.seq (.reg false [⟨(some 4), (.mv (.t 0)), none, 0⟩, ⟨(some 5), (.call (.c (.fn 40 [])) [(.t 4)]), none, 0⟩, ⟨(some 6), (.un .not (.t 5)), none, 0⟩]) x20_1) x20_2)
def x20 : XFn := ⟨(.seq (.reg false [⟨(some 2), (.mv (.c (.bool false))), none, 0⟩, ⟨(some 3), (.mv (.c (.bool false))), none, 0⟩]) x20_3), 13, [(.t 2), (.t 3)]⟩
theorem ok20 : FnOk Try.prog T 20 x20 := ⟨Try.f20, [], Try.func20, by decide +kernel, by kernel_rfl⟩
/-- impl.byTime$1 -/
def x69_1 : XCode := (.seq (.reg true [⟨(some 6), (.ld none (.t 2)), none, 4⟩, ⟨(some 7), (.mv (.t 1)), none, 4⟩, ⟨(some 8), (.ia 6 (.t 6) (.t 7)), none, 4⟩, ⟨(some 9), (.fa 5 (.t 8)), none, 4⟩, ⟨(some 10), (.ld none (.t 9)), none, 4⟩, ⟨(some 11), (.ld none (.t 2)), none, 4⟩, ⟨(some 12), (.mv (.t 0)), none, 4⟩, ⟨(some 13), (.ia 6 (.t 11) (.t 12)), none, 4⟩, ⟨(some 14), (.fa 4 (.t 13)), none, 4⟩, ⟨(some 15), (.ld none (.t 14)), none, 4⟩, ⟨(some 16), (.bin .gtr (.t 10) (.t 15)), none, 4⟩, ⟨(some 5), (.mv (.t 16)), none, 4⟩]) .ret)
def x69 : XFn := ⟨(.seq (.reg false [⟨(some 5), (.mv (.c (.bool false))), none, 0⟩]) x69_1), 17, [(.t 5)]⟩
theorem ok69 : FnOk Try.prog T 69 x69 := ⟨Try.f69, [.draw [0, 1, 2, 3, 4, 5, 6, 7, 8, 9, 10, 11] [4, 4, 4, 4, 4, 4, 4, 4, 4, 4, 4, 4]], Try.func69, by decide +kernel, by kernel_rfl⟩
/-- impl.byTime -/

def x51 : XFn := ⟨(.seq (.seq (.reg false [⟨(some 1), (.box 24 1 (.t 0)), none, 0⟩, ⟨(some 2), (.mv (.c .nilfn)), none, 0⟩]) (.frz [1])) (.seq (.reg false [⟨(some 3), (.mkF 69 [(.t 1)]), none, 0⟩, ⟨(some 2), (.mv (.t 3)), none, 0⟩]) .ret)), 4, [(.t 2)]⟩
theorem ok51 : FnOk Try.prog T 51 x51 := ⟨Try.f51, [.frz [1]], Try.func51, by decide +kernel, by kernel_rfl⟩
/-- impl.IsLinear -/
def x21_1 : XCode := (.cond (.t 8) (.seq (.reg false [⟨(some 2), (.mv (.c (.bool false))), none, 0⟩, ⟨(some 3), (.mv (.c (.bool false))), none, 0⟩]) .ret) .skip)
def x21_2 : XCode := (.seq (.reg false [⟨(some 10), (.mv (.t 0)), none, 0⟩, ⟨(some 11), (.mv (.t 0)), none, 0⟩, ⟨(some 12), (.call (.c (.fn 51 [])) [(.t 11)]), none, 0⟩, ⟨(some 13), (.call (.c (.fn 49 [])) [(.t 10), (.t 12)]), none, 0⟩, ⟨(some 9), (.mv (.t 13)), none, 0⟩, ⟨(some 14), (.ext (.t 9) 0), none, 0⟩, ⟨(some 15), (.ext (.t 9) 1), none, 0⟩, ⟨(some 4), (.mv (.t 14)), none, 0⟩, ⟨(some 5), (.mv (.t 15)), none, 0⟩]) (.seq (.reg false [⟨(some 16), (.mv (.t 5)), none, 0⟩, ⟨(some 2), (.mv (.t 16)), none, 0⟩, ⟨(some 3), (.mv (.c (.bool true))), none, 0⟩]) .ret))
def x21_3 : XCode := (.seq (.seq (.reg false [⟨(some 6), (.mv (.t 0)), none, 0⟩, ⟨(some 7), (.call (.c (.fn 43 [])) [(.t 6)]), none, 0⟩, ⟨(some 8), (.un .not (.t 7)), none, 0⟩]) x21_1) x21_2)
def x21 : XFn := ⟨(.seq (.reg false [⟨(some 2), (.mv (.c (.bool false))), none, 0⟩, ⟨(some 3), (.mv (.c (.bool false))), none, 0⟩]) x21_3), 17, [(.t 2), (.t 3)]⟩
theorem ok21 : FnOk Try.prog T 21 x21 := ⟨Try.f21, [], Try.func21, by decide +kernel, by kernel_rfl⟩
/-- spec.OrderFor -/
def x22_1 : XCode := (.cond (.t 7) (.seq (.reg false [⟨(some 2), (.mv (.c .nil)), none, 0⟩, ⟨(some 3), (.mv (.c (.bool false))), none, 0⟩]) .ret) .skip)
def x22_2 : XCode := (.cond (.t 14) (.seq (.reg false [⟨(some 2), (.mv (.c .nil)), none, 0⟩, ⟨(some 3), (.mv (.c (.bool false))), none, 0⟩]) .ret) .skip)
def x22_3 : XCode := (.seq (.seq (.reg false [⟨(some 10), (.mv (.t 4)), none, 0⟩, ⟨(some 11), (.len (.t 10)), none, 0⟩, ⟨(some 12), (.mv (.t 0)), none, 0⟩, ⟨(some 13), (.len (.t 12)), none, 0⟩, ⟨(some 14), (.bin .neq (.t 11) (.t 13)), none, 0⟩]) x22_2) (.seq (.reg false [⟨(some 15), (.mv (.t 4)), none, 0⟩, ⟨(some 2), (.mv (.t 15)), none, 0⟩, ⟨(some 3), (.mv (.c (.bool true))), none, 0⟩]) .ret))
def x22_4 : XCode := (.seq (.reg false [⟨(some 8), (.mv (.t 0)), none, 0⟩, ⟨(some 9), (.call (.c (.fn 48 [])) [(.t 8), (.c .nil), (.c (.bool false))]), none, 0⟩, ⟨(some 4), (.mv (.t 9)), none, 0⟩]) x22_3)
def x22_5 : XCode := (.seq (.seq (.reg false [⟨(some 5), (.mv (.t 0)), none, 0⟩, ⟨(some 6), (.call (.c (.fn 40 [])) [(.t 5)]), none, 0⟩, ⟨(some 7), (.un .not (.t 6)), none, 0⟩]) x22_1) x22_4)
def x22 : XFn := ⟨(.seq (.reg false [⟨(some 2), (.mv (.c .nil)), none, 0⟩, ⟨(some 3), (.mv (.c (.bool false))), none, 0⟩]) x22_5), 16, [(.t 2), (.t 3)]⟩
theorem ok22 : FnOk Try.prog T 22 x22 := ⟨Try.f22, [], Try.func22, by decide +kernel, by kernel_rfl⟩
/-- impl.OrderFor -/
def x23_1 : XCode := (.cond (.t 6) (.seq (.reg false [⟨(some 2), (.mv (.c .nil)), none, 0⟩, ⟨(some 3), (.mv (.c (.bool false))), none, 0⟩]) .ret) .skip)
def x23_2 : XCode := (.seq (.reg false [⟨(some 7), (.mv (.t 0)), none, 0⟩, ⟨(some 8), (.mv (.t 0)), none, 0⟩, ⟨(some 9), (.call (.c (.fn 51 [])) [(.t 8)]), none, 0⟩, ⟨(some 10), (.call (.c (.fn 49 [])) [(.t 7), (.t 9)]), none, 0⟩, ⟨(some 11), (.ext (.t 10) 0), none, 0⟩, ⟨(some 12), (.ext (.t 10) 1), none, 0⟩, ⟨(some 2), (.mv (.t 11)), none, 0⟩, ⟨(some 3), (.mv (.t 12)), none, 0⟩]) .ret)
def x23_3 : XCode := (.seq (.seq (.reg false [⟨(some 4), (.mv (.t 0)), none, 0⟩, ⟨(some 5), (.call (.c (.fn 43 [])) [(.t 4)]), none, 0⟩, ⟨(some 6), (.un .not (.t 5)), none, 0⟩]) x23_1) x23_2)
def x23 : XFn := ⟨(.seq (.reg false [⟨(some 2), (.mv (.c .nil)), none, 0⟩, ⟨(some 3), (.mv (.c (.bool false))), none, 0⟩]) x23_3), 13, [(.t 2), (.t 3)]⟩
theorem ok23 : FnOk Try.prog T 23 x23 := ⟨Try.f23, [], Try.func23, by decide +kernel, by kernel_rfl⟩
/-- cmp.isNaN[int] -/
def x93_1 : XCode := (.seq (.reg false [⟨(some 3), (.mv (.t 0)), none, 0⟩, ⟨(some 4), (.mv (.t 0)), none, 0⟩, ⟨(some 5), (.bin .neq (.t 3) (.t 4)), none, 0⟩, ⟨(some 2), (.mv (.t 5)), none, 0⟩]) .ret)
def x93 : XFn := ⟨(.seq (.reg false [⟨(some 2), (.mv (.c (.bool false))), none, 0⟩]) x93_1), 6, [(.t 2)]⟩
theorem ok93 : FnOk Try.prog T 93 x93 := ⟨Try.f93, [], Try.func93, by decide +kernel, by kernel_rfl⟩
/-- cmp.Less[int] -/
def x83_1 : XCode := (.seq (.reg false [⟨(some 5), (.mv (.t 0)), none, 0⟩, ⟨(some 6), (.call (.c (.fn 93 [])) [(.t 5)]), none, 0⟩, ⟨(some 7), (.mv (.t 6)), none, 0⟩, ⟨(some 8), (.mv (.t 1)), (some (7, true)), 0⟩, ⟨(some 9), (.call (.c (.fn 93 [])) [(.t 8)]), (some (7, true)), 0⟩, ⟨(some 10), (.un .not (.t 9)), (some (7, true)), 0⟩, ⟨(some 11), (.pick (.t 7) (.t 10) (.c (.bool false))), none, 0⟩, ⟨(some 12), (.mv (.t 11)), none, 0⟩, ⟨(some 13), (.mv (.t 0)), (some (12, false)), 0⟩, ⟨(some 14), (.mv (.t 1)), (some (12, false)), 0⟩, ⟨(some 15), (.bin .lss (.t 13) (.t 14)), (some (12, false)), 0⟩, ⟨(some 16), (.pick (.t 12) (.c (.bool true)) (.t 15)), none, 0⟩, ⟨(some 4), (.mv (.t 16)), none, 0⟩]) .ret)
def x83 : XFn := ⟨(.seq (.reg false [⟨(some 4), (.mv (.c (.bool false))), none, 0⟩]) x83_1), 17, [(.t 4)]⟩
theorem ok83 : FnOk Try.prog T 83 x83 := ⟨Try.f83, [], Try.func83, by decide +kernel, by kernel_rfl⟩
/-- slices.insertionSortOrdered[int] -/
def x77_1 : XCode := (.reg true [⟨(some 33), (.mv (.t 0)), none, 4⟩, ⟨(some 34), (.mv (.t 7)), none, 4⟩, ⟨(some 35), (.mv (.t 0)), none, 1⟩, ⟨(some 36), (.mv (.t 7)), none, 1⟩, ⟨(some 37), (.bin .sub (.t 36) (.c (.int .i64 1))), none, 1⟩, ⟨(some 38), (.mv (.t 0)), none, 4⟩, ⟨(some 39), (.mv (.t 7)), none, 4⟩, ⟨(some 40), (.bin .sub (.t 39) (.c (.int .i64 1))), none, 4⟩, ⟨(some 41), (.ia 1 (.t 38) (.t 40)), none, 4⟩, ⟨(some 42), (.ld none (.t 41)), none, 4⟩, ⟨(some 43), (.mv (.t 0)), none, 4⟩, ⟨(some 44), (.mv (.t 7)), none, 4⟩, ⟨(some 45), (.ia 1 (.t 43) (.t 44)), none, 4⟩, ⟨(some 46), (.ld none (.t 45)), none, 4⟩, ⟨(some 47), (.ia 1 (.t 33) (.t 34)), none, 4⟩, ⟨none, (.st 1 (.t 47) (.t 42)), none, 3⟩, ⟨(some 48), (.ia 1 (.t 35) (.t 37)), none, 4⟩, ⟨none, (.st 1 (.t 48) (.t 46)), none, 3⟩])
def x77_2 : XCode := (.seq (.block 3 x77_1) (.reg false [⟨(some 31), (.mv (.t 7)), none, 0⟩, ⟨(some 32), (.bin .sub (.t 31) (.c (.int .i64 1))), none, 0⟩, ⟨(some 7), (.mv (.t 32)), none, 0⟩]))
def x77_3 : XCode := (.seq (.seq (.reg true [⟨(some 16), (.mv (.t 7)), none, 4⟩, ⟨(some 17), (.mv (.t 1)), none, 4⟩, ⟨(some 18), (.bin .gtr (.t 16) (.t 17)), none, 4⟩, ⟨(some 19), (.mv (.t 18)), none, 4⟩, ⟨(some 20), (.mv (.t 0)), (some (19, true)), 4⟩, ⟨(some 21), (.mv (.t 7)), (some (19, true)), 4⟩, ⟨(some 22), (.ia 1 (.t 20) (.t 21)), (some (19, true)), 4⟩, ⟨(some 23), (.ld none (.t 22)), (some (19, true)), 4⟩, ⟨(some 24), (.mv (.t 0)), (some (19, true)), 4⟩, ⟨(some 25), (.mv (.t 7)), (some (19, true)), 4⟩, ⟨(some 26), (.bin .sub (.t 25) (.c (.int .i64 1))), (some (19, true)), 4⟩, ⟨(some 27), (.ia 1 (.t 24) (.t 26)), (some (19, true)), 4⟩, ⟨(some 28), (.ld none (.t 27)), (some (19, true)), 4⟩, ⟨(some 29), (.call (.c (.fn 83 [])) [(.t 23), (.t 28)]), (some (19, true)), 3⟩, ⟨(some 30), (.pick (.t 19) (.t 29) (.c (.bool false))), none, 4⟩]) (.cond (.t 30) .skip (.exit 2))) x77_2)
def x77_4 : XCode := (.block 2 (.loop [0, 1, 2, 6, 7] x77_3))
def x77_5 : XCode := x77_4
def x77_6 : XCode := (.seq (.reg false [⟨(some 15), (.mv (.t 6)), none, 0⟩, ⟨(some 7), (.mv (.t 15)), none, 0⟩]) x77_5)
def x77_7 : XCode := (.seq (.block 1 x77_6) (.reg false [⟨(some 13), (.mv (.t 6)), none, 0⟩, ⟨(some 14), (.bin .add (.t 13) (.c (.int .i64 1))), none, 0⟩, ⟨(some 6), (.mv (.t 14)), none, 0⟩]))
def x77_8 : XCode := (.seq (.seq (.reg false [⟨(some 10), (.mv (.t 6)), none, 0⟩, ⟨(some 11), (.mv (.t 2)), none, 0⟩, ⟨(some 12), (.bin .lss (.t 10) (.t 11)), none, 0⟩]) (.cond (.t 12) .skip (.exit 0))) x77_7)
def x77_9 : XCode := (.block 0 (.loop [0, 1, 2, 6] x77_8))
def x77_10 : XCode := x77_9
def x77 : XFn := ⟨(.seq (.reg false [⟨(some 8), (.mv (.t 1)), none, 0⟩, ⟨(some 9), (.bin .add (.t 8) (.c (.int .i64 1))), none, 0⟩, ⟨(some 6), (.mv (.t 9)), none, 0⟩]) x77_10), 49, []⟩
theorem ok77 : FnOk Try.prog T 77 x77 := ⟨Try.f77, [.loop [0, 1, 2, 6], .loop [0, 1, 2, 6, 7], .draw [0, 1, 2, 3, 4, 5, 6, 7, 8, 9, 10, 11, 12, 13, 14] [4, 4, 4, 4, 4, 4, 4, 4, 4, 4, 4, 4, 4, 3, 4], .draw [0, 1, 2, 3, 4, 5, 6, 7, 8, 9, 10, 11, 12, 13, 14, 15, 16, 17] [4, 4, 1, 1, 1, 4, 4, 4, 4, 4, 4, 4, 4, 4, 4, 3, 4, 3]], Try.func77, by decide +kernel, by kernel_rfl⟩
/-- bits.Len32 -/
def x86_1 : XCode := (.seq (.reg false [⟨(some 5), (.mv (.t 0)), none, 0⟩, ⟨(some 6), (.bin .shr (.t 5) (.c (.int .u64 16))), none, 0⟩, ⟨(some 0), (.mv (.t 6)), none, 0⟩]) (.reg false [⟨(some 2), (.mv (.c (.int .i64 16))), none, 0⟩]))
def x86_2 : XCode := (.cond (.t 4) x86_1 .skip)
def x86_3 : XCode := (.seq (.reg false [⟨(some 9), (.mv (.t 0)), none, 0⟩, ⟨(some 10), (.bin .shr (.t 9) (.c (.int .u64 8))), none, 0⟩, ⟨(some 0), (.mv (.t 10)), none, 0⟩]) (.reg false [⟨(some 11), (.mv (.t 2)), none, 0⟩, ⟨(some 12), (.bin .add (.t 11) (.c (.int .i64 8))), none, 0⟩, ⟨(some 2), (.mv (.t 12)), none, 0⟩]))
def x86_4 : XCode := (.cond (.t 8) x86_3 .skip)
def x86_5 : XCode := (.seq (.reg false [⟨(some 13), (.mv (.t 2)), none, 0⟩, ⟨(some 14), (.mv (.t 0)), none, 0⟩, ⟨(some 15), (.cvt .u8 (.t 14)), none, 0⟩, ⟨(some 16), (.sidx (.c (.str (ByteArray.mk #[0, 1, 2, 2, 3, 3, 3, 3, 4, 4, 4, 4, 4, 4, 4, 4, 5, 5, 5, 5, 5, 5, 5, 5, 5, 5, 5, 5, 5, 5, 5, 5, 6, 6, 6, 6, 6, 6, 6, 6, 6, 6, 6, 6, 6, 6, 6, 6, 6, 6, 6, 6, 6, 6, 6, 6, 6, 6, 6, 6, 6, 6, 6, 6, 7, 7, 7, 7, 7, 7, 7, 7, 7, 7, 7, 7, 7, 7, 7, 7, 7, 7, 7, 7, 7, 7, 7, 7, 7, 7, 7, 7, 7, 7, 7, 7, 7, 7, 7, 7, 7, 7, 7, 7, 7, 7, 7, 7, 7, 7, 7, 7, 7, 7, 7, 7, 7, 7, 7, 7, 7, 7, 7, 7, 7, 7, 7, 7, 8, 8, 8, 8, 8, 8, 8, 8, 8, 8, 8, 8, 8, 8, 8, 8, 8, 8, 8, 8, 8, 8, 8, 8, 8, 8, 8, 8, 8, 8, 8, 8, 8, 8, 8, 8, 8, 8, 8, 8, 8, 8, 8, 8, 8, 8, 8, 8, 8, 8, 8, 8, 8, 8, 8, 8, 8, 8, 8, 8, 8, 8, 8, 8, 8, 8, 8, 8, 8, 8, 8, 8, 8, 8, 8, 8, 8, 8, 8, 8, 8, 8, 8, 8, 8, 8, 8, 8, 8, 8, 8, 8, 8, 8, 8, 8, 8, 8, 8, 8, 8, 8, 8, 8, 8, 8, 8, 8, 8, 8, 8, 8, 8, 8, 8, 8, 8, 8, 8, 8, 8, 8, 8, 8, 8, 8, 8, 8]))) (.t 15)), none, 0⟩, ⟨(some 17), (.cvt .i64 (.t 16)), none, 0⟩, ⟨(some 18), (.bin .add (.t 13) (.t 17)), none, 0⟩, ⟨(some 2), (.mv (.t 18)), none, 0⟩]) .ret)
def x86_6 : XCode := (.seq (.seq (.reg false [⟨(some 7), (.mv (.t 0)), none, 0⟩, ⟨(some 8), (.bin .geq (.t 7) (.c (.int .u32 256))), none, 0⟩]) x86_4) x86_5)
def x86_7 : XCode := (.seq (.seq (.reg false [⟨(some 3), (.mv (.t 0)), none, 0⟩, ⟨(some 4), (.bin .geq (.t 3) (.c (.int .u32 65536))), none, 0⟩]) x86_2) x86_6)
def x86 : XFn := ⟨(.seq (.reg false [⟨(some 2), (.mv (.c (.int .i64 0))), none, 0⟩]) x86_7), 19, [(.t 2)]⟩
theorem ok86 : FnOk Try.prog T 86 x86 := ⟨Try.f86, [], Try.func86, by decide +kernel, by kernel_rfl⟩
/-- bits.Len64 -/
def x87_1 : XCode := (.seq (.reg false [⟨(some 5), (.mv (.t 0)), none, 0⟩, ⟨(some 6), (.bin .shr (.t 5) (.c (.int .u64 32))), none, 0⟩, ⟨(some 0), (.mv (.t 6)), none, 0⟩]) (.reg false [⟨(some 2), (.mv (.c (.int .i64 32))), none, 0⟩]))
def x87_2 : XCode := (.cond (.t 4) x87_1 .skip)
def x87_3 : XCode := (.seq (.reg false [⟨(some 9), (.mv (.t 0)), none, 0⟩, ⟨(some 10), (.bin .shr (.t 9) (.c (.int .u64 16))), none, 0⟩, ⟨(some 0), (.mv (.t 10)), none, 0⟩]) (.reg false [⟨(some 11), (.mv (.t 2)), none, 0⟩, ⟨(some 12), (.bin .add (.t 11) (.c (.int .i64 16))), none, 0⟩, ⟨(some 2), (.mv (.t 12)), none, 0⟩]))
def x87_4 : XCode := (.cond (.t 8) x87_3 .skip)
def x87_5 : XCode := (.seq (.reg false [⟨(some 15), (.mv (.t 0)), none, 0⟩, ⟨(some 16), (.bin .shr (.t 15) (.c (.int .u64 8))), none, 0⟩, ⟨(some 0), (.mv (.t 16)), none, 0⟩]) (.reg false [⟨(some 17), (.mv (.t 2)), none, 0⟩, ⟨(some 18), (.bin .add (.t 17) (.c (.int .i64 8))), none, 0⟩, ⟨(some 2), (.mv (.t 18)), none, 0⟩]))
def x87_6 : XCode := (.cond (.t 14) x87_5 .skip)
def x87_7 : XCode := (.seq (.reg false [⟨(some 19), (.mv (.t 2)), none, 0⟩, ⟨(some 20), (.mv (.t 0)), none, 0⟩, ⟨(some 21), (.cvt .u8 (.t 20)), none, 0⟩, ⟨(some 22), (.sidx (.c (.str (ByteArray.mk #[0, 1, 2, 2, 3, 3, 3, 3, 4, 4, 4, 4, 4, 4, 4, 4, 5, 5, 5, 5, 5, 5, 5, 5, 5, 5, 5, 5, 5, 5, 5, 5, 6, 6, 6, 6, 6, 6, 6, 6, 6, 6, 6, 6, 6, 6, 6, 6, 6, 6, 6, 6, 6, 6, 6, 6, 6, 6, 6, 6, 6, 6, 6, 6, 7, 7, 7, 7, 7, 7, 7, 7, 7, 7, 7, 7, 7, 7, 7, 7, 7, 7, 7, 7, 7, 7, 7, 7, 7, 7, 7, 7, 7, 7, 7, 7, 7, 7, 7, 7, 7, 7, 7, 7, 7, 7, 7, 7, 7, 7, 7, 7, 7, 7, 7, 7, 7, 7, 7, 7, 7, 7, 7, 7, 7, 7, 7, 7, 8, 8, 8, 8, 8, 8, 8, 8, 8, 8, 8, 8, 8, 8, 8, 8, 8, 8, 8, 8, 8, 8, 8, 8, 8, 8, 8, 8, 8, 8, 8, 8, 8, 8, 8, 8, 8, 8, 8, 8, 8, 8, 8, 8, 8, 8, 8, 8, 8, 8, 8, 8, 8, 8, 8, 8, 8, 8, 8, 8, 8, 8, 8, 8, 8, 8, 8, 8, 8, 8, 8, 8, 8, 8, 8, 8, 8, 8, 8, 8, 8, 8, 8, 8, 8, 8, 8, 8, 8, 8, 8, 8, 8, 8, 8, 8, 8, 8, 8, 8, 8, 8, 8, 8, 8, 8, 8, 8, 8, 8, 8, 8, 8, 8, 8, 8, 8, 8, 8, 8, 8, 8, 8, 8, 8, 8, 8, 8]))) (.t 21)), none, 0⟩, ⟨(some 23), (.cvt .i64 (.t 22)), none, 0⟩, ⟨(some 24), (.bin .add (.t 19) (.t 23)), none, 0⟩, ⟨(some 2), (.mv (.t 24)), none, 0⟩]) .ret)
def x87_8 : XCode := (.seq (.seq (.reg false [⟨(some 13), (.mv (.t 0)), none, 0⟩, ⟨(some 14), (.bin .geq (.t 13) (.c (.int .u64 256))), none, 0⟩]) x87_6) x87_7)
def x87_9 : XCode := (.seq (.seq (.reg false [⟨(some 7), (.mv (.t 0)), none, 0⟩, ⟨(some 8), (.bin .geq (.t 7) (.c (.int .u64 65536))), none, 0⟩]) x87_4) x87_8)
def x87_10 : XCode := (.seq (.seq (.reg false [⟨(some 3), (.mv (.t 0)), none, 0⟩, ⟨(some 4), (.bin .geq (.t 3) (.c (.int .u64 4294967296))), none, 0⟩]) x87_2) x87_9)
def x87 : XFn := ⟨(.seq (.reg false [⟨(some 2), (.mv (.c (.int .i64 0))), none, 0⟩]) x87_10), 25, [(.t 2)]⟩
theorem ok87 : FnOk Try.prog T 87 x87 := ⟨Try.f87, [], Try.func87, by decide +kernel, by kernel_rfl⟩
/-- bits.Len -/
def x76_1 : XCode := (.seq (.reg false [⟨(some 3), (.mv (.t 0)), none, 0⟩, ⟨(some 4), (.cvt .u32 (.t 3)), none, 0⟩, ⟨(some 5), (.call (.c (.fn 86 [])) [(.t 4)]), none, 0⟩, ⟨(some 2), (.mv (.t 5)), none, 0⟩]) .ret)
def x76_2 : XCode := (.seq (.cond (.c (.bool false)) x76_1 .skip) (.seq (.reg false [⟨(some 6), (.mv (.t 0)), none, 0⟩, ⟨(some 7), (.call (.c (.fn 87 [])) [(.t 6)]), none, 0⟩, ⟨(some 2), (.mv (.t 7)), none, 0⟩]) .ret))
def x76 : XFn := ⟨(.seq (.reg false [⟨(some 2), (.mv (.c (.int .i64 0))), none, 0⟩]) x76_2), 8, [(.t 2)]⟩
theorem ok76 : FnOk Try.prog T 76 x76 := ⟨Try.f76, [], Try.func76, by decide +kernel, by kernel_rfl⟩
/-- slices.nextPowerOfTwo -/
def x89_1 : XCode := (.seq (.reg false [⟨(some 3), (.mv (.t 0)), none, 0⟩, ⟨(some 4), (.cvt .u64 (.t 3)), none, 0⟩, ⟨(some 5), (.call (.c (.fn 76 [])) [(.t 4)]), none, 0⟩, ⟨(some 6), (.bin .shl (.c (.int .u64 1)) (.t 5)), none, 0⟩, ⟨(some 2), (.mv (.t 6)), none, 0⟩]) .ret)
def x89 : XFn := ⟨(.seq (.reg false [⟨(some 2), (.mv (.c (.int .u64 0))), none, 0⟩]) x89_1), 7, [(.t 2)]⟩
theorem ok89 : FnOk Try.prog T 89 x89 := ⟨Try.f89, [], Try.func89, by decide +kernel, by kernel_rfl⟩
/-- slices.pdqsortOrdered[int] -/
def x75_1 : XCode := (.seq (.reg false [⟨(some 24), (.mv (.t 0)), none, 0⟩, ⟨(some 25), (.mv (.t 1)), none, 0⟩, ⟨(some 26), (.mv (.t 2)), none, 0⟩, ⟨(some 27), (.call (.c (.fn 77 [])) [(.t 24), (.t 25), (.t 26)]), none, 0⟩]) .ret)
def x75_2 : XCode := (.cond (.t 23) x75_1 .skip)
def x75_3 : XCode := (.seq (.reg false [⟨(some 30), (.mv (.t 0)), none, 0⟩, ⟨(some 31), (.mv (.t 1)), none, 0⟩, ⟨(some 32), (.mv (.t 2)), none, 0⟩, ⟨(some 33), (.call (.c (.fn 78 [])) [(.t 30), (.t 31), (.t 32)]), none, 0⟩]) .ret)
def x75_4 : XCode := (.cond (.t 29) x75_3 .skip)
def x75_5 : XCode := (.seq (.reg false [⟨(some 36), (.mv (.t 0)), none, 0⟩, ⟨(some 37), (.mv (.t 1)), none, 0⟩, ⟨(some 38), (.mv (.t 2)), none, 0⟩, ⟨(some 39), (.call (.c (.fn 79 [])) [(.t 36), (.t 37), (.t 38)]), none, 0⟩]) (.reg false [⟨(some 40), (.mv (.t 3)), none, 0⟩, ⟨(some 41), (.bin .sub (.t 40) (.c (.int .i64 1))), none, 0⟩, ⟨(some 3), (.mv (.t 41)), none, 0⟩]))
def x75_6 : XCode := (.cond (.t 35) x75_5 .skip)
def x75_7 : XCode := (.seq (.reg false [⟨(some 55), (.mv (.t 2)), none, 0⟩, ⟨(some 56), (.bin .sub (.t 55) (.c (.int .i64 1))), none, 0⟩, ⟨(some 57), (.mv (.t 11)), none, 0⟩, ⟨(some 58), (.mv (.t 1)), none, 0⟩, ⟨(some 59), (.bin .sub (.t 57) (.t 58)), none, 0⟩, ⟨(some 60), (.bin .sub (.t 56) (.t 59)), none, 0⟩, ⟨(some 11), (.mv (.t 60)), none, 0⟩]) (.reg false [⟨(some 12), (.mv (.c (.int .i64 1))), none, 0⟩]))
def x75_8 : XCode := (.seq (.reg false [⟨(some 51), (.mv (.t 0)), none, 0⟩, ⟨(some 52), (.mv (.t 1)), none, 0⟩, ⟨(some 53), (.mv (.t 2)), none, 0⟩, ⟨(some 54), (.call (.c (.fn 81 [])) [(.t 51), (.t 52), (.t 53)]), none, 0⟩]) x75_7)
def x75_9 : XCode := (.cond (.t 50) x75_8 .skip)
def x75_10 : XCode := (.seq (.reg false [⟨(some 69), (.mv (.t 0)), none, 0⟩, ⟨(some 70), (.mv (.t 1)), none, 0⟩, ⟨(some 71), (.mv (.t 2)), none, 0⟩, ⟨(some 72), (.call (.c (.fn 82 [])) [(.t 69), (.t 70), (.t 71)]), none, 0⟩]) (.cond (.t 72) .ret .skip))
def x75_11 : XCode := (.cond (.t 68) x75_10 .skip)
def x75_12 : XCode := (.seq (.reg false [⟨(some 88), (.mv (.t 0)), none, 0⟩, ⟨(some 89), (.mv (.t 1)), none, 0⟩, ⟨(some 90), (.mv (.t 2)), none, 0⟩, ⟨(some 91), (.mv (.t 11)), none, 0⟩, ⟨(some 92), (.call (.c (.fn 84 [])) [(.t 88), (.t 89), (.t 90), (.t 91)]), none, 0⟩, ⟨(some 13), (.mv (.t 92)), none, 0⟩]) (.seq (.reg false [⟨(some 93), (.mv (.t 13)), none, 0⟩, ⟨(some 1), (.mv (.t 93)), none, 0⟩]) (.exit 1)))
def x75_13 : XCode := (.cond (.t 87) x75_12 .skip)
def x75_14 : XCode := (.seq (.reg false [⟨(some 117), (.mv (.t 0)), none, 0⟩, ⟨(some 118), (.mv (.t 1)), none, 0⟩, ⟨(some 119), (.mv (.t 14)), none, 0⟩, ⟨(some 120), (.mv (.t 3)), none, 0⟩, ⟨(some 121), (.call (.c (.fn 75 [])) [(.t 117), (.t 118), (.t 119), (.t 120)]), none, 0⟩]) (.reg false [⟨(some 122), (.mv (.t 14)), none, 0⟩, ⟨(some 123), (.bin .add (.t 122) (.c (.int .i64 1))), none, 0⟩, ⟨(some 1), (.mv (.t 123)), none, 0⟩]))
def x75_15 : XCode := (.seq (.reg false [⟨(some 114), (.mv (.t 16)), none, 0⟩, ⟨(some 115), (.mv (.t 18)), none, 0⟩, ⟨(some 116), (.bin .geq (.t 114) (.t 115)), none, 0⟩, ⟨(some 8), (.mv (.t 116)), none, 0⟩]) x75_14)
def x75_16 : XCode := (.seq (.reg false [⟨(some 127), (.mv (.t 0)), none, 0⟩, ⟨(some 128), (.mv (.t 14)), none, 0⟩, ⟨(some 129), (.bin .add (.t 128) (.c (.int .i64 1))), none, 0⟩, ⟨(some 130), (.mv (.t 2)), none, 0⟩, ⟨(some 131), (.mv (.t 3)), none, 0⟩, ⟨(some 132), (.call (.c (.fn 75 [])) [(.t 127), (.t 129), (.t 130), (.t 131)]), none, 0⟩]) (.reg false [⟨(some 133), (.mv (.t 14)), none, 0⟩, ⟨(some 2), (.mv (.t 133)), none, 0⟩]))
def x75_17 : XCode := (.seq (.reg false [⟨(some 124), (.mv (.t 17)), none, 0⟩, ⟨(some 125), (.mv (.t 18)), none, 0⟩, ⟨(some 126), (.bin .geq (.t 124) (.t 125)), none, 0⟩, ⟨(some 8), (.mv (.t 126)), none, 0⟩]) x75_16)
def x75_18 : XCode := (.cond (.t 113) x75_15 x75_17)
def x75_19 : XCode := (.seq (.reg false [⟨(some 111), (.mv (.t 16)), none, 0⟩, ⟨(some 112), (.mv (.t 17)), none, 0⟩, ⟨(some 113), (.bin .lss (.t 111) (.t 112)), none, 0⟩]) x75_18)
def x75_20 : XCode := (.seq (.reg false [⟨(some 109), (.mv (.t 10)), none, 0⟩, ⟨(some 110), (.bin .quo (.t 109) (.c (.int .i64 8))), none, 0⟩, ⟨(some 18), (.mv (.t 110)), none, 0⟩]) x75_19)
def x75_21 : XCode := (.seq (.reg false [⟨(some 103), (.mv (.t 14)), none, 0⟩, ⟨(some 104), (.mv (.t 1)), none, 0⟩, ⟨(some 105), (.bin .sub (.t 103) (.t 104)), none, 0⟩, ⟨(some 106), (.mv (.t 2)), none, 0⟩, ⟨(some 107), (.mv (.t 14)), none, 0⟩, ⟨(some 108), (.bin .sub (.t 106) (.t 107)), none, 0⟩, ⟨(some 16), (.mv (.t 105)), none, 0⟩, ⟨(some 17), (.mv (.t 108)), none, 0⟩]) x75_20)
def x75_22 : XCode := (.seq (.reg false [⟨(some 102), (.mv (.t 15)), none, 0⟩, ⟨(some 9), (.mv (.t 102)), none, 0⟩]) x75_21)
def x75_23 : XCode := (.seq (.reg false [⟨(some 95), (.mv (.t 0)), none, 0⟩, ⟨(some 96), (.mv (.t 1)), none, 0⟩, ⟨(some 97), (.mv (.t 2)), none, 0⟩, ⟨(some 98), (.mv (.t 11)), none, 0⟩, ⟨(some 99), (.call (.c (.fn 85 [])) [(.t 95), (.t 96), (.t 97), (.t 98)]), none, 0⟩, ⟨(some 94), (.mv (.t 99)), none, 0⟩, ⟨(some 100), (.ext (.t 94) 0), none, 0⟩, ⟨(some 101), (.ext (.t 94) 1), none, 0⟩, ⟨(some 14), (.mv (.t 100)), none, 0⟩, ⟨(some 15), (.mv (.t 101)), none, 0⟩]) x75_22)
def x75_24 : XCode := (.seq (.seq (.reg true [⟨(some 73), (.mv (.t 1)), none, 4⟩, ⟨(some 74), (.bin .gtr (.t 73) (.c (.int .i64 0))), none, 4⟩, ⟨(some 75), (.mv (.t 74)), none, 4⟩, ⟨(some 76), (.mv (.t 0)), (some (75, true)), 4⟩, ⟨(some 77), (.mv (.t 1)), (some (75, true)), 4⟩, ⟨(some 78), (.bin .sub (.t 77) (.c (.int .i64 1))), (some (75, true)), 4⟩, ⟨(some 79), (.ia 1 (.t 76) (.t 78)), (some (75, true)), 4⟩, ⟨(some 80), (.ld none (.t 79)), (some (75, true)), 4⟩, ⟨(some 81), (.mv (.t 0)), (some (75, true)), 4⟩, ⟨(some 82), (.mv (.t 11)), (some (75, true)), 4⟩, ⟨(some 83), (.ia 1 (.t 81) (.t 82)), (some (75, true)), 4⟩, ⟨(some 84), (.ld none (.t 83)), (some (75, true)), 4⟩, ⟨(some 85), (.call (.c (.fn 83 [])) [(.t 80), (.t 84)]), (some (75, true)), 3⟩, ⟨(some 86), (.un .not (.t 85)), (some (75, true)), 4⟩, ⟨(some 87), (.pick (.t 75) (.t 86) (.c (.bool false))), none, 4⟩]) x75_13) x75_23)
def x75_25 : XCode := (.seq (.seq (.reg false [⟨(some 61), (.mv (.t 8)), none, 0⟩, ⟨(some 62), (.mv (.t 61)), none, 0⟩, ⟨(some 63), (.mv (.t 9)), (some (62, true)), 0⟩, ⟨(some 64), (.pick (.t 62) (.t 63) (.c (.bool false))), none, 0⟩, ⟨(some 65), (.mv (.t 64)), none, 0⟩, ⟨(some 66), (.mv (.t 12)), (some (65, true)), 0⟩, ⟨(some 67), (.bin .eql (.t 66) (.c (.int .i64 1))), (some (65, true)), 0⟩, ⟨(some 68), (.pick (.t 65) (.t 67) (.c (.bool false))), none, 0⟩]) x75_11) x75_24)
def x75_26 : XCode := (.seq (.seq (.reg false [⟨(some 49), (.mv (.t 12)), none, 0⟩, ⟨(some 50), (.bin .eql (.t 49) (.c (.int .i64 2))), none, 0⟩]) x75_9) x75_25)
def x75_27 : XCode := (.seq (.reg false [⟨(some 43), (.mv (.t 0)), none, 0⟩, ⟨(some 44), (.mv (.t 1)), none, 0⟩, ⟨(some 45), (.mv (.t 2)), none, 0⟩, ⟨(some 46), (.call (.c (.fn 80 [])) [(.t 43), (.t 44), (.t 45)]), none, 0⟩, ⟨(some 42), (.mv (.t 46)), none, 0⟩, ⟨(some 47), (.ext (.t 42) 0), none, 0⟩, ⟨(some 48), (.ext (.t 42) 1), none, 0⟩, ⟨(some 11), (.mv (.t 47)), none, 0⟩, ⟨(some 12), (.mv (.t 48)), none, 0⟩]) x75_26)
def x75_28 : XCode := (.seq (.seq (.reg false [⟨(some 34), (.mv (.t 8)), none, 0⟩, ⟨(some 35), (.un .not (.t 34)), none, 0⟩]) x75_6) x75_27)
def x75_29 : XCode := (.seq (.seq (.reg false [⟨(some 28), (.mv (.t 3)), none, 0⟩, ⟨(some 29), (.bin .eql (.t 28) (.c (.int .i64 0))), none, 0⟩]) x75_4) x75_28)
def x75_30 : XCode := (.seq (.seq (.reg false [⟨(some 22), (.mv (.t 10)), none, 0⟩, ⟨(some 23), (.bin .leq (.t 22) (.c (.int .i64 12))), none, 0⟩]) x75_2) x75_29)
def x75_31 : XCode := (.seq (.reg false [⟨(some 19), (.mv (.t 2)), none, 0⟩, ⟨(some 20), (.mv (.t 1)), none, 0⟩, ⟨(some 21), (.bin .sub (.t 19) (.t 20)), none, 0⟩, ⟨(some 10), (.mv (.t 21)), none, 0⟩]) x75_30)
def x75_32 : XCode := (.block 1 x75_31)
def x75_33 : XCode := (.block 0 (.loop [0, 1, 2, 3, 8, 9] x75_32))
def x75_34 : XCode := x75_33
def x75_35 : XCode := (.seq (.reg false [⟨(some 9), (.mv (.c (.bool true))), none, 0⟩]) x75_34)
def x75 : XFn := ⟨(.seq (.reg false [⟨(some 8), (.mv (.c (.bool true))), none, 0⟩]) x75_35), 134, []⟩
theorem ok75 : FnOk Try.prog T 75 x75 := ⟨Try.f75, [.loop [0, 1, 2, 3, 8, 9], .draw [0, 1, 2, 3, 4, 5, 6, 7, 8, 9, 10, 11, 12, 13, 14] [4, 4, 4, 4, 4, 4, 4, 4, 4, 4, 4, 4, 3, 4, 4]], Try.func75, by decide +kernel, by kernel_rfl⟩
/-- slices.Sort[[]int,int] -/
def x70_1 : XCode := (.reg false [⟨(some 5), (.mv (.t 0)), none, 0⟩, ⟨(some 6), (.mv (.t 2)), none, 0⟩, ⟨(some 7), (.mv (.t 2)), none, 0⟩, ⟨(some 8), (.cvt .u64 (.t 7)), none, 0⟩, ⟨(some 9), (.call (.c (.fn 76 [])) [(.t 8)]), none, 0⟩, ⟨(some 10), (.call (.c (.fn 75 [])) [(.t 5), (.c (.int .i64 0)), (.t 6), (.t 9)]), none, 0⟩])
def x70 : XFn := ⟨(.seq (.reg false [⟨(some 3), (.mv (.t 0)), none, 0⟩, ⟨(some 4), (.len (.t 3)), none, 0⟩, ⟨(some 2), (.mv (.t 4)), none, 0⟩]) x70_1), 11, []⟩
theorem ok70 : FnOk Try.prog T 70 x70 := ⟨Try.f70, [], Try.func70, by decide +kernel, by kernel_rfl⟩
/-- impl.areMembers -/
def x71_1 : XCode := (.seq (.reg false [⟨(some 14), (.mv (.t 6)), none, 0⟩, ⟨(some 15), (.mv (.t 1)), none, 0⟩, ⟨(some 16), (.bin .sub (.t 15) (.c (.int .i64 1))), none, 0⟩, ⟨(some 17), (.call (.c (.fn 44 [])) [(.t 14), (.c (.int .i64 0)), (.t 16)]), none, 0⟩, ⟨(some 18), (.un .not (.t 17)), none, 0⟩, ⟨(some 19), (.mv (.t 18)), none, 0⟩, ⟨(some 20), (.mv (.t 5)), (some (19, false)), 0⟩, ⟨(some 21), (.bin .gtr (.t 20) (.c (.int .i64 0))), (some (19, false)), 0⟩, ⟨(some 22), (.mv (.t 21)), (some (19, false)), 0⟩, ⟨(some 23), (.mv (.t 0)), (some (22, true)), 0⟩, ⟨(some 24), (.mv (.t 5)), (some (22, true)), 0⟩, ⟨(some 25), (.bin .sub (.t 24) (.c (.int .i64 1))), (some (22, true)), 0⟩, ⟨(some 26), (.ia 1 (.t 23) (.t 25)), (some (22, true)), 0⟩, ⟨(some 27), (.ld none (.t 26)), (some (22, true)), 0⟩, ⟨(some 28), (.mv (.t 6)), (some (22, true)), 0⟩, ⟨(some 29), (.bin .geq (.t 27) (.t 28)), (some (22, true)), 0⟩, ⟨(some 30), (.pick (.t 22) (.t 29) (.c (.bool false))), (some (19, false)), 0⟩, ⟨(some 31), (.pick (.t 19) (.c (.bool true)) (.t 30)), none, 0⟩]) (.cond (.t 31) (.seq (.reg false [⟨(some 4), (.mv (.c (.bool false))), none, 0⟩]) .ret) .skip))
def x71_2 : XCode := (.seq (.reg false [⟨(some 11), (.mv (.t 9)), none, 0⟩, ⟨(some 12), (.ia 1 (.t 7) (.t 9)), none, 0⟩, ⟨(some 13), (.ld none (.t 12)), none, 0⟩, ⟨(some 5), (.mv (.t 11)), none, 0⟩, ⟨(some 6), (.mv (.t 13)), none, 0⟩]) x71_1)
def x71_3 : XCode := (.block 0 (.loop [0, 1, 7, 8, 9] (.seq (.reg false [⟨(some 10), (.bin .lss (.t 9) (.t 8)), none, 0⟩]) (.seq (.cond (.t 10) .skip (.exit 0)) (.seq (.block 1 x71_2) (.reg false [⟨(some 32), (.bin .add (.t 9) (.c (.int .i64 1))), none, 0⟩, ⟨(some 9), (.mv (.t 32)), none, 0⟩]))))))
def x71_4 : XCode := x71_3
def x71_5 : XCode := (.seq (.seq (.reg false [⟨(some 7), (.mv (.t 0)), none, 0⟩, ⟨(some 8), (.len (.t 7)), none, 0⟩, ⟨(some 9), (.mv (.c (.int .i64 0))), none, 0⟩]) x71_4) (.seq (.reg false [⟨(some 4), (.mv (.c (.bool true))), none, 0⟩]) .ret))
def x71 : XFn := ⟨(.seq (.reg false [⟨(some 4), (.mv (.c (.bool false))), none, 0⟩]) x71_5), 33, [(.t 4)]⟩
theorem ok71 : FnOk Try.prog T 71 x71 := ⟨Try.f71, [.loop [0, 1, 7, 8, 9]], Try.func71, by decide +kernel, by kernel_rfl⟩
/-- impl.isOrder -/
def x54_1 : XCode := (.seq (.reg false [⟨(some 11), (.mv (.t 1)), none, 0⟩, ⟨(some 12), (.len (.t 11)), none, 0⟩, ⟨(some 13), (.mv (.t 0)), none, 0⟩, ⟨(some 14), (.len (.t 13)), none, 0⟩, ⟨(some 15), (.bin .eql (.t 12) (.t 14)), none, 0⟩, ⟨(some 16), (.mv (.t 15)), none, 0⟩, ⟨(some 17), (.mv (.t 5)), (some (16, true)), 0⟩, ⟨(some 18), (.mv (.t 0)), (some (16, true)), 0⟩, ⟨(some 19), (.len (.t 18)), (some (16, true)), 0⟩, ⟨(some 20), (.call (.c (.fn 71 [])) [(.t 17), (.t 19)]), (some (16, true)), 0⟩, ⟨(some 21), (.pick (.t 16) (.t 20) (.c (.bool false))), none, 0⟩, ⟨(some 4), (.mv (.t 21)), none, 0⟩]) .ret)
def x54_2 : XCode := (.seq (.reg false [⟨(some 9), (.mv (.t 5)), none, 0⟩, ⟨(some 10), (.call (.c (.fn 70 [])) [(.t 9)]), none, 0⟩]) x54_1)
def x54_3 : XCode := (.seq (.reg false [⟨(some 6), (.buildS 3 0 [] []), none, 0⟩, ⟨(some 7), (.mv (.t 1)), none, 0⟩, ⟨(some 8), (.app 3 1 8 (.t 6) (.t 7)), none, 0⟩, ⟨(some 5), (.mv (.t 8)), none, 0⟩]) x54_2)
def x54 : XFn := ⟨(.seq (.reg false [⟨(some 4), (.mv (.c (.bool false))), none, 0⟩]) x54_3), 22, [(.t 4)]⟩
theorem ok54 : FnOk Try.prog T 54 x54 := ⟨Try.f54, [], Try.func54, by decide +kernel, by kernel_rfl⟩
/-- impl.RespectsTime$1 -/
def x56_1 : XCode := (.seq (.reg true [⟨(some 6), (.ld none (.t 2)), none, 4⟩, ⟨(some 7), (.mv (.t 1)), none, 4⟩, ⟨(some 8), (.ia 6 (.t 6) (.t 7)), none, 4⟩, ⟨(some 9), (.fa 5 (.t 8)), none, 4⟩, ⟨(some 10), (.ld none (.t 9)), none, 4⟩, ⟨(some 11), (.ld none (.t 2)), none, 4⟩, ⟨(some 12), (.mv (.t 0)), none, 4⟩, ⟨(some 13), (.ia 6 (.t 11) (.t 12)), none, 4⟩, ⟨(some 14), (.fa 4 (.t 13)), none, 4⟩, ⟨(some 15), (.ld none (.t 14)), none, 4⟩, ⟨(some 16), (.bin .gtr (.t 10) (.t 15)), none, 4⟩, ⟨(some 5), (.mv (.t 16)), none, 4⟩]) .ret)
def x56 : XFn := ⟨(.seq (.reg false [⟨(some 5), (.mv (.c (.bool false))), none, 0⟩]) x56_1), 17, [(.t 5)]⟩
theorem ok56 : FnOk Try.prog T 56 x56 := ⟨Try.f56, [.draw [0, 1, 2, 3, 4, 5, 6, 7, 8, 9, 10, 11] [4, 4, 4, 4, 4, 4, 4, 4, 4, 4, 4, 4]], Try.func56, by decide +kernel, by kernel_rfl⟩
/-- impl.RespectsTime -/
def x29_1 : XCode := (.cond (.t 14) (.seq (.reg false [⟨(some 4), (.mv (.c (.bool false))), none, 0⟩, ⟨(some 5), (.mv (.c (.bool false))), none, 0⟩]) .ret) .skip)
def x29_2 : XCode := (.seq (.reg false [⟨(some 15), (.mv (.t 1)), none, 0⟩, ⟨(some 16), (.mkF 56 [(.t 2)]), none, 0⟩, ⟨(some 17), (.call (.c (.fn 55 [])) [(.t 15), (.t 16)]), none, 0⟩, ⟨(some 4), (.mv (.t 17)), none, 0⟩, ⟨(some 5), (.mv (.c (.bool true))), none, 0⟩]) .ret)
def x29_3 : XCode := (.seq (.seq (.reg false [⟨(some 6), (.ld none (.t 2)), none, 0⟩, ⟨(some 7), (.call (.c (.fn 43 [])) [(.t 6)]), none, 0⟩, ⟨(some 8), (.un .not (.t 7)), none, 0⟩, ⟨(some 9), (.mv (.t 8)), none, 0⟩, ⟨(some 10), (.ld none (.t 2)), (some (9, false)), 0⟩, ⟨(some 11), (.mv (.t 1)), (some (9, false)), 0⟩, ⟨(some 12), (.call (.c (.fn 54 [])) [(.t 10), (.t 11)]), (some (9, false)), 0⟩, ⟨(some 13), (.un .not (.t 12)), (some (9, false)), 0⟩, ⟨(some 14), (.pick (.t 9) (.c (.bool true)) (.t 13)), none, 0⟩]) x29_1) x29_2)
def x29 : XFn := ⟨(.seq (.seq (.reg false [⟨(some 2), (.box 24 1 (.t 0)), none, 0⟩, ⟨(some 4), (.mv (.c (.bool false))), none, 0⟩, ⟨(some 5), (.mv (.c (.bool false))), none, 0⟩]) (.frz [2])) x29_3), 18, [(.t 4), (.t 5)]⟩
theorem ok29 : FnOk Try.prog T 29 x29 := ⟨Try.f29, [.frz [2]], Try.func29, by decide +kernel, by kernel_rfl⟩
/-- impl.IsLegal -/
def x31_1 : XCode := (.cond (.t 14) (.seq (.reg false [⟨(some 4), (.mv (.c (.bool false))), none, 0⟩, ⟨(some 5), (.mv (.c (.bool false))), none, 0⟩]) .ret) .skip)
def x31_2 : XCode := (.seq (.reg false [⟨(some 15), (.mv (.t 0)), none, 0⟩, ⟨(some 16), (.mv (.t 1)), none, 0⟩, ⟨(some 17), (.call (.c (.fn 58 [])) [(.t 15), (.t 16)]), none, 0⟩, ⟨(some 4), (.mv (.t 17)), none, 0⟩, ⟨(some 5), (.mv (.c (.bool true))), none, 0⟩]) .ret)
def x31_3 : XCode := (.seq (.seq (.reg false [⟨(some 6), (.mv (.t 0)), none, 0⟩, ⟨(some 7), (.call (.c (.fn 43 [])) [(.t 6)]), none, 0⟩, ⟨(some 8), (.un .not (.t 7)), none, 0⟩, ⟨(some 9), (.mv (.t 8)), none, 0⟩, ⟨(some 10), (.mv (.t 0)), (some (9, false)), 0⟩, ⟨(some 11), (.mv (.t 1)), (some (9, false)), 0⟩, ⟨(some 12), (.call (.c (.fn 54 [])) [(.t 10), (.t 11)]), (some (9, false)), 0⟩, ⟨(some 13), (.un .not (.t 12)), (some (9, false)), 0⟩, ⟨(some 14), (.pick (.t 9) (.c (.bool true)) (.t 13)), none, 0⟩]) x31_1) x31_2)
def x31 : XFn := ⟨(.seq (.reg false [⟨(some 4), (.mv (.c (.bool false))), none, 0⟩, ⟨(some 5), (.mv (.c (.bool false))), none, 0⟩]) x31_3), 18, [(.t 4), (.t 5)]⟩
theorem ok31 : FnOk Try.prog T 31 x31 := ⟨Try.f31, [], Try.func31, by decide +kernel, by kernel_rfl⟩
/-- spec.l1Cur).next -/
def x73_1 : XCode := (.reg true [⟨(some 14), (.mv (.t 0)), none, 4⟩, ⟨(some 15), (.chk (.t 14)), none, 4⟩, ⟨(some 16), (.fa 0 (.t 15)), none, 4⟩, ⟨(some 17), (.ld none (.t 16)), none, 4⟩, ⟨(some 18), (.mv (.t 0)), none, 4⟩, ⟨(some 19), (.chk (.t 18)), none, 4⟩, ⟨(some 20), (.fa 1 (.t 19)), none, 4⟩, ⟨(some 21), (.ld none (.t 20)), none, 4⟩, ⟨(some 22), (.ia 1 (.t 17) (.t 21)), none, 4⟩, ⟨(some 23), (.ld none (.t 22)), none, 4⟩, ⟨(some 24), (.cvt .i64 (.t 23)), none, 4⟩, ⟨(some 3), (.mv (.t 24)), none, 4⟩])
def x73_2 : XCode := (.cond (.t 13) x73_1 .skip)
def x73_3 : XCode := (.cond (.t 53) (.seq (.reg false [⟨(some 54), (.mv (.t 3)), none, 0⟩, ⟨(some 2), (.mv (.t 54)), none, 0⟩]) .ret) .skip)
def x73_4 : XCode := (.seq (.reg false [⟨(some 55), (.mv (.t 0)), none, 0⟩, ⟨(some 56), (.chk (.t 55)), none, 0⟩, ⟨(some 57), (.fa 2 (.t 56)), none, 0⟩, ⟨(some 58), (.ld none (.t 57)), none, 0⟩, ⟨(some 59), (.bin .shr (.t 58) (.c (.int .u64 40))), none, 0⟩, ⟨(some 60), (.bin .and (.t 59) (.c (.int .u64 255))), none, 0⟩, ⟨(some 61), (.cvt .i64 (.t 60)), none, 0⟩, ⟨(some 2), (.mv (.t 61)), none, 0⟩]) .ret)
def x73_5 : XCode := (.seq (.seq (.reg true [⟨(some 44), (.mv (.t 0)), none, 4⟩, ⟨(some 45), (.chk (.t 44)), none, 4⟩, ⟨(some 46), (.fa 1 (.t 45)), none, 4⟩, ⟨(some 47), (.ld none (.t 46)), none, 4⟩, ⟨(some 48), (.mv (.t 0)), none, 4⟩, ⟨(some 49), (.chk (.t 48)), none, 4⟩, ⟨(some 50), (.fa 0 (.t 49)), none, 4⟩, ⟨(some 51), (.ld none (.t 50)), none, 4⟩, ⟨(some 52), (.len (.t 51)), none, 4⟩, ⟨(some 53), (.bin .leq (.t 47) (.t 52)), none, 4⟩]) x73_3) x73_4)
def x73_6 : XCode := (.seq (.reg false [⟨(some 32), (.mv (.t 0)), none, 0⟩, ⟨(some 33), (.mv (.t 0)), none, 0⟩, ⟨(some 34), (.chk (.t 33)), none, 0⟩, ⟨(some 35), (.fa 2 (.t 34)), none, 0⟩, ⟨(some 36), (.ld none (.t 35)), none, 0⟩, ⟨(some 37), (.bin .mul (.t 36) (.c (.int .u64 6364136223846793005))), none, 0⟩, ⟨(some 38), (.mv (.t 3)), none, 0⟩, ⟨(some 39), (.cvt .u64 (.t 38)), none, 0⟩, ⟨(some 40), (.bin .add (.t 37) (.t 39)), none, 0⟩, ⟨(some 41), (.bin .add (.t 40) (.c (.int .u64 1442695040888963407))), none, 0⟩, ⟨(some 42), (.chk (.t 32)), none, 0⟩, ⟨(some 43), (.fa 2 (.t 42)), none, 0⟩, ⟨none, (.st 1 (.t 43) (.t 41)), none, 0⟩]) x73_5)
def x73_7 : XCode := (.seq (.reg false [⟨(some 25), (.mv (.t 0)), none, 0⟩, ⟨(some 26), (.chk (.t 25)), none, 0⟩, ⟨(some 27), (.fa 1 (.t 26)), none, 0⟩, ⟨(some 28), (.ld none (.t 27)), none, 0⟩, ⟨(some 29), (.bin .add (.t 28) (.c (.int .i64 1))), none, 0⟩, ⟨(some 30), (.chk (.t 25)), none, 0⟩, ⟨(some 31), (.fa 1 (.t 30)), none, 0⟩, ⟨none, (.st 1 (.t 31) (.t 29)), none, 0⟩]) x73_6)
def x73_8 : XCode := (.seq (.seq (.reg true [⟨(some 4), (.mv (.t 0)), none, 4⟩, ⟨(some 5), (.chk (.t 4)), none, 4⟩, ⟨(some 6), (.fa 1 (.t 5)), none, 4⟩, ⟨(some 7), (.ld none (.t 6)), none, 4⟩, ⟨(some 8), (.mv (.t 0)), none, 4⟩, ⟨(some 9), (.chk (.t 8)), none, 4⟩, ⟨(some 10), (.fa 0 (.t 9)), none, 4⟩, ⟨(some 11), (.ld none (.t 10)), none, 4⟩, ⟨(some 12), (.len (.t 11)), none, 4⟩, ⟨(some 13), (.bin .lss (.t 7) (.t 12)), none, 4⟩]) x73_2) x73_7)
def x73_9 : XCode := (.seq (.reg false [⟨(some 3), (.mv (.c (.int .i64 0))), none, 0⟩]) x73_8)
def x73 : XFn := ⟨(.seq (.reg false [⟨(some 2), (.mv (.c (.int .i64 0))), none, 0⟩]) x73_9), 62, [(.t 2)]⟩
theorem ok73 : FnOk Try.prog T 73 x73 := ⟨Try.f73, [.draw [0, 1, 2, 3, 4, 5, 6, 7, 8, 9] [4, 4, 4, 4, 4, 4, 4, 4, 4, 4], .draw [0, 1, 2, 3, 4, 5, 6, 7, 8, 9, 10, 11] [4, 4, 4, 4, 4, 4, 4, 4, 4, 4, 4, 4], .draw [0, 1, 2, 3, 4, 5, 6, 7, 8, 9] [4, 4, 4, 4, 4, 4, 4, 4, 4, 4]], Try.func73, by decide +kernel, by kernel_rfl⟩
/-- spec.l1Cur).pick -/
def x63_1 : XCode := (.reg false [⟨(some 12), (.mv (.t 5)), none, 0⟩, ⟨(some 13), (.bin .mul (.t 12) (.c (.int .i64 256))), none, 0⟩, ⟨(some 14), (.mv (.t 0)), none, 0⟩, ⟨(some 15), (.call (.c (.fn 73 [])) [(.t 14)]), none, 0⟩, ⟨(some 16), (.bin .add (.t 13) (.t 15)), none, 0⟩, ⟨(some 5), (.mv (.t 16)), none, 0⟩])
def x63_2 : XCode := (.cond (.t 11) x63_1 .skip)
def x63_3 : XCode := (.seq (.reg false [⟨(some 17), (.mv (.t 5)), none, 0⟩, ⟨(some 18), (.mv (.t 1)), none, 0⟩, ⟨(some 19), (.bin .rem (.t 17) (.t 18)), none, 0⟩, ⟨(some 4), (.mv (.t 19)), none, 0⟩]) .ret)
def x63_4 : XCode := (.seq (.seq (.reg false [⟨(some 10), (.mv (.t 1)), none, 0⟩, ⟨(some 11), (.bin .gtr (.t 10) (.c (.int .i64 200))), none, 0⟩]) x63_2) x63_3)
def x63_5 : XCode := (.seq (.reg false [⟨(some 8), (.mv (.t 0)), none, 0⟩, ⟨(some 9), (.call (.c (.fn 73 [])) [(.t 8)]), none, 0⟩, ⟨(some 5), (.mv (.t 9)), none, 0⟩]) x63_4)
def x63_6 : XCode := (.seq (.seq (.reg false [⟨(some 6), (.mv (.t 1)), none, 0⟩, ⟨(some 7), (.bin .leq (.t 6) (.c (.int .i64 1))), none, 0⟩]) (.cond (.t 7) (.seq (.reg false [⟨(some 4), (.mv (.c (.int .i64 0))), none, 0⟩]) .ret) .skip)) x63_5)
def x63 : XFn := ⟨(.seq (.reg false [⟨(some 4), (.mv (.c (.int .i64 0))), none, 0⟩]) x63_6), 20, [(.t 4)]⟩
theorem ok63 : FnOk Try.prog T 63 x63 := ⟨Try.f63, [], Try.func63, by decide +kernel, by kernel_rfl⟩
/-- spec.l1Cur).one -/
def x61_1 : XCode := (.seq (.reg false [⟨(some 5), (.mv (.t 0)), none, 0⟩, ⟨(some 6), (.mv (.t 1)), none, 0⟩, ⟨(some 7), (.call (.c (.fn 63 [])) [(.t 5), (.t 6)]), none, 0⟩, ⟨(some 8), (.bin .eql (.t 7) (.c (.int .i64 0))), none, 0⟩, ⟨(some 4), (.mv (.t 8)), none, 0⟩]) .ret)
def x61 : XFn := ⟨(.seq (.reg false [⟨(some 4), (.mv (.c (.bool false))), none, 0⟩]) x61_1), 9, [(.t 4)]⟩
theorem ok61 : FnOk Try.prog T 61 x61 := ⟨Try.f61, [], Try.func61, by decide +kernel, by kernel_rfl⟩
/-- spec.l1Cur).among -/
def x72_1 : XCode := (.seq (.reg false [⟨(some 5), (.mv (.t 1)), none, 0⟩, ⟨(some 6), (.mv (.t 0)), none, 0⟩, ⟨(some 7), (.mv (.t 1)), none, 0⟩, ⟨(some 8), (.len (.t 7)), none, 0⟩, ⟨(some 9), (.call (.c (.fn 63 [])) [(.t 6), (.t 8)]), none, 0⟩, ⟨(some 10), (.ia 1 (.t 5) (.t 9)), none, 0⟩, ⟨(some 11), (.ld none (.t 10)), none, 0⟩, ⟨(some 4), (.mv (.t 11)), none, 0⟩]) .ret)
def x72 : XFn := ⟨(.seq (.reg false [⟨(some 4), (.mv (.c (.int .i64 0))), none, 0⟩]) x72_1), 12, [(.t 4)]⟩
theorem ok72 : FnOk Try.prog T 72 x72 := ⟨Try.f72, [], Try.func72, by decide +kernel, by kernel_rfl⟩
/-- spec.l1Cur).calls -/
def x60_1 : XCode := (.reg false [⟨(some 15), (.mv (.t 0)), none, 0⟩, ⟨(some 16), (.call (.c (.fn 63 [])) [(.t 15), (.c (.int .i64 2))]), none, 0⟩, ⟨(some 17), (.bin .add (.c (.int .i64 7)) (.t 16)), none, 0⟩, ⟨(some 7), (.mv (.t 17)), none, 0⟩])
def x60_2 : XCode := (.cond (.t 14) x60_1 .skip)
def x60_3 : XCode := (.reg false [⟨(some 47), (.mv (.t 4)), none, 0⟩, ⟨(some 48), (.fa 0 (.t 8)), none, 0⟩, ⟨(some 49), (.ld none (.t 48)), none, 0⟩, ⟨(some 50), (.ia 1 (.t 47) (.t 49)), none, 0⟩, ⟨(some 51), (.ld none (.t 50)), none, 0⟩, ⟨(some 52), (.fa 4 (.t 8)), none, 0⟩, ⟨none, (.st 1 (.t 52) (.t 51)), none, 0⟩])
def x60_4 : XCode := (.cond (.t 46) x60_3 .skip)
def x60_5 : XCode := (.reg false [⟨(some 65), (.mv (.t 6)), none, 0⟩, ⟨(some 66), (.bin .add (.t 65) (.c (.int .i64 1))), none, 0⟩, ⟨(some 67), (.fa 5 (.t 8)), none, 0⟩, ⟨none, (.st 1 (.t 67) (.t 66)), none, 0⟩])
def x60_6 : XCode := (.seq (.reg false [⟨(some 63), (.fa 4 (.t 8)), none, 0⟩, ⟨(some 64), (.ld none (.t 63)), none, 0⟩, ⟨(some 6), (.mv (.t 64)), none, 0⟩]) x60_5)
def x60_7 : XCode := (.cond (.t 62) x60_6 .skip)
def x60_8 : XCode := (.reg false [⟨(some 80), (.mv (.t 5)), none, 0⟩, ⟨(some 81), (.fa 1 (.t 8)), none, 0⟩, ⟨(some 82), (.ld none (.t 81)), none, 0⟩, ⟨(some 83), (.fa 3 (.t 8)), none, 0⟩, ⟨(some 84), (.ld none (.t 83)), none, 0⟩, ⟨(some 85), (.ia 1 (.t 80) (.t 82)), none, 0⟩, ⟨none, (.st 1 (.t 85) (.t 84)), none, 0⟩])
def x60_9 : XCode := (.seq (.reg false [⟨(some 76), (.mv (.t 0)), none, 0⟩, ⟨(some 77), (.call (.c (.fn 63 [])) [(.t 76), (.c (.int .i64 4))]), none, 0⟩, ⟨(some 78), (.bin .add (.c (.int .i64 1)) (.t 77)), none, 0⟩, ⟨(some 79), (.fa 3 (.t 8)), none, 0⟩, ⟨none, (.st 1 (.t 79) (.t 78)), none, 0⟩]) x60_8)
def x60_10 : XCode := (.reg false [⟨(some 86), (.mv (.t 5)), none, 0⟩, ⟨(some 87), (.fa 1 (.t 8)), none, 0⟩, ⟨(some 88), (.ld none (.t 87)), none, 0⟩, ⟨(some 89), (.ia 1 (.t 86) (.t 88)), none, 0⟩, ⟨(some 90), (.ld none (.t 89)), none, 0⟩, ⟨(some 91), (.fa 3 (.t 8)), none, 0⟩, ⟨none, (.st 1 (.t 91) (.t 90)), none, 0⟩])
def x60_11 : XCode := (.cond (.t 75) x60_9 x60_10)
def x60_12 : XCode := (.reg false [⟨(some 99), (.fa 3 (.t 8)), none, 0⟩, ⟨(some 100), (.ld none (.t 99)), none, 0⟩, ⟨(some 101), (.bin .add (.t 100) (.c (.int .i64 1))), none, 0⟩, ⟨(some 102), (.fa 3 (.t 8)), none, 0⟩, ⟨none, (.st 1 (.t 102) (.t 101)), none, 0⟩])
def x60_13 : XCode := (.cond (.t 98) x60_12 .skip)
def x60_14 : XCode := (.seq (.reg false [⟨(some 97), (.fa 2 (.t 8)), none, 0⟩, ⟨(some 98), (.ld none (.t 97)), none, 0⟩]) x60_13)
def x60_15 : XCode := (.seq (.reg false [⟨(some 94), (.mv (.t 0)), none, 0⟩, ⟨(some 95), (.call (.c (.fn 63 [])) [(.t 94), (.c (.int .i64 5))]), none, 0⟩, ⟨(some 96), (.fa 3 (.t 8)), none, 0⟩, ⟨none, (.st 1 (.t 96) (.t 95)), none, 0⟩]) x60_14)
def x60_16 : XCode := (.cond (.t 93) x60_15 .skip)
def x60_17 : XCode := (.reg false [⟨(some 103), (.mv (.t 3)), none, 0⟩, ⟨(some 104), (.ld (some 6) (.t 8)), none, 0⟩, ⟨(some 105), (.buildS 55 1 [(.int .i64 0), (.int .i64 0), (.bool false), (.int .i64 0), (.int .i64 0), (.int .i64 0)] [(0, (6, (.t 104)))]), none, 0⟩, ⟨(some 106), (.app 55 6 48 (.t 103) (.t 105)), none, 0⟩, ⟨(some 3), (.mv (.t 106)), none, 0⟩])
def x60_18 : XCode := (.seq (.seq (.reg false [⟨(some 92), (.mv (.t 0)), none, 0⟩, ⟨(some 93), (.call (.c (.fn 61 [])) [(.t 92), (.c (.int .i64 8))]), none, 0⟩]) x60_16) x60_17)
def x60_19 : XCode := (.seq (.seq (.reg false [⟨(some 74), (.fa 2 (.t 8)), none, 0⟩, ⟨(some 75), (.ld none (.t 74)), none, 0⟩]) x60_11) x60_18)
def x60_20 : XCode := (.seq (.reg false [⟨(some 68), (.mv (.t 4)), none, 0⟩, ⟨(some 69), (.fa 0 (.t 8)), none, 0⟩, ⟨(some 70), (.ld none (.t 69)), none, 0⟩, ⟨(some 71), (.fa 5 (.t 8)), none, 0⟩, ⟨(some 72), (.ld none (.t 71)), none, 0⟩, ⟨(some 73), (.ia 1 (.t 68) (.t 70)), none, 0⟩, ⟨none, (.st 1 (.t 73) (.t 72)), none, 0⟩]) x60_19)
def x60_21 : XCode := (.seq (.seq (.reg false [⟨(some 59), (.fa 4 (.t 8)), none, 0⟩, ⟨(some 60), (.ld none (.t 59)), none, 0⟩, ⟨(some 61), (.mv (.t 6)), none, 0⟩, ⟨(some 62), (.bin .gtr (.t 60) (.t 61)), none, 0⟩]) x60_7) x60_20)
def x60_22 : XCode := (.seq (.reg false [⟨(some 53), (.mv (.t 6)), none, 0⟩, ⟨(some 54), (.bin .add (.t 53) (.c (.int .i64 1))), none, 0⟩, ⟨(some 55), (.mv (.t 0)), none, 0⟩, ⟨(some 56), (.call (.c (.fn 63 [])) [(.t 55), (.c (.int .i64 5))]), none, 0⟩, ⟨(some 57), (.bin .add (.t 54) (.t 56)), none, 0⟩, ⟨(some 58), (.fa 5 (.t 8)), none, 0⟩, ⟨none, (.st 1 (.t 58) (.t 57)), none, 0⟩]) x60_21)
def x60_23 : XCode := (.seq (.seq (.reg true [⟨(some 39), (.fa 4 (.t 8)), none, 4⟩, ⟨(some 40), (.ld none (.t 39)), none, 4⟩, ⟨(some 41), (.mv (.t 4)), none, 4⟩, ⟨(some 42), (.fa 0 (.t 8)), none, 4⟩, ⟨(some 43), (.ld none (.t 42)), none, 4⟩, ⟨(some 44), (.ia 1 (.t 41) (.t 43)), none, 4⟩, ⟨(some 45), (.ld none (.t 44)), none, 4⟩, ⟨(some 46), (.bin .lss (.t 40) (.t 45)), none, 4⟩]) x60_4) x60_22)
def x60_24 : XCode := (.seq (.reg false [⟨(some 34), (.mv (.t 6)), none, 0⟩, ⟨(some 35), (.mv (.t 0)), none, 0⟩, ⟨(some 36), (.call (.c (.fn 63 [])) [(.t 35), (.c (.int .i64 4))]), none, 0⟩, ⟨(some 37), (.bin .sub (.t 34) (.t 36)), none, 0⟩, ⟨(some 38), (.fa 4 (.t 8)), none, 0⟩, ⟨none, (.st 1 (.t 38) (.t 37)), none, 0⟩]) x60_23)
def x60_25 : XCode := (.seq (.reg false [⟨(some 27), (.mv (.t 0)), none, 0⟩, ⟨(some 28), (.call (.c (.fn 63 [])) [(.t 27), (.c (.int .i64 4))]), none, 0⟩, ⟨(some 29), (.mv (.t 0)), none, 0⟩, ⟨(some 30), (.call (.c (.fn 63 [])) [(.t 29), (.c (.int .i64 2))]), none, 0⟩, ⟨(some 31), (.mv (.t 0)), none, 0⟩, ⟨(some 32), (.call (.c (.fn 61 [])) [(.t 31), (.c (.int .i64 2))]), none, 0⟩, ⟨(some 33), (.build [(.int .i64 0), (.int .i64 0), (.bool false), (.int .i64 0), (.int .i64 0), (.int .i64 0)] [(0, (1, (.t 28))), (1, (1, (.t 30))), (2, (1, (.t 32)))]), none, 0⟩, ⟨(some 8), (.new 55 [(.int .i64 0), (.int .i64 0), (.bool false), (.int .i64 0), (.int .i64 0), (.int .i64 0)]), none, 0⟩, ⟨none, (.st 6 (.t 8) (.t 33)), none, 0⟩]) x60_24)
def x60_26 : XCode := (.seq (.reg false [⟨(some 22), (.mv (.t 6)), none, 0⟩, ⟨(some 23), (.mv (.t 0)), none, 0⟩, ⟨(some 24), (.call (.c (.fn 63 [])) [(.t 23), (.c (.int .i64 4))]), none, 0⟩, ⟨(some 25), (.bin .add (.c (.int .i64 1)) (.t 24)), none, 0⟩, ⟨(some 26), (.bin .add (.t 22) (.t 25)), none, 0⟩, ⟨(some 6), (.mv (.t 26)), none, 0⟩]) x60_25)
def x60_27 : XCode := (.seq (.block 1 x60_26) (.reg false [⟨(some 20), (.mv (.t 7)), none, 0⟩, ⟨(some 21), (.bin .sub (.t 20) (.c (.int .i64 1))), none, 0⟩, ⟨(some 7), (.mv (.t 21)), none, 0⟩]))
def x60_28 : XCode := (.seq (.seq (.reg false [⟨(some 18), (.mv (.t 7)), none, 0⟩, ⟨(some 19), (.bin .gtr (.t 18) (.c (.int .i64 0))), none, 0⟩]) (.cond (.t 19) .skip (.exit 0))) x60_27)
def x60_29 : XCode := (.block 0 (.loop [0, 3, 4, 5, 6, 7] x60_28))
def x60_30 : XCode := (.reg false [⟨(some 114), (.mv (.t 3)), none, 0⟩, ⟨(some 115), (.mv (.t 0)), none, 0⟩, ⟨(some 116), (.buildS 3 3 [(.int .i64 0), (.int .i64 0), (.int .i64 0)] [(0, (1, (.c (.int .i64 0)))), (1, (1, (.c (.int .i64 100)))), (2, (1, (.c (.int .i64 101))))]), none, 0⟩, ⟨(some 117), (.call (.c (.fn 72 [])) [(.t 115), (.t 116)]), none, 0⟩, ⟨(some 118), (.ia 6 (.t 114) (.c (.int .i64 0))), none, 0⟩, ⟨(some 119), (.fa 5 (.t 118)), none, 0⟩, ⟨none, (.st 1 (.t 119) (.t 117)), none, 0⟩])
def x60_31 : XCode := (.cond (.t 113) x60_30 .skip)
def x60_32 : XCode := (.seq (.seq (.reg false [⟨(some 107), (.mv (.t 3)), none, 0⟩, ⟨(some 108), (.len (.t 107)), none, 0⟩, ⟨(some 109), (.bin .gtr (.t 108) (.c (.int .i64 0))), none, 0⟩, ⟨(some 110), (.mv (.t 109)), none, 0⟩, ⟨(some 111), (.mv (.t 0)), (some (110, true)), 0⟩, ⟨(some 112), (.call (.c (.fn 61 [])) [(.t 111), (.c (.int .i64 30))]), (some (110, true)), 0⟩, ⟨(some 113), (.pick (.t 110) (.t 112) (.c (.bool false))), none, 0⟩]) x60_31) (.seq (.reg false [⟨(some 120), (.mv (.t 3)), none, 0⟩, ⟨(some 2), (.mv (.t 120)), none, 0⟩]) .ret))
def x60_33 : XCode := (.seq x60_29 x60_32)
def x60_34 : XCode := (.seq (.seq (.reg false [⟨(some 13), (.mv (.t 0)), none, 0⟩, ⟨(some 14), (.call (.c (.fn 61 [])) [(.t 13), (.c (.int .i64 20))]), none, 0⟩]) x60_2) x60_33)
def x60_35 : XCode := (.seq (.reg false [⟨(some 11), (.mv (.t 0)), none, 0⟩, ⟨(some 12), (.call (.c (.fn 63 [])) [(.t 11), (.c (.int .i64 8))]), none, 0⟩, ⟨(some 7), (.mv (.t 12)), none, 0⟩]) x60_34)
def x60_36 : XCode := (.seq (.reg false [⟨(some 6), (.mv (.c (.int .i64 0))), none, 0⟩]) x60_35)
def x60_37 : XCode := (.seq (.reg false [⟨(some 10), (.mkS 3 1 8 [(.int .i64 0)] (.c (.int .i64 3)) (.c (.int .i64 3))), none, 0⟩, ⟨(some 5), (.mv (.t 10)), none, 0⟩]) x60_36)
def x60_38 : XCode := (.seq (.reg false [⟨(some 9), (.mkS 3 1 8 [(.int .i64 0)] (.c (.int .i64 4)) (.c (.int .i64 4))), none, 0⟩, ⟨(some 4), (.mv (.t 9)), none, 0⟩]) x60_37)
def x60_39 : XCode := (.seq (.reg false [⟨(some 3), (.mv (.c .nil)), none, 0⟩]) x60_38)
def x60 : XFn := ⟨(.seq (.reg false [⟨(some 2), (.mv (.c .nil)), none, 0⟩]) x60_39), 121, [(.t 2)]⟩
theorem ok60 : FnOk Try.prog T 60 x60 := ⟨Try.f60, [.loop [0, 3, 4, 5, 6, 7], .draw [0, 1, 2, 3, 4, 5, 6, 7] [4, 4, 4, 4, 4, 4, 4, 4]], Try.func60, by decide +kernel, by kernel_rfl⟩
/-- spec.DrawGoodCalls -/
def x59_1 : XCode := (.seq (.reg false [⟨(some 4), (.mv (.t 0)), none, 0⟩, ⟨(some 5), (.build [.nil, (.int .i64 0), (.int .u64 0)] [(0, (1, (.t 4)))]), none, 0⟩, ⟨(some 6), (.box 72 3 (.t 5)), none, 0⟩, ⟨(some 3), (.mv (.t 6)), none, 0⟩]) (.seq (.reg false [⟨(some 7), (.mv (.t 3)), none, 0⟩, ⟨(some 8), (.call (.c (.fn 60 [])) [(.t 7)]), none, 0⟩, ⟨(some 2), (.mv (.t 8)), none, 0⟩]) .ret))
def x59 : XFn := ⟨(.seq (.reg false [⟨(some 2), (.mv (.c .nil)), none, 0⟩]) x59_1), 9, [(.t 2)]⟩
theorem ok59 : FnOk Try.prog T 59 x59 := ⟨Try.f59, [], Try.func59, by decide +kernel, by kernel_rfl⟩
/-- spec.DrawIsLinear -/

def x32 : XFn := ⟨(.seq (.reg false [⟨(some 2), (.mv (.c .nil)), none, 0⟩]) (.seq (.reg false [⟨(some 3), (.mv (.t 0)), none, 0⟩, ⟨(some 4), (.call (.c (.fn 59 [])) [(.t 3)]), none, 0⟩, ⟨(some 2), (.mv (.t 4)), none, 0⟩]) .ret)), 5, [(.t 2)]⟩
theorem ok32 : FnOk Try.prog T 32 x32 := ⟨Try.f32, [], Try.func32, by decide +kernel, by kernel_rfl⟩
/-- impl.OverlapsIn -/
def x33_1 : XCode := (.cond (.t 11) (.seq (.reg false [⟨(some 2), (.mv (.c (.int .i64 0))), none, 0⟩, ⟨(some 3), (.mv (.c (.bool false))), none, 0⟩]) .ret) .skip)
def x33_2 : XCode := (.cond (.t 38) (.reg false [⟨(some 39), (.mv (.t 4)), none, 0⟩, ⟨(some 40), (.bin .add (.t 39) (.c (.int .i64 1))), none, 0⟩, ⟨(some 4), (.mv (.t 40)), none, 0⟩]) .skip)
def x33_3 : XCode := (.seq (.reg false [⟨(some 27), (.fa 4 (.t 6)), none, 0⟩, ⟨(some 28), (.ld none (.t 27)), none, 0⟩, ⟨(some 29), (.fa 5 (.t 8)), none, 0⟩, ⟨(some 30), (.ld none (.t 29)), none, 0⟩, ⟨(some 31), (.bin .lss (.t 28) (.t 30)), none, 0⟩, ⟨(some 32), (.mv (.t 31)), none, 0⟩, ⟨(some 33), (.fa 4 (.t 8)), (some (32, true)), 0⟩, ⟨(some 34), (.ld none (.t 33)), (some (32, true)), 0⟩, ⟨(some 35), (.fa 5 (.t 6)), (some (32, true)), 0⟩, ⟨(some 36), (.ld none (.t 35)), (some (32, true)), 0⟩, ⟨(some 37), (.bin .lss (.t 34) (.t 36)), (some (32, true)), 0⟩, ⟨(some 38), (.pick (.t 32) (.t 37) (.c (.bool false))), none, 0⟩]) x33_2)
def x33_4 : XCode := (.seq (.seq (.reg false [⟨(some 25), (.ia 6 (.t 21) (.t 23)), none, 0⟩, ⟨(some 26), (.ld (some 6) (.t 25)), none, 0⟩, ⟨(some 8), (.new 55 [(.int .i64 0), (.int .i64 0), (.bool false), (.int .i64 0), (.int .i64 0), (.int .i64 0)]), none, 0⟩, ⟨none, (.st 6 (.t 8) (.t 26)), none, 0⟩]) (.frz [8])) x33_3)
def x33_5 : XCode := (.block 2 (.loop [0, 4, 6, 12, 13, 14, 21, 22, 23] (.seq (.reg false [⟨(some 24), (.bin .lss (.t 23) (.t 22)), none, 0⟩]) (.seq (.cond (.t 24) .skip (.exit 2)) (.seq (.block 3 x33_4) (.reg false [⟨(some 41), (.bin .add (.t 23) (.c (.int .i64 1))), none, 0⟩, ⟨(some 23), (.mv (.t 41)), none, 0⟩]))))))
def x33_6 : XCode := x33_5
def x33_7 : XCode := (.seq (.reg false [⟨(some 19), (.mv (.t 0)), none, 0⟩, ⟨(some 20), (.mv (.t 5)), none, 0⟩, ⟨(some 21), (.slc 55 6 (.t 19) none (some (.t 20)) none), none, 0⟩, ⟨(some 22), (.len (.t 21)), none, 0⟩, ⟨(some 23), (.mv (.c (.int .i64 0))), none, 0⟩]) x33_6)
def x33_8 : XCode := (.seq (.seq (.reg false [⟨(some 16), (.mv (.t 14)), none, 0⟩, ⟨(some 17), (.ia 6 (.t 12) (.t 14)), none, 0⟩, ⟨(some 18), (.ld (some 6) (.t 17)), none, 0⟩, ⟨(some 6), (.new 55 [(.int .i64 0), (.int .i64 0), (.bool false), (.int .i64 0), (.int .i64 0), (.int .i64 0)]), none, 0⟩, ⟨(some 5), (.mv (.t 16)), none, 0⟩, ⟨none, (.st 6 (.t 6) (.t 18)), none, 0⟩]) (.frz [6])) x33_7)
def x33_9 : XCode := (.block 0 (.loop [0, 4, 12, 13, 14] (.seq (.reg false [⟨(some 15), (.bin .lss (.t 14) (.t 13)), none, 0⟩]) (.seq (.cond (.t 15) .skip (.exit 0)) (.seq (.block 1 x33_8) (.reg false [⟨(some 42), (.bin .add (.t 14) (.c (.int .i64 1))), none, 0⟩, ⟨(some 14), (.mv (.t 42)), none, 0⟩]))))))
def x33_10 : XCode := x33_9
def x33_11 : XCode := (.seq (.seq (.reg false [⟨(some 12), (.mv (.t 0)), none, 0⟩, ⟨(some 13), (.len (.t 12)), none, 0⟩, ⟨(some 14), (.mv (.c (.int .i64 0))), none, 0⟩]) x33_10) (.seq (.reg false [⟨(some 43), (.mv (.t 4)), none, 0⟩, ⟨(some 2), (.mv (.t 43)), none, 0⟩, ⟨(some 3), (.mv (.c (.bool true))), none, 0⟩]) .ret))
def x33_12 : XCode := (.seq (.reg false [⟨(some 4), (.mv (.c (.int .i64 0))), none, 0⟩]) x33_11)
def x33_13 : XCode := (.seq (.seq (.reg false [⟨(some 9), (.mv (.t 0)), none, 0⟩, ⟨(some 10), (.call (.c (.fn 43 [])) [(.t 9)]), none, 0⟩, ⟨(some 11), (.un .not (.t 10)), none, 0⟩]) x33_1) x33_12)
def x33 : XFn := ⟨(.seq (.reg false [⟨(some 2), (.mv (.c (.int .i64 0))), none, 0⟩, ⟨(some 3), (.mv (.c (.bool false))), none, 0⟩]) x33_13), 44, [(.t 2), (.t 3)]⟩
theorem ok33 : FnOk Try.prog T 33 x33 := ⟨Try.f33, [.loop [0, 4, 12, 13, 14], .frz [], .frz [6], .loop [0, 4, 6, 12, 13, 14, 21, 22, 23], .frz [], .frz [8]], Try.func33, by decide +kernel, by kernel_rfl⟩
/-- spec.OverlapsIn -/
def x34_1 : XCode := (.cond (.t 11) (.seq (.reg false [⟨(some 2), (.mv (.c (.int .i64 0))), none, 0⟩, ⟨(some 3), (.mv (.c (.bool false))), none, 0⟩]) .ret) .skip)
def x34_2 : XCode := (.cond (.t 38) (.reg false [⟨(some 39), (.mv (.t 4)), none, 0⟩, ⟨(some 40), (.bin .add (.t 39) (.c (.int .i64 1))), none, 0⟩, ⟨(some 4), (.mv (.t 40)), none, 0⟩]) .skip)
def x34_3 : XCode := (.seq (.reg false [⟨(some 27), (.fa 4 (.t 6)), none, 0⟩, ⟨(some 28), (.ld none (.t 27)), none, 0⟩, ⟨(some 29), (.fa 5 (.t 8)), none, 0⟩, ⟨(some 30), (.ld none (.t 29)), none, 0⟩, ⟨(some 31), (.bin .lss (.t 28) (.t 30)), none, 0⟩, ⟨(some 32), (.mv (.t 31)), none, 0⟩, ⟨(some 33), (.fa 4 (.t 8)), (some (32, true)), 0⟩, ⟨(some 34), (.ld none (.t 33)), (some (32, true)), 0⟩, ⟨(some 35), (.fa 5 (.t 6)), (some (32, true)), 0⟩, ⟨(some 36), (.ld none (.t 35)), (some (32, true)), 0⟩, ⟨(some 37), (.bin .lss (.t 34) (.t 36)), (some (32, true)), 0⟩, ⟨(some 38), (.pick (.t 32) (.t 37) (.c (.bool false))), none, 0⟩]) x34_2)
def x34_4 : XCode := (.seq (.seq (.reg false [⟨(some 25), (.ia 6 (.t 21) (.t 23)), none, 0⟩, ⟨(some 26), (.ld (some 6) (.t 25)), none, 0⟩, ⟨(some 8), (.new 55 [(.int .i64 0), (.int .i64 0), (.bool false), (.int .i64 0), (.int .i64 0), (.int .i64 0)]), none, 0⟩, ⟨none, (.st 6 (.t 8) (.t 26)), none, 0⟩]) (.frz [8])) x34_3)
def x34_5 : XCode := (.block 2 (.loop [0, 4, 6, 12, 13, 14, 21, 22, 23] (.seq (.reg false [⟨(some 24), (.bin .lss (.t 23) (.t 22)), none, 0⟩]) (.seq (.cond (.t 24) .skip (.exit 2)) (.seq (.block 3 x34_4) (.reg false [⟨(some 41), (.bin .add (.t 23) (.c (.int .i64 1))), none, 0⟩, ⟨(some 23), (.mv (.t 41)), none, 0⟩]))))))
def x34_6 : XCode := x34_5
def x34_7 : XCode := (.seq (.reg false [⟨(some 19), (.mv (.t 0)), none, 0⟩, ⟨(some 20), (.mv (.t 5)), none, 0⟩, ⟨(some 21), (.slc 55 6 (.t 19) none (some (.t 20)) none), none, 0⟩, ⟨(some 22), (.len (.t 21)), none, 0⟩, ⟨(some 23), (.mv (.c (.int .i64 0))), none, 0⟩]) x34_6)
def x34_8 : XCode := (.seq (.seq (.reg false [⟨(some 16), (.mv (.t 14)), none, 0⟩, ⟨(some 17), (.ia 6 (.t 12) (.t 14)), none, 0⟩, ⟨(some 18), (.ld (some 6) (.t 17)), none, 0⟩, ⟨(some 6), (.new 55 [(.int .i64 0), (.int .i64 0), (.bool false), (.int .i64 0), (.int .i64 0), (.int .i64 0)]), none, 0⟩, ⟨(some 5), (.mv (.t 16)), none, 0⟩, ⟨none, (.st 6 (.t 6) (.t 18)), none, 0⟩]) (.frz [6])) x34_7)
def x34_9 : XCode := (.block 0 (.loop [0, 4, 12, 13, 14] (.seq (.reg false [⟨(some 15), (.bin .lss (.t 14) (.t 13)), none, 0⟩]) (.seq (.cond (.t 15) .skip (.exit 0)) (.seq (.block 1 x34_8) (.reg false [⟨(some 42), (.bin .add (.t 14) (.c (.int .i64 1))), none, 0⟩, ⟨(some 14), (.mv (.t 42)), none, 0⟩]))))))
def x34_10 : XCode := x34_9
def x34_11 : XCode := (.seq (.seq (.reg false [⟨(some 12), (.mv (.t 0)), none, 0⟩, ⟨(some 13), (.len (.t 12)), none, 0⟩, ⟨(some 14), (.mv (.c (.int .i64 0))), none, 0⟩]) x34_10) (.seq (.reg false [⟨(some 43), (.mv (.t 4)), none, 0⟩, ⟨(some 2), (.mv (.t 43)), none, 0⟩, ⟨(some 3), (.mv (.c (.bool true))), none, 0⟩]) .ret))
def x34_12 : XCode := (.seq (.reg false [⟨(some 4), (.mv (.c (.int .i64 0))), none, 0⟩]) x34_11)
def x34_13 : XCode := (.seq (.seq (.reg false [⟨(some 9), (.mv (.t 0)), none, 0⟩, ⟨(some 10), (.call (.c (.fn 40 [])) [(.t 9)]), none, 0⟩, ⟨(some 11), (.un .not (.t 10)), none, 0⟩]) x34_1) x34_12)
def x34 : XFn := ⟨(.seq (.reg false [⟨(some 2), (.mv (.c (.int .i64 0))), none, 0⟩, ⟨(some 3), (.mv (.c (.bool false))), none, 0⟩]) x34_13), 44, [(.t 2), (.t 3)]⟩
theorem ok34 : FnOk Try.prog T 34 x34 := ⟨Try.f34, [.loop [0, 4, 12, 13, 14], .frz [], .frz [6], .loop [0, 4, 6, 12, 13, 14, 21, 22, 23], .frz [], .frz [8]], Try.func34, by decide +kernel, by kernel_rfl⟩
/-- laws.sameInts -/
def x35_1 : XCode := (.seq (.reg true [⟨(some 16), (.mv (.t 0)), none, 4⟩, ⟨(some 17), (.mv (.t 5)), none, 4⟩, ⟨(some 18), (.ia 1 (.t 16) (.t 17)), none, 4⟩, ⟨(some 19), (.ld none (.t 18)), none, 4⟩, ⟨(some 20), (.mv (.t 1)), none, 4⟩, ⟨(some 21), (.mv (.t 5)), none, 4⟩, ⟨(some 22), (.ia 1 (.t 20) (.t 21)), none, 4⟩, ⟨(some 23), (.ld none (.t 22)), none, 4⟩, ⟨(some 24), (.bin .neq (.t 19) (.t 23)), none, 4⟩]) (.cond (.t 24) (.seq (.reg false [⟨(some 4), (.mv (.c (.bool false))), none, 0⟩]) .ret) .skip))
def x35_2 : XCode := (.seq (.reg false [⟨(some 15), (.mv (.t 13)), none, 0⟩, ⟨(some 5), (.mv (.t 15)), none, 0⟩]) x35_1)
def x35_3 : XCode := (.block 0 (.loop [0, 1, 12, 13] (.seq (.reg false [⟨(some 14), (.bin .lss (.t 13) (.t 12)), none, 0⟩]) (.seq (.cond (.t 14) .skip (.exit 0)) (.seq (.block 1 x35_2) (.reg false [⟨(some 25), (.bin .add (.t 13) (.c (.int .i64 1))), none, 0⟩, ⟨(some 13), (.mv (.t 25)), none, 0⟩]))))))
def x35_4 : XCode := x35_3
def x35_5 : XCode := (.seq (.seq (.reg false [⟨(some 11), (.mv (.t 0)), none, 0⟩, ⟨(some 12), (.len (.t 11)), none, 0⟩, ⟨(some 13), (.mv (.c (.int .i64 0))), none, 0⟩]) x35_4) (.seq (.reg false [⟨(some 4), (.mv (.c (.bool true))), none, 0⟩]) .ret))
def x35_6 : XCode := (.seq (.seq (.reg false [⟨(some 6), (.mv (.t 0)), none, 0⟩, ⟨(some 7), (.len (.t 6)), none, 0⟩, ⟨(some 8), (.mv (.t 1)), none, 0⟩, ⟨(some 9), (.len (.t 8)), none, 0⟩, ⟨(some 10), (.bin .neq (.t 7) (.t 9)), none, 0⟩]) (.cond (.t 10) (.seq (.reg false [⟨(some 4), (.mv (.c (.bool false))), none, 0⟩]) .ret) .skip)) x35_5)
def x35 : XFn := ⟨(.seq (.reg false [⟨(some 4), (.mv (.c (.bool false))), none, 0⟩]) x35_6), 26, [(.t 4)]⟩
theorem ok35 : FnOk Try.prog T 35 x35 := ⟨Try.f35, [.loop [0, 1, 12, 13], .draw [0, 1, 2, 3, 4, 5, 6, 7, 8] [4, 4, 4, 4, 4, 4, 4, 4, 4]], Try.func35, by decide +kernel, by kernel_rfl⟩
/-- impl.GoodCalls -/

def x36 : XFn := ⟨(.seq (.reg false [⟨(some 2), (.mv (.c (.bool false))), none, 0⟩]) (.seq (.reg false [⟨(some 3), (.mv (.t 0)), none, 0⟩, ⟨(some 4), (.call (.c (.fn 43 [])) [(.t 3)]), none, 0⟩, ⟨(some 2), (.mv (.t 4)), none, 0⟩]) .ret)), 5, [(.t 2)]⟩
theorem ok36 : FnOk Try.prog T 36 x36 := ⟨Try.f36, [], Try.func36, by decide +kernel, by kernel_rfl⟩
/-- laws.FnLinear -/
def x9_1 : XCode := (.seq (.reg false [⟨(some 122), (.mv (.t 12)), none, 0⟩, ⟨(some 123), (.len (.t 122)), none, 0⟩, ⟨(some 124), (.bin .eql (.t 123) (.c (.int .i64 0))), none, 0⟩, ⟨(some 2), (.mv (.t 124)), none, 0⟩]) .ret)
def x9_2 : XCode := (.cond (.t 121) x9_1 .skip)
def x9_3 : XCode := (.seq (.reg false [⟨(some 148), (.mv (.t 21)), none, 0⟩, ⟨(some 149), (.un .not (.t 148)), none, 0⟩, ⟨(some 150), (.mv (.t 149)), none, 0⟩, ⟨(some 151), (.mv (.t 20)), (some (150, false)), 0⟩, ⟨(some 152), (.un .not (.t 151)), (some (150, false)), 0⟩, ⟨(some 153), (.pick (.t 150) (.c (.bool true)) (.t 152)), none, 0⟩, ⟨(some 154), (.mv (.t 153)), none, 0⟩, ⟨(some 155), (.mv (.t 23)), (some (154, false)), 0⟩, ⟨(some 156), (.un .not (.t 155)), (some (154, false)), 0⟩, ⟨(some 157), (.pick (.t 154) (.c (.bool true)) (.t 156)), none, 0⟩, ⟨(some 158), (.mv (.t 157)), none, 0⟩, ⟨(some 159), (.mv (.t 22)), (some (158, false)), 0⟩, ⟨(some 160), (.un .not (.t 159)), (some (158, false)), 0⟩, ⟨(some 161), (.pick (.t 158) (.c (.bool true)) (.t 160)), none, 0⟩]) (.cond (.t 161) (.seq (.reg false [⟨(some 2), (.mv (.c (.bool false))), none, 0⟩]) .ret) .skip))
def x9_4 : XCode := (.seq (.reg false [⟨(some 143), (.mv (.t 3)), none, 0⟩, ⟨(some 144), (.mv (.t 12)), none, 0⟩, ⟨(some 145), (.call (.c (.fn 29 [])) [(.t 143), (.t 144)]), none, 0⟩, ⟨(some 142), (.mv (.t 145)), none, 0⟩, ⟨(some 146), (.ext (.t 142) 0), none, 0⟩, ⟨(some 147), (.ext (.t 142) 1), none, 0⟩, ⟨(some 22), (.mv (.t 146)), none, 0⟩, ⟨(some 23), (.mv (.t 147)), none, 0⟩]) x9_3)
def x9_5 : XCode := (.seq (.reg false [⟨(some 137), (.mv (.t 3)), none, 0⟩, ⟨(some 138), (.mv (.t 12)), none, 0⟩, ⟨(some 139), (.call (.c (.fn 31 [])) [(.t 137), (.t 138)]), none, 0⟩, ⟨(some 136), (.mv (.t 139)), none, 0⟩, ⟨(some 140), (.ext (.t 136) 0), none, 0⟩, ⟨(some 141), (.ext (.t 136) 1), none, 0⟩, ⟨(some 20), (.mv (.t 140)), none, 0⟩, ⟨(some 21), (.mv (.t 141)), none, 0⟩]) x9_4)
def x9_6 : XCode := (.cond (.t 135) x9_5 .skip)
def x9_7 : XCode := (.reg false [⟨(some 183), (.mv (.t 24)), none, 0⟩, ⟨(some 184), (.mv (.t 183)), none, 0⟩, ⟨(some 185), (.mv (.t 28)), (some (184, true)), 0⟩, ⟨(some 186), (.pick (.t 184) (.t 185) (.c (.bool false))), none, 0⟩, ⟨(some 24), (.mv (.t 186)), none, 0⟩])
def x9_8 : XCode := (.seq (.seq (.reg false [⟨(some 177), (.mv (.t 27)), none, 0⟩, ⟨(some 178), (.un .not (.t 177)), none, 0⟩, ⟨(some 179), (.mv (.t 178)), none, 0⟩, ⟨(some 180), (.mv (.t 29)), (some (179, false)), 0⟩, ⟨(some 181), (.un .not (.t 180)), (some (179, false)), 0⟩, ⟨(some 182), (.pick (.t 179) (.c (.bool true)) (.t 181)), none, 0⟩]) (.cond (.t 182) (.seq (.reg false [⟨(some 2), (.mv (.c (.bool false))), none, 0⟩]) .ret) .skip)) x9_7)
def x9_9 : XCode := (.seq (.reg false [⟨(some 173), (.mv (.t 26)), none, 0⟩, ⟨(some 174), (.call (.c (.fn 21 [])) [(.t 173)]), none, 0⟩, ⟨(some 172), (.mv (.t 174)), none, 0⟩, ⟨(some 175), (.ext (.t 172) 0), none, 0⟩, ⟨(some 176), (.ext (.t 172) 1), none, 0⟩, ⟨(some 28), (.mv (.t 175)), none, 0⟩, ⟨(some 29), (.mv (.t 176)), none, 0⟩]) x9_8)
def x9_10 : XCode := (.seq (.reg false [⟨(some 167), (.mv (.t 3)), none, 0⟩, ⟨(some 168), (.mv (.t 25)), none, 0⟩, ⟨(some 169), (.call (.c (.fn 14 [])) [(.t 167), (.t 168)]), none, 0⟩, ⟨(some 166), (.mv (.t 169)), none, 0⟩, ⟨(some 170), (.ext (.t 166) 0), none, 0⟩, ⟨(some 171), (.ext (.t 166) 1), none, 0⟩, ⟨(some 26), (.mv (.t 170)), none, 0⟩, ⟨(some 27), (.mv (.t 171)), none, 0⟩]) x9_9)
def x9_11 : XCode := (.seq (.block 1 x9_10) (.reg false [⟨(some 164), (.mv (.t 25)), none, 0⟩, ⟨(some 165), (.bin .add (.t 164) (.c (.int .i64 1))), none, 0⟩, ⟨(some 25), (.mv (.t 165)), none, 0⟩]))
def x9_12 : XCode := (.seq (.seq (.reg false [⟨(some 162), (.mv (.t 25)), none, 0⟩, ⟨(some 163), (.bin .lss (.t 162) (.c (.int .i64 3))), none, 0⟩]) (.cond (.t 163) .skip (.exit 0))) x9_11)
def x9_13 : XCode := (.block 0 (.loop [3, 4, 24, 25] x9_12))
def x9_14 : XCode := x9_13
def x9_15 : XCode := (.seq (.reg false [⟨(some 187), (.mv (.t 24)), none, 0⟩, ⟨(some 188), (.mv (.t 4)), none, 0⟩, ⟨(some 189), (.eqb false (.t 187) (.t 188)), none, 0⟩, ⟨(some 2), (.mv (.t 189)), none, 0⟩]) .ret)
def x9_16 : XCode := (.seq (.seq (.reg false [⟨(some 25), (.mv (.c (.int .i64 0))), none, 0⟩]) x9_14) x9_15)
def x9_17 : XCode := (.seq (.reg false [⟨(some 24), (.mv (.c (.bool true))), none, 0⟩]) x9_16)
def x9_18 : XCode := (.seq (.seq (.reg false [⟨(some 135), (.mv (.t 13)), none, 0⟩]) x9_6) x9_17)
def x9_19 : XCode := (.seq (.seq (.reg false [⟨(some 125), (.mv (.t 4)), none, 0⟩, ⟨(some 126), (.mv (.t 125)), none, 0⟩, ⟨(some 127), (.mv (.t 8)), (some (126, true)), 0⟩, ⟨(some 128), (.un .not (.t 127)), (some (126, true)), 0⟩, ⟨(some 129), (.pick (.t 126) (.t 128) (.c (.bool false))), none, 0⟩, ⟨(some 130), (.mv (.t 129)), none, 0⟩, ⟨(some 131), (.mv (.t 4)), (some (130, false)), 0⟩, ⟨(some 132), (.mv (.t 13)), (some (130, false)), 0⟩, ⟨(some 133), (.eqb true (.t 131) (.t 132)), (some (130, false)), 0⟩, ⟨(some 134), (.pick (.t 130) (.c (.bool true)) (.t 133)), none, 0⟩]) (.cond (.t 134) (.seq (.reg false [⟨(some 2), (.mv (.c (.bool false))), none, 0⟩]) .ret) .skip)) x9_18)
def x9_20 : XCode := (.seq (.seq (.reg false [⟨(some 120), (.mv (.t 5)), none, 0⟩, ⟨(some 121), (.un .not (.t 120)), none, 0⟩]) x9_2) x9_19)
def x9_21 : XCode := (.seq (.seq (.reg false [⟨(some 75), (.mv (.t 5)), none, 0⟩, ⟨(some 76), (.mv (.t 7)), none, 0⟩, ⟨(some 77), (.eqb true (.t 75) (.t 76)), none, 0⟩, ⟨(some 78), (.mv (.t 77)), none, 0⟩, ⟨(some 79), (.mv (.t 4)), (some (78, false)), 0⟩, ⟨(some 80), (.mv (.t 6)), (some (78, false)), 0⟩, ⟨(some 81), (.eqb true (.t 79) (.t 80)), (some (78, false)), 0⟩, ⟨(some 82), (.pick (.t 78) (.c (.bool true)) (.t 81)), none, 0⟩, ⟨(some 83), (.mv (.t 82)), none, 0⟩, ⟨(some 84), (.mv (.t 9)), (some (83, false)), 0⟩, ⟨(some 85), (.mv (.t 11)), (some (83, false)), 0⟩, ⟨(some 86), (.eqb true (.t 84) (.t 85)), (some (83, false)), 0⟩, ⟨(some 87), (.pick (.t 83) (.c (.bool true)) (.t 86)), none, 0⟩, ⟨(some 88), (.mv (.t 87)), none, 0⟩, ⟨(some 89), (.mv (.t 8)), (some (88, false)), 0⟩, ⟨(some 90), (.mv (.t 10)), (some (88, false)), 0⟩, ⟨(some 91), (.eqb true (.t 89) (.t 90)), (some (88, false)), 0⟩, ⟨(some 92), (.pick (.t 88) (.c (.bool true)) (.t 91)), none, 0⟩, ⟨(some 93), (.mv (.t 92)), none, 0⟩, ⟨(some 94), (.mv (.t 13)), (some (93, false)), 0⟩, ⟨(some 95), (.mv (.t 15)), (some (93, false)), 0⟩, ⟨(some 96), (.eqb true (.t 94) (.t 95)), (some (93, false)), 0⟩, ⟨(some 97), (.pick (.t 93) (.c (.bool true)) (.t 96)), none, 0⟩, ⟨(some 98), (.mv (.t 97)), none, 0⟩, ⟨(some 99), (.mv (.t 12)), (some (98, false)), 0⟩, ⟨(some 100), (.mv (.t 14)), (some (98, false)), 0⟩, ⟨(some 101), (.call (.c (.fn 35 [])) [(.t 99), (.t 100)]), (some (98, false)), 0⟩, ⟨(some 102), (.un .not (.t 101)), (some (98, false)), 0⟩, ⟨(some 103), (.pick (.t 98) (.c (.bool true)) (.t 102)), none, 0⟩, ⟨(some 104), (.mv (.t 103)), none, 0⟩, ⟨(some 105), (.mv (.t 17)), (some (104, false)), 0⟩, ⟨(some 106), (.mv (.t 19)), (some (104, false)), 0⟩, ⟨(some 107), (.eqb true (.t 105) (.t 106)), (some (104, false)), 0⟩, ⟨(some 108), (.pick (.t 104) (.c (.bool true)) (.t 107)), none, 0⟩, ⟨(some 109), (.mv (.t 108)), none, 0⟩, ⟨(some 110), (.mv (.t 16)), (some (109, false)), 0⟩, ⟨(some 111), (.mv (.t 18)), (some (109, false)), 0⟩, ⟨(some 112), (.bin .neq (.t 110) (.t 111)), (some (109, false)), 0⟩, ⟨(some 113), (.pick (.t 109) (.c (.bool true)) (.t 112)), none, 0⟩, ⟨(some 114), (.mv (.t 113)), none, 0⟩, ⟨(some 115), (.mv (.t 3)), (some (114, false)), 0⟩, ⟨(some 116), (.call (.c (.fn 36 [])) [(.t 115)]), (some (114, false)), 0⟩, ⟨(some 117), (.mv (.t 7)), (some (114, false)), 0⟩, ⟨(some 118), (.eqb true (.t 116) (.t 117)), (some (114, false)), 0⟩, ⟨(some 119), (.pick (.t 114) (.c (.bool true)) (.t 118)), none, 0⟩]) (.cond (.t 119) (.seq (.reg false [⟨(some 2), (.mv (.c (.bool false))), none, 0⟩]) .ret) .skip)) x9_20)
def x9_22 : XCode := (.seq (.reg false [⟨(some 71), (.mv (.t 3)), none, 0⟩, ⟨(some 72), (.call (.c (.fn 34 [])) [(.t 71)]), none, 0⟩, ⟨(some 70), (.mv (.t 72)), none, 0⟩, ⟨(some 73), (.ext (.t 70) 0), none, 0⟩, ⟨(some 74), (.ext (.t 70) 1), none, 0⟩, ⟨(some 18), (.mv (.t 73)), none, 0⟩, ⟨(some 19), (.mv (.t 74)), none, 0⟩]) x9_21)
def x9_23 : XCode := (.seq (.reg false [⟨(some 66), (.mv (.t 3)), none, 0⟩, ⟨(some 67), (.call (.c (.fn 33 [])) [(.t 66)]), none, 0⟩, ⟨(some 65), (.mv (.t 67)), none, 0⟩, ⟨(some 68), (.ext (.t 65) 0), none, 0⟩, ⟨(some 69), (.ext (.t 65) 1), none, 0⟩, ⟨(some 16), (.mv (.t 68)), none, 0⟩, ⟨(some 17), (.mv (.t 69)), none, 0⟩]) x9_22)
def x9_24 : XCode := (.seq (.reg false [⟨(some 61), (.mv (.t 3)), none, 0⟩, ⟨(some 62), (.call (.c (.fn 22 [])) [(.t 61)]), none, 0⟩, ⟨(some 60), (.mv (.t 62)), none, 0⟩, ⟨(some 63), (.ext (.t 60) 0), none, 0⟩, ⟨(some 64), (.ext (.t 60) 1), none, 0⟩, ⟨(some 14), (.mv (.t 63)), none, 0⟩, ⟨(some 15), (.mv (.t 64)), none, 0⟩]) x9_23)
def x9_25 : XCode := (.seq (.reg false [⟨(some 56), (.mv (.t 3)), none, 0⟩, ⟨(some 57), (.call (.c (.fn 23 [])) [(.t 56)]), none, 0⟩, ⟨(some 55), (.mv (.t 57)), none, 0⟩, ⟨(some 58), (.ext (.t 55) 0), none, 0⟩, ⟨(some 59), (.ext (.t 55) 1), none, 0⟩, ⟨(some 12), (.mv (.t 58)), none, 0⟩, ⟨(some 13), (.mv (.t 59)), none, 0⟩]) x9_24)
def x9_26 : XCode := (.seq (.reg false [⟨(some 51), (.mv (.t 3)), none, 0⟩, ⟨(some 52), (.call (.c (.fn 18 [])) [(.t 51)]), none, 0⟩, ⟨(some 50), (.mv (.t 52)), none, 0⟩, ⟨(some 53), (.ext (.t 50) 0), none, 0⟩, ⟨(some 54), (.ext (.t 50) 1), none, 0⟩, ⟨(some 10), (.mv (.t 53)), none, 0⟩, ⟨(some 11), (.mv (.t 54)), none, 0⟩]) x9_25)
def x9_27 : XCode := (.seq (.reg false [⟨(some 46), (.mv (.t 3)), none, 0⟩, ⟨(some 47), (.call (.c (.fn 19 [])) [(.t 46)]), none, 0⟩, ⟨(some 45), (.mv (.t 47)), none, 0⟩, ⟨(some 48), (.ext (.t 45) 0), none, 0⟩, ⟨(some 49), (.ext (.t 45) 1), none, 0⟩, ⟨(some 8), (.mv (.t 48)), none, 0⟩, ⟨(some 9), (.mv (.t 49)), none, 0⟩]) x9_26)
def x9_28 : XCode := (.seq (.reg false [⟨(some 41), (.mv (.t 3)), none, 0⟩, ⟨(some 42), (.call (.c (.fn 20 [])) [(.t 41)]), none, 0⟩, ⟨(some 40), (.mv (.t 42)), none, 0⟩, ⟨(some 43), (.ext (.t 40) 0), none, 0⟩, ⟨(some 44), (.ext (.t 40) 1), none, 0⟩, ⟨(some 6), (.mv (.t 43)), none, 0⟩, ⟨(some 7), (.mv (.t 44)), none, 0⟩]) x9_27)
def x9_29 : XCode := (.seq (.reg false [⟨(some 36), (.mv (.t 3)), none, 0⟩, ⟨(some 37), (.call (.c (.fn 21 [])) [(.t 36)]), none, 0⟩, ⟨(some 35), (.mv (.t 37)), none, 0⟩, ⟨(some 38), (.ext (.t 35) 0), none, 0⟩, ⟨(some 39), (.ext (.t 35) 1), none, 0⟩, ⟨(some 4), (.mv (.t 38)), none, 0⟩, ⟨(some 5), (.mv (.t 39)), none, 0⟩]) x9_28)
def x9_30 : XCode := (.seq (.reg false [⟨(some 33), (.mv (.t 0)), none, 0⟩, ⟨(some 34), (.call (.c (.fn 32 [])) [(.t 33)]), none, 0⟩, ⟨(some 3), (.mv (.t 34)), none, 0⟩]) x9_29)
def x9_31 : XCode := (.seq (.seq (.reg false [⟨(some 30), (.mv (.t 0)), none, 0⟩, ⟨(some 31), (.len (.t 30)), none, 0⟩, ⟨(some 32), (.bin .gtr (.t 31) (.c (.int .i64 1048576))), none, 0⟩]) (.cond (.t 32) (.seq (.reg false [⟨(some 2), (.mv (.c (.bool true))), none, 0⟩]) .ret) .skip)) x9_30)
def x9 : XFn := ⟨(.seq (.reg false [⟨(some 2), (.mv (.c (.bool false))), none, 0⟩]) x9_31), 190, [(.t 2)]⟩
theorem ok9 : FnOk Try.prog T 9 x9 := ⟨Try.f9, [.loop [3, 4, 24, 25]], Try.func9, by decide +kernel, by kernel_rfl⟩
def fl : List (Nat × XFn) := [(44, x44), (43, x43), (65, x65), (45, x45), (46, x46), (14, x14), (41, x41), (64, x64), (40, x40), (53, x53), (57, x57), (66, x66), (48, x48), (18, x18), (55, x55), (58, x58), (74, x74), (68, x68), (67, x67), (49, x49), (50, x50), (19, x19), (20, x20), (69, x69), (51, x51), (21, x21), (22, x22), (23, x23), (93, x93), (83, x83), (77, x77), (86, x86), (87, x87), (76, x76), (89, x89), (75, x75), (70, x70), (71, x71), (54, x54), (56, x56), (29, x29), (31, x31), (73, x73), (63, x63), (61, x61), (72, x72), (60, x60), (59, x59), (32, x32), (33, x33), (34, x34), (35, x35), (36, x36), (9, x9)]
theorem fl_ok : ∀ p ∈ fl, FnOk Try.prog T p.1 p.2 := by
  simp only [fl, List.forall_mem_cons]
  exact ⟨ok44, ok43, ok65, ok45, ok46, ok14, ok41, ok64, ok40, ok53, ok57, ok66, ok48, ok18, ok55, ok58, ok74, ok68, ok67, ok49, ok50, ok19, ok20, ok69, ok51, ok21, ok22, ok23, ok93, ok83, ok77, ok86, ok87, ok76, ok89, ok75, ok70, ok71, ok54, ok56, ok29, ok31, ok73, ok63, ok61, ok72, ok60, ok59, ok32, ok33, ok34, ok35, ok36, ok9, fun _ h => by cases h⟩
def roL : List Nat := [9, 18, 19, 20, 21, 29, 31, 33, 34, 35, 36, 40, 41, 43, 44, 46, 50, 53, 54, 55, 56, 57, 58, 64, 65, 66, 68, 69, 71, 74, 76, 83, 86, 87, 89, 93]
def mkL : List Nat := [14, 22, 23, 32, 49, 59]
def coL : List Nat := [51]
def modeF (n : Nat) : Nat := if roL.contains n then 1 else if mkL.contains n then 2 else if coL.contains n then 3 else 0
def E : Env := ⟨fnsL fl, modeF, szL tl⟩
end Go.Proofs.Ytddkoiapboeemaa.X
