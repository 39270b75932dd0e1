/- The seat's types and functions as X has them; the kernel checks each against the program. -/
import Derived.Test.YtddkoiapboeemaaXSS
set_option linter.unusedVariables false
set_option linter.unusedSimpArgs false
set_option maxRecDepth 100000
namespace Go.Proofs.Ytddkoiapboeemaa.X
open Go
def tl : List (Nat × TI) := [(1, ⟨.other, 1, 8, [.nilfn]⟩),
  (2, ⟨(.int .i64), 1, 8, [(.int .i64 0)]⟩),
  (3, ⟨(.int .i64), 1, 8, [(.int .i64 0)]⟩),
  (4, ⟨.bool, 1, 1, [(.bool false)]⟩),
  (5, ⟨(.int .u8), 1, 1, [(.int .u8 0)]⟩),
  (6, ⟨(.int .u8), 1, 1, [(.int .u8 0)]⟩),
  (7, ⟨(.struct [(0, 2), (1, 3), (2, 4), (3, 6)]), 4, 24, [(.int .i64 0), (.int .i64 0), (.bool false), (.int .u8 0)]⟩),
  (8, ⟨(.struct [(0, 2), (1, 3), (2, 4), (3, 6)]), 4, 24, [(.int .i64 0), (.int .i64 0), (.bool false), (.int .u8 0)]⟩),
  (9, ⟨.str, 1, 16, [(.str (ByteArray.mk #[]))]⟩),
  (10, ⟨.str, 1, 16, [(.str (ByteArray.mk #[]))]⟩),
  (11, ⟨.str, 1, 16, [(.str (ByteArray.mk #[]))]⟩),
  (12, ⟨(.int .u64), 1, 8, [(.int .u64 0)]⟩),
  (15, ⟨.ptr, 1, 8, [.nilptr]⟩),
  (16, ⟨.ptr, 1, 8, [.nilptr]⟩),
  (17, ⟨.ptr, 1, 8, [.nilptr]⟩),
  (21, ⟨(.int .i32), 1, 4, [(.int .i32 0)]⟩),
  (22, ⟨(.slice 57), 1, 24, [.nil]⟩),
  (23, ⟨.other, 1, 8, [.nilfn]⟩),
  (24, ⟨(.slice 55), 1, 24, [.nil]⟩),
  (26, ⟨.other, 1, 8, [.nilfn]⟩),
  (27, ⟨.other, 1, 8, [.nilfn]⟩),
  (28, ⟨.other, 1, 8, [.nilfn]⟩),
  (29, ⟨.other, 1, 8, [.nilfn]⟩),
  (30, ⟨.other, 1, 8, [.nilfn]⟩),
  (32, ⟨.other, 1, 8, [.nilfn]⟩),
  (33, ⟨.other, 1, 8, [.nilfn]⟩),
  (34, ⟨(.slice 3), 1, 24, [.nil]⟩),
  (36, ⟨.other, 1, 8, [.nilfn]⟩),
  (37, ⟨.other, 1, 8, [.nilfn]⟩),
  (38, ⟨.other, 1, 8, [.nilfn]⟩),
  (39, ⟨.other, 1, 8, [.nilfn]⟩),
  (40, ⟨.other, 1, 8, [.nilfn]⟩),
  (41, ⟨.other, 1, 8, [.nilfn]⟩),
  (42, ⟨(.slice 5), 1, 24, [.nil]⟩),
  (43, ⟨.other, 1, 8, [.nilfn]⟩),
  (45, ⟨.other, 1, 8, [.nilfn]⟩),
  (46, ⟨.other, 1, 8, [.nilfn]⟩),
  (47, ⟨.other, 1, 8, [.nilfn]⟩),
  (49, ⟨.other, 1, 8, [.nilfn]⟩),
  (51, ⟨.other, 1, 8, [.nilfn]⟩),
  (52, ⟨.other, 1, 8, [.nilfn]⟩),
  (53, ⟨.other, 1, 8, [.nilfn]⟩),
  (54, ⟨(.struct [(0, 3), (1, 3), (2, 4), (3, 3), (4, 3), (5, 3)]), 6, 48, [(.int .i64 0), (.int .i64 0), (.bool false), (.int .i64 0), (.int .i64 0), (.int .i64 0)]⟩),
  (55, ⟨(.struct [(0, 3), (1, 3), (2, 4), (3, 3), (4, 3), (5, 3)]), 6, 48, [(.int .i64 0), (.int .i64 0), (.bool false), (.int .i64 0), (.int .i64 0), (.int .i64 0)]⟩),
  (56, ⟨.other, 1, 8, [.nilfn]⟩),
  (57, ⟨(.struct [(0, 3), (1, 3), (2, 4), (3, 3), (4, 3), (5, 3)]), 6, 48, [(.int .i64 0), (.int .i64 0), (.bool false), (.int .i64 0), (.int .i64 0), (.int .i64 0)]⟩),
  (58, ⟨.other, 1, 8, [.nilfn]⟩),
  (59, ⟨.other, 1, 8, [.nilfn]⟩),
  (60, ⟨.other, 1, 8, [.nilfn]⟩),
  (61, ⟨.other, 1, 8, [.nilfn]⟩),
  (62, ⟨.other, 1, 8, [.nilfn]⟩),
  (63, ⟨.other, 1, 8, [.nilfn]⟩),
  (64, ⟨.other, 1, 8, [.nilfn]⟩),
  (65, ⟨.other, 1, 8, [.nilfn]⟩),
  (66, ⟨.other, 1, 8, [.nilfn]⟩),
  (67, ⟨.other, 1, 8, [.nilfn]⟩),
  (68, ⟨.other, 1, 8, [.nilfn]⟩),
  (69, ⟨.ptr, 1, 8, [.nilptr]⟩),
  (70, ⟨(.int .u64), 1, 8, [(.int .u64 0)]⟩),
  (71, ⟨(.struct [(0, 42), (1, 3), (2, 70)]), 3, 40, [.nil, (.int .i64 0), (.int .u64 0)]⟩),
  (72, ⟨(.struct [(0, 42), (1, 3), (2, 70)]), 3, 40, [.nil, (.int .i64 0), (.int .u64 0)]⟩),
  (73, ⟨.other, 1, 8, [.nilfn]⟩),
  (74, ⟨.other, 1, 8, [.nilfn]⟩),
  (75, ⟨.other, 1, 8, [.nilfn]⟩),
  (76, ⟨.other, 1, 8, [.nilfn]⟩),
  (77, ⟨.other, 1, 8, [.nilfn]⟩),
  (78, ⟨.other, 1, 8, [.nilfn]⟩),
  (79, ⟨.other, 1, 8, [.nilfn]⟩),
  (80, ⟨.other, 1, 8, [.nilfn]⟩),
  (81, ⟨(.array 3 3), 3, 24, [(.int .i64 0), (.int .i64 0), (.int .i64 0)]⟩),
  (82, ⟨.other, 1, 8, [.nilfn]⟩),
  (83, ⟨.other, 1, 8, [.nilfn]⟩),
  (84, ⟨.other, 1, 8, [.nilfn]⟩),
  (85, ⟨.other, 1, 8, [.nilfn]⟩),
  (86, ⟨(.int .u64), 1, 8, [(.int .u64 0)]⟩),
  (87, ⟨.other, 1, 8, [.nilfn]⟩),
  (88, ⟨(.int .i64), 1, 8, [(.int .i64 0)]⟩),
  (90, ⟨.other, 1, 8, [.nilfn]⟩),
  (91, ⟨.other, 1, 8, [.nilfn]⟩),
  (92, ⟨.other, 1, 8, [.nilfn]⟩),
  (93, ⟨.other, 1, 8, [.nilfn]⟩),
  (94, ⟨.other, 1, 8, [.nilfn]⟩),
  (95, ⟨(.int .u32), 1, 4, [(.int .u32 0)]⟩),
  (96, ⟨.other, 1, 8, [.nilfn]⟩),
  (97, ⟨(.int .u64), 1, 8, [(.int .u64 0)]⟩),
  (98, ⟨.other, 1, 8, [.nilfn]⟩),
  (99, ⟨.other, 1, 8, [.nilfn]⟩),
  (100, ⟨.other, 1, 8, [.nilfn]⟩),
  (101, ⟨.ptr, 1, 8, [.nilptr]⟩),
  (102, ⟨.other, 1, 8, [.nilfn]⟩),
  (103, ⟨.ptr, 1, 8, [.nilptr]⟩),
  (105, ⟨.other, 1, 8, [.nilfn]⟩),
  (106, ⟨.other, 1, 8, [.nilfn]⟩),
  (109, ⟨(.array 0 16), 0, 0, []⟩),
  (112, ⟨(.int .u8), 1, 1, [(.int .u8 0)]⟩),
  (113, ⟨(.int .u8), 1, 1, [(.int .u8 0)]⟩),
  (114, ⟨.other, 1, 8, [.nilfn]⟩),
  (115, ⟨.ptr, 1, 8, [.nilptr]⟩),
  (116, ⟨(.int .i32), 1, 4, [(.int .i32 0)]⟩),
  (117, ⟨(.int .i32), 1, 4, [(.int .i32 0)]⟩)]
abbrev T : Tab := tabL tl
theorem tl_ok : ∀ p ∈ tl, tabOf Try.prog p.1 = some p.2 := by
  simp only [tl, List.forall_mem_cons]
  exact ⟨by kernel_rfl, by kernel_rfl, by kernel_rfl, by kernel_rfl, by kernel_rfl, by kernel_rfl, by kernel_rfl, by kernel_rfl, by kernel_rfl, by kernel_rfl, by kernel_rfl, by kernel_rfl, by kernel_rfl, by kernel_rfl, by kernel_rfl, by kernel_rfl, by kernel_rfl, by kernel_rfl, by kernel_rfl, by kernel_rfl, by kernel_rfl, by kernel_rfl, by kernel_rfl, by kernel_rfl, by kernel_rfl, by kernel_rfl, by kernel_rfl, by kernel_rfl, by kernel_rfl, by kernel_rfl, by kernel_rfl, by kernel_rfl, by kernel_rfl, by kernel_rfl, by kernel_rfl, by kernel_rfl, by kernel_rfl, by kernel_rfl, by kernel_rfl, by kernel_rfl, by kernel_rfl, by kernel_rfl, by kernel_rfl, by kernel_rfl, by kernel_rfl, by kernel_rfl, by kernel_rfl, by kernel_rfl, by kernel_rfl, by kernel_rfl, by kernel_rfl, by kernel_rfl, by kernel_rfl, by kernel_rfl, by kernel_rfl, by kernel_rfl, by kernel_rfl, by kernel_rfl, by kernel_rfl, by kernel_rfl, by kernel_rfl, by kernel_rfl, by kernel_rfl, by kernel_rfl, by kernel_rfl, by kernel_rfl, by kernel_rfl, by kernel_rfl, by kernel_rfl, by kernel_rfl, by kernel_rfl, by kernel_rfl, by kernel_rfl, by kernel_rfl, by kernel_rfl, by kernel_rfl, by kernel_rfl, by kernel_rfl, by kernel_rfl, by kernel_rfl, by kernel_rfl, by kernel_rfl, by kernel_rfl, by kernel_rfl, by kernel_rfl, by kernel_rfl, by kernel_rfl, by kernel_rfl, by kernel_rfl, by kernel_rfl, by kernel_rfl, by kernel_rfl, by kernel_rfl, by kernel_rfl, by kernel_rfl, by kernel_rfl, by kernel_rfl, by kernel_rfl, by kernel_rfl, by kernel_rfl, fun _ h => by cases h⟩
/-- laws.szCallS -/
def x11_1 : XCode := (.seq (.seq (.reg false [⟨(some 9), (.mv (.t 1)), none, 0⟩, ⟨(some 10), (.bin .lss (.t 9) (.c (.int .i64 0))), none, 0⟩]) (.cond (.t 10) (.seq (.reg false [⟨(some 4), (.mv (.c (.int .i64 (-1)))), none, 0⟩]) .ret) .skip)) (.seq (.reg false [⟨(some 11), (.mv (.t 1)), none, 0⟩, ⟨(some 4), (.mv (.t 11)), none, 0⟩]) .ret))
def x11_2 : XCode := (.seq (.reg false [⟨(some 5), (.mv (.t 1)), none, 0⟩, ⟨(some 6), (.mv (.t 0)), none, 0⟩, ⟨(some 7), (.len (.t 6)), none, 0⟩, ⟨(some 8), (.bin .sub (.t 5) (.t 7)), none, 0⟩, ⟨(some 1), (.mv (.t 8)), none, 0⟩]) x11_1)
def x11 : XFn := ⟨(.seq (.reg false [⟨(some 4), (.mv (.c (.int .i64 0))), none, 0⟩]) x11_2), 12, [(.t 4)]⟩
theorem ok11 : FnOk Try.prog T 11 x11 := ⟨Try.f11, [], Try.func11, by decide +kernel, by kernel_rfl⟩
/-- spec.l1In -/
def x41_1 : XCode := (.seq (.reg false [⟨(some 7), (.mv (.t 0)), none, 0⟩, ⟨(some 8), (.mv (.t 1)), none, 0⟩, ⟨(some 9), (.bin .geq (.t 7) (.t 8)), none, 0⟩, ⟨(some 10), (.mv (.t 9)), none, 0⟩, ⟨(some 11), (.mv (.t 0)), (some (10, true)), 0⟩, ⟨(some 12), (.mv (.t 2)), (some (10, true)), 0⟩, ⟨(some 13), (.bin .leq (.t 11) (.t 12)), (some (10, true)), 0⟩, ⟨(some 14), (.pick (.t 10) (.t 13) (.c (.bool false))), none, 0⟩, ⟨(some 6), (.mv (.t 14)), none, 0⟩]) .ret)
def x41 : XFn := ⟨(.seq (.reg false [⟨(some 6), (.mv (.c (.bool false))), none, 0⟩]) x41_1), 15, [(.t 6)]⟩
theorem ok41 : FnOk Try.prog T 41 x41 := ⟨Try.f41, [], Try.func41, by decide +kernel, by kernel_rfl⟩
/-- spec.l15Call -/
def x64_1 : XCode := (.seq (.reg false [⟨(some 3), (.fa 0 (.t 1)), none, 0⟩, ⟨(some 4), (.ld none (.t 3)), none, 0⟩, ⟨(some 5), (.call (.c (.fn 41 [])) [(.t 4), (.c (.int .i64 0)), (.c (.int .i64 3))]), none, 0⟩, ⟨(some 6), (.mv (.t 5)), none, 0⟩, ⟨(some 7), (.fa 1 (.t 1)), (some (6, true)), 0⟩, ⟨(some 8), (.ld none (.t 7)), (some (6, true)), 0⟩, ⟨(some 9), (.call (.c (.fn 41 [])) [(.t 8), (.c (.int .i64 0)), (.c (.int .i64 2))]), (some (6, true)), 0⟩, ⟨(some 10), (.pick (.t 6) (.t 9) (.c (.bool false))), none, 0⟩, ⟨(some 11), (.mv (.t 10)), none, 0⟩, ⟨(some 12), (.fa 3 (.t 1)), (some (11, true)), 0⟩, ⟨(some 13), (.ld none (.t 12)), (some (11, true)), 0⟩, ⟨(some 14), (.call (.c (.fn 41 [])) [(.t 13), (.c (.int .i64 0)), (.c (.int .i64 9))]), (some (11, true)), 0⟩, ⟨(some 15), (.pick (.t 11) (.t 14) (.c (.bool false))), none, 0⟩, ⟨(some 16), (.mv (.t 15)), none, 0⟩, ⟨(some 17), (.fa 2 (.t 1)), (some (16, true)), 0⟩, ⟨(some 18), (.ld none (.t 17)), (some (16, true)), 0⟩, ⟨(some 19), (.un .not (.t 18)), (some (16, true)), 0⟩, ⟨(some 20), (.mv (.t 19)), (some (16, true)), 0⟩, ⟨(some 21), (.fa 3 (.t 1)), (some (20, false)), 0⟩, ⟨(some 22), (.ld none (.t 21)), (some (20, false)), 0⟩, ⟨(some 23), (.bin .gtr (.t 22) (.c (.int .i64 0))), (some (20, false)), 0⟩, ⟨(some 24), (.pick (.t 20) (.c (.bool true)) (.t 23)), (some (16, true)), 0⟩, ⟨(some 25), (.pick (.t 16) (.t 24) (.c (.bool false))), none, 0⟩, ⟨(some 26), (.mv (.t 25)), none, 0⟩, ⟨(some 27), (.fa 4 (.t 1)), (some (26, true)), 0⟩, ⟨(some 28), (.ld none (.t 27)), (some (26, true)), 0⟩, ⟨(some 29), (.call (.c (.fn 41 [])) [(.t 28), (.c (.int .i64 0)), (.c (.int .i64 100))]), (some (26, true)), 0⟩, ⟨(some 30), (.pick (.t 26) (.t 29) (.c (.bool false))), none, 0⟩, ⟨(some 31), (.mv (.t 30)), none, 0⟩, ⟨(some 32), (.fa 5 (.t 1)), (some (31, true)), 0⟩, ⟨(some 33), (.ld none (.t 32)), (some (31, true)), 0⟩, ⟨(some 34), (.call (.c (.fn 41 [])) [(.t 33), (.c (.int .i64 0)), (.c (.int .i64 100))]), (some (31, true)), 0⟩, ⟨(some 35), (.pick (.t 31) (.t 34) (.c (.bool false))), none, 0⟩, ⟨(some 36), (.mv (.t 35)), none, 0⟩, ⟨(some 37), (.fa 4 (.t 1)), (some (36, true)), 0⟩, ⟨(some 38), (.ld none (.t 37)), (some (36, true)), 0⟩, ⟨(some 39), (.fa 5 (.t 1)), (some (36, true)), 0⟩, ⟨(some 40), (.ld none (.t 39)), (some (36, true)), 0⟩, ⟨(some 41), (.bin .lss (.t 38) (.t 40)), (some (36, true)), 0⟩, ⟨(some 42), (.pick (.t 36) (.t 41) (.c (.bool false))), none, 0⟩, ⟨(some 2), (.mv (.t 42)), none, 0⟩]) .ret)
def x64 : XFn := ⟨(.seq (.seq (.reg false [⟨(some 1), (.box 55 6 (.t 0)), none, 0⟩, ⟨(some 2), (.mv (.c (.bool false))), none, 0⟩]) (.frz [1])) x64_1), 43, [(.t 2)]⟩
theorem ok64 : FnOk Try.prog T 64 x64 := ⟨Try.f64, [.frz [1]], Try.func64, by decide +kernel, by kernel_rfl⟩
/-- spec.GoodCalls -/
def x40_1 : XCode := (.seq (.reg false [⟨(some 25), (.fa 0 (.t 6)), none, 0⟩, ⟨(some 26), (.ld none (.t 25)), none, 0⟩, ⟨(some 27), (.fa 0 (.t 4)), none, 0⟩, ⟨(some 28), (.ld none (.t 27)), none, 0⟩, ⟨(some 29), (.bin .eql (.t 26) (.t 28)), none, 0⟩, ⟨(some 30), (.mv (.t 29)), none, 0⟩, ⟨(some 31), (.fa 5 (.t 6)), (some (30, true)), 0⟩, ⟨(some 32), (.ld none (.t 31)), (some (30, true)), 0⟩, ⟨(some 33), (.fa 4 (.t 4)), (some (30, true)), 0⟩, ⟨(some 34), (.ld none (.t 33)), (some (30, true)), 0⟩, ⟨(some 35), (.bin .gtr (.t 32) (.t 34)), (some (30, true)), 0⟩, ⟨(some 36), (.pick (.t 30) (.t 35) (.c (.bool false))), none, 0⟩, ⟨(some 37), (.mv (.t 36)), none, 0⟩, ⟨(some 38), (.fa 5 (.t 4)), (some (37, true)), 0⟩, ⟨(some 39), (.ld none (.t 38)), (some (37, true)), 0⟩, ⟨(some 40), (.fa 4 (.t 6)), (some (37, true)), 0⟩, ⟨(some 41), (.ld none (.t 40)), (some (37, true)), 0⟩, ⟨(some 42), (.bin .gtr (.t 39) (.t 41)), (some (37, true)), 0⟩, ⟨(some 43), (.pick (.t 37) (.t 42) (.c (.bool false))), none, 0⟩]) (.cond (.t 43) (.seq (.reg false [⟨(some 2), (.mv (.c (.bool false))), none, 0⟩]) .ret) .skip))
def x40_2 : XCode := (.seq (.seq (.reg false [⟨(some 23), (.ia 6 (.t 19) (.t 21)), none, 0⟩, ⟨(some 24), (.ld (some 6) (.t 23)), none, 0⟩, ⟨(some 6), (.new 55 [(.int .i64 0), (.int .i64 0), (.bool false), (.int .i64 0), (.int .i64 0), (.int .i64 0)]), none, 0⟩, ⟨none, (.st 6 (.t 6) (.t 24)), none, 0⟩]) (.frz [6])) x40_1)
def x40_3 : XCode := (.block 2 (.loop [0, 4, 7, 8, 9, 19, 20, 21] (.seq (.reg false [⟨(some 22), (.bin .lss (.t 21) (.t 20)), none, 0⟩]) (.seq (.cond (.t 22) .skip (.exit 2)) (.seq (.block 3 x40_2) (.reg false [⟨(some 44), (.bin .add (.t 21) (.c (.int .i64 1))), none, 0⟩, ⟨(some 21), (.mv (.t 44)), none, 0⟩]))))))
def x40_4 : XCode := x40_3
def x40_5 : XCode := (.seq (.reg false [⟨(some 17), (.mv (.t 0)), none, 0⟩, ⟨(some 18), (.mv (.t 3)), none, 0⟩, ⟨(some 19), (.slc 55 6 (.t 17) none (some (.t 18)) none), none, 0⟩, ⟨(some 20), (.len (.t 19)), none, 0⟩, ⟨(some 21), (.mv (.c (.int .i64 0))), none, 0⟩]) x40_4)
def x40_6 : XCode := (.seq (.seq (.reg false [⟨(some 14), (.ld (some 6) (.t 4)), none, 0⟩, ⟨(some 15), (.call (.c (.fn 64 [])) [(.t 14)]), none, 0⟩, ⟨(some 16), (.un .not (.t 15)), none, 0⟩]) (.cond (.t 16) (.seq (.reg false [⟨(some 2), (.mv (.c (.bool false))), none, 0⟩]) .ret) .skip)) x40_5)
def x40_7 : XCode := (.seq (.seq (.reg false [⟨(some 11), (.mv (.t 9)), none, 0⟩, ⟨(some 12), (.ia 6 (.t 7) (.t 9)), none, 0⟩, ⟨(some 13), (.ld (some 6) (.t 12)), none, 0⟩, ⟨(some 4), (.new 55 [(.int .i64 0), (.int .i64 0), (.bool false), (.int .i64 0), (.int .i64 0), (.int .i64 0)]), none, 0⟩, ⟨(some 3), (.mv (.t 11)), none, 0⟩, ⟨none, (.st 6 (.t 4) (.t 13)), none, 0⟩]) (.frz [4])) x40_6)
def x40_8 : XCode := (.block 0 (.loop [0, 7, 8, 9] (.seq (.reg false [⟨(some 10), (.bin .lss (.t 9) (.t 8)), none, 0⟩]) (.seq (.cond (.t 10) .skip (.exit 0)) (.seq (.block 1 x40_7) (.reg false [⟨(some 45), (.bin .add (.t 9) (.c (.int .i64 1))), none, 0⟩, ⟨(some 9), (.mv (.t 45)), none, 0⟩]))))))
def x40_9 : XCode := x40_8
def x40_10 : XCode := (.seq (.reg false [⟨(some 46), (.mv (.t 0)), none, 0⟩, ⟨(some 47), (.len (.t 46)), none, 0⟩, ⟨(some 48), (.bin .leq (.t 47) (.c (.int .i64 7))), none, 0⟩, ⟨(some 2), (.mv (.t 48)), none, 0⟩]) .ret)
def x40_11 : XCode := (.seq (.seq (.reg false [⟨(some 7), (.mv (.t 0)), none, 0⟩, ⟨(some 8), (.len (.t 7)), none, 0⟩, ⟨(some 9), (.mv (.c (.int .i64 0))), none, 0⟩]) x40_9) x40_10)
def x40 : XFn := ⟨(.seq (.reg false [⟨(some 2), (.mv (.c (.bool false))), none, 0⟩]) x40_11), 49, [(.t 2)]⟩
theorem ok40 : FnOk Try.prog T 40 x40 := ⟨Try.f40, [.loop [0, 7, 8, 9], .frz [], .frz [4], .loop [0, 4, 7, 8, 9, 19, 20, 21], .frz [], .frz [6]], Try.func40, by decide +kernel, by kernel_rfl⟩
/-- spec.OnObject -/
def x12_1 : XCode := (.cond (.t 16) (.seq (.reg false [⟨(some 4), (.mv (.c .nil)), none, 0⟩, ⟨(some 5), (.mv (.c (.bool false))), none, 0⟩]) .ret) .skip)
def x12_2 : XCode := (.reg false [⟨(some 27), (.mv (.t 6)), none, 0⟩, ⟨(some 28), (.ld (some 6) (.t 8)), none, 0⟩, ⟨(some 29), (.buildS 55 1 [(.int .i64 0), (.int .i64 0), (.bool false), (.int .i64 0), (.int .i64 0), (.int .i64 0)] [(0, (6, (.t 28)))]), none, 0⟩, ⟨(some 30), (.app 55 6 48 (.t 27) (.t 29)), none, 0⟩, ⟨(some 6), (.mv (.t 30)), none, 0⟩])
def x12_3 : XCode := (.cond (.t 26) x12_2 .skip)
def x12_4 : XCode := (.seq (.reg false [⟨(some 23), (.fa 1 (.t 8)), none, 0⟩, ⟨(some 24), (.ld none (.t 23)), none, 0⟩, ⟨(some 25), (.mv (.t 1)), none, 0⟩, ⟨(some 26), (.bin .eql (.t 24) (.t 25)), none, 0⟩]) x12_3)
def x12_5 : XCode := (.seq (.seq (.reg false [⟨(some 21), (.ia 6 (.t 17) (.t 19)), none, 0⟩, ⟨(some 22), (.ld (some 6) (.t 21)), none, 0⟩, ⟨(some 8), (.new 55 [(.int .i64 0), (.int .i64 0), (.bool false), (.int .i64 0), (.int .i64 0), (.int .i64 0)]), none, 0⟩, ⟨none, (.st 6 (.t 8) (.t 22)), none, 0⟩]) (.frz [8])) x12_4)
def x12_6 : XCode := (.block 0 (.loop [1, 6, 17, 18, 19] (.seq (.reg false [⟨(some 20), (.bin .lss (.t 19) (.t 18)), none, 0⟩]) (.seq (.cond (.t 20) .skip (.exit 0)) (.seq (.block 1 x12_5) (.reg false [⟨(some 31), (.bin .add (.t 19) (.c (.int .i64 1))), none, 0⟩, ⟨(some 19), (.mv (.t 31)), none, 0⟩]))))))
def x12_7 : XCode := x12_6
def x12_8 : XCode := (.seq (.seq (.reg false [⟨(some 17), (.mv (.t 0)), none, 0⟩, ⟨(some 18), (.len (.t 17)), none, 0⟩, ⟨(some 19), (.mv (.c (.int .i64 0))), none, 0⟩]) x12_7) (.seq (.reg false [⟨(some 32), (.mv (.t 6)), none, 0⟩, ⟨(some 4), (.mv (.t 32)), none, 0⟩, ⟨(some 5), (.mv (.c (.bool true))), none, 0⟩]) .ret))
def x12_9 : XCode := (.seq (.reg false [⟨(some 6), (.mv (.c .nil)), none, 0⟩]) x12_8)
def x12_10 : XCode := (.seq (.seq (.reg false [⟨(some 9), (.mv (.t 0)), none, 0⟩, ⟨(some 10), (.call (.c (.fn 40 [])) [(.t 9)]), none, 0⟩, ⟨(some 11), (.un .not (.t 10)), none, 0⟩, ⟨(some 12), (.mv (.t 11)), none, 0⟩, ⟨(some 13), (.mv (.t 1)), (some (12, false)), 0⟩, ⟨(some 14), (.call (.c (.fn 41 [])) [(.t 13), (.c (.int .i64 0)), (.c (.int .i64 2))]), (some (12, false)), 0⟩, ⟨(some 15), (.un .not (.t 14)), (some (12, false)), 0⟩, ⟨(some 16), (.pick (.t 12) (.c (.bool true)) (.t 15)), none, 0⟩]) x12_1) x12_9)
def x12 : XFn := ⟨(.seq (.reg false [⟨(some 4), (.mv (.c .nil)), none, 0⟩, ⟨(some 5), (.mv (.c (.bool false))), none, 0⟩]) x12_10), 33, [(.t 4), (.t 5)]⟩
theorem ok12 : FnOk Try.prog T 12 x12 := ⟨Try.f12, [.loop [1, 6, 17, 18, 19], .frz [], .frz [8]], Try.func12, by decide +kernel, by kernel_rfl⟩
/-- laws.toCall -/
def x42_1 : XCode := (.seq (.reg false [⟨(some 19), (.fa 5 (.t 1)), none, 0⟩, ⟨(some 20), (.ld none (.t 19)), none, 0⟩, ⟨(some 21), (.fa 5 (.t 3)), none, 0⟩, ⟨none, (.st 1 (.t 21) (.t 20)), none, 0⟩]) (.seq (.reg false [⟨(some 22), (.ld (some 6) (.t 3)), none, 0⟩, ⟨none, (.st 6 (.t 2) (.t 22)), none, 0⟩]) .ret))
def x42_2 : XCode := (.seq (.reg false [⟨(some 16), (.fa 4 (.t 1)), none, 0⟩, ⟨(some 17), (.ld none (.t 16)), none, 0⟩, ⟨(some 18), (.fa 4 (.t 3)), none, 0⟩, ⟨none, (.st 1 (.t 18) (.t 17)), none, 0⟩]) x42_1)
def x42_3 : XCode := (.seq (.reg false [⟨(some 13), (.fa 3 (.t 1)), none, 0⟩, ⟨(some 14), (.ld none (.t 13)), none, 0⟩, ⟨(some 15), (.fa 3 (.t 3)), none, 0⟩, ⟨none, (.st 1 (.t 15) (.t 14)), none, 0⟩]) x42_2)
def x42_4 : XCode := (.seq (.reg false [⟨(some 10), (.fa 2 (.t 1)), none, 0⟩, ⟨(some 11), (.ld none (.t 10)), none, 0⟩, ⟨(some 12), (.fa 2 (.t 3)), none, 0⟩, ⟨none, (.st 1 (.t 12) (.t 11)), none, 0⟩]) x42_3)
def x42_5 : XCode := (.seq (.reg false [⟨(some 7), (.fa 1 (.t 1)), none, 0⟩, ⟨(some 8), (.ld none (.t 7)), none, 0⟩, ⟨(some 9), (.fa 1 (.t 3)), none, 0⟩, ⟨none, (.st 1 (.t 9) (.t 8)), none, 0⟩]) x42_4)
def x42_6 : XCode := (.seq (.reg false [⟨(some 4), (.fa 0 (.t 1)), none, 0⟩, ⟨(some 5), (.ld none (.t 4)), none, 0⟩, ⟨(some 6), (.fa 0 (.t 3)), none, 0⟩, ⟨none, (.st 1 (.t 6) (.t 5)), none, 0⟩]) x42_5)
def x42_7 : XCode := (.seq (.reg false [⟨(some 3), (.new 55 [(.int .i64 0), (.int .i64 0), (.bool false), (.int .i64 0), (.int .i64 0), (.int .i64 0)]), none, 0⟩]) x42_6)
def x42 : XFn := ⟨(.seq (.seq (.reg false [⟨(some 1), (.box 57 6 (.t 0)), none, 0⟩, ⟨(some 2), (.new 55 [(.int .i64 0), (.int .i64 0), (.bool false), (.int .i64 0), (.int .i64 0), (.int .i64 0)]), none, 0⟩]) (.frz [1])) x42_7), 23, [(.cell 2 (some 6))]⟩
theorem ok42 : FnOk Try.prog T 42 x42 := ⟨Try.f42, [.frz [1]], Try.func42, by decide +kernel, by kernel_rfl⟩
/-- laws.toCallS -/
def x13_1 : XCode := (.reg false [⟨(some 14), (.mv (.t 3)), none, 0⟩, ⟨(some 15), (.mv (.t 4)), none, 0⟩, ⟨(some 16), (.mv (.t 0)), none, 0⟩, ⟨(some 17), (.mv (.t 4)), none, 0⟩, ⟨(some 18), (.ia 6 (.t 16) (.t 17)), none, 0⟩, ⟨(some 19), (.ld (some 6) (.t 18)), none, 0⟩, ⟨(some 20), (.call (.c (.fn 42 [])) [(.t 19)]), none, 0⟩, ⟨(some 21), (.ia 6 (.t 14) (.t 15)), none, 0⟩, ⟨none, (.st 6 (.t 21) (.t 20)), none, 0⟩])
def x13_2 : XCode := (.seq (.block 1 x13_1) (.reg false [⟨(some 12), (.mv (.t 4)), none, 0⟩, ⟨(some 13), (.bin .add (.t 12) (.c (.int .i64 1))), none, 0⟩, ⟨(some 4), (.mv (.t 13)), none, 0⟩]))
def x13_3 : XCode := (.seq (.seq (.reg false [⟨(some 8), (.mv (.t 4)), none, 0⟩, ⟨(some 9), (.mv (.t 0)), none, 0⟩, ⟨(some 10), (.len (.t 9)), none, 0⟩, ⟨(some 11), (.bin .lss (.t 8) (.t 10)), none, 0⟩]) (.cond (.t 11) .skip (.exit 0))) x13_2)
def x13_4 : XCode := (.block 0 (.loop [0, 3, 4] x13_3))
def x13_5 : XCode := x13_4
def x13_6 : XCode := (.seq (.seq (.reg false [⟨(some 4), (.mv (.c (.int .i64 0))), none, 0⟩]) x13_5) (.seq (.reg false [⟨(some 22), (.mv (.t 3)), none, 0⟩, ⟨(some 2), (.mv (.t 22)), none, 0⟩]) .ret))
def x13_7 : XCode := (.seq (.reg false [⟨(some 5), (.mv (.t 0)), none, 0⟩, ⟨(some 6), (.len (.t 5)), none, 0⟩, ⟨(some 7), (.mkS 55 6 48 [(.int .i64 0), (.int .i64 0), (.bool false), (.int .i64 0), (.int .i64 0), (.int .i64 0)] (.t 6) (.t 6)), none, 0⟩, ⟨(some 3), (.mv (.t 7)), none, 0⟩]) x13_6)
def x13 : XFn := ⟨(.seq (.reg false [⟨(some 2), (.mv (.c .nil)), none, 0⟩]) x13_7), 23, [(.t 2)]⟩
theorem ok13 : FnOk Try.prog T 13 x13 := ⟨Try.f13, [.loop [0, 3, 4]], Try.func13, by decide +kernel, by kernel_rfl⟩
/-- impl.in -/
def x44_1 : XCode := (.seq (.reg false [⟨(some 7), (.mv (.t 0)), none, 0⟩, ⟨(some 8), (.mv (.t 1)), none, 0⟩, ⟨(some 9), (.bin .geq (.t 7) (.t 8)), none, 0⟩, ⟨(some 10), (.mv (.t 9)), none, 0⟩, ⟨(some 11), (.mv (.t 0)), (some (10, true)), 0⟩, ⟨(some 12), (.mv (.t 2)), (some (10, true)), 0⟩, ⟨(some 13), (.bin .leq (.t 11) (.t 12)), (some (10, true)), 0⟩, ⟨(some 14), (.pick (.t 10) (.t 13) (.c (.bool false))), none, 0⟩, ⟨(some 6), (.mv (.t 14)), none, 0⟩]) .ret)
def x44 : XFn := ⟨(.seq (.reg false [⟨(some 6), (.mv (.c (.bool false))), none, 0⟩]) x44_1), 15, [(.t 6)]⟩
theorem ok44 : FnOk Try.prog T 44 x44 := ⟨Try.f44, [], Try.func44, by decide +kernel, by kernel_rfl⟩
/-- impl.areCalls -/
def x43_1 : XCode := (.seq (.reg false [⟨(some 61), (.fa 0 (.t 4)), none, 0⟩, ⟨(some 62), (.ld none (.t 61)), none, 0⟩, ⟨(some 63), (.fa 0 (.t 7)), none, 0⟩, ⟨(some 64), (.ld none (.t 63)), none, 0⟩, ⟨(some 65), (.bin .eql (.t 62) (.t 64)), none, 0⟩, ⟨(some 66), (.mv (.t 65)), none, 0⟩, ⟨(some 67), (.fa 5 (.t 4)), (some (66, true)), 0⟩, ⟨(some 68), (.ld none (.t 67)), (some (66, true)), 0⟩, ⟨(some 69), (.fa 4 (.t 7)), (some (66, true)), 0⟩, ⟨(some 70), (.ld none (.t 69)), (some (66, true)), 0⟩, ⟨(some 71), (.bin .gtr (.t 68) (.t 70)), (some (66, true)), 0⟩, ⟨(some 72), (.pick (.t 66) (.t 71) (.c (.bool false))), none, 0⟩, ⟨(some 73), (.mv (.t 72)), none, 0⟩, ⟨(some 74), (.fa 5 (.t 7)), (some (73, true)), 0⟩, ⟨(some 75), (.ld none (.t 74)), (some (73, true)), 0⟩, ⟨(some 76), (.fa 4 (.t 4)), (some (73, true)), 0⟩, ⟨(some 77), (.ld none (.t 76)), (some (73, true)), 0⟩, ⟨(some 78), (.bin .gtr (.t 75) (.t 77)), (some (73, true)), 0⟩, ⟨(some 79), (.pick (.t 73) (.t 78) (.c (.bool false))), none, 0⟩]) (.cond (.t 79) (.seq (.reg false [⟨(some 2), (.mv (.c (.bool false))), none, 0⟩]) .ret) .skip))
def x43_2 : XCode := (.seq (.seq (.reg false [⟨(some 59), (.ia 6 (.t 55) (.t 57)), none, 0⟩, ⟨(some 60), (.ld (some 6) (.t 59)), none, 0⟩, ⟨(some 7), (.new 55 [(.int .i64 0), (.int .i64 0), (.bool false), (.int .i64 0), (.int .i64 0), (.int .i64 0)]), none, 0⟩, ⟨none, (.st 6 (.t 7) (.t 60)), none, 0⟩]) (.frz [7])) x43_1)
def x43_3 : XCode := (.block 2 (.loop [0, 4, 8, 9, 10, 55, 56, 57] (.seq (.reg false [⟨(some 58), (.bin .lss (.t 57) (.t 56)), none, 0⟩]) (.seq (.cond (.t 58) .skip (.exit 2)) (.seq (.block 3 x43_2) (.reg false [⟨(some 80), (.bin .add (.t 57) (.c (.int .i64 1))), none, 0⟩, ⟨(some 57), (.mv (.t 80)), none, 0⟩]))))))
def x43_4 : XCode := x43_3
def x43_5 : XCode := (.seq (.reg false [⟨(some 53), (.mv (.t 0)), none, 0⟩, ⟨(some 54), (.mv (.t 3)), none, 0⟩, ⟨(some 55), (.slc 55 6 (.t 53) none (some (.t 54)) none), none, 0⟩, ⟨(some 56), (.len (.t 55)), none, 0⟩, ⟨(some 57), (.mv (.c (.int .i64 0))), none, 0⟩]) x43_4)
def x43_6 : XCode := (.seq (.seq (.reg false [⟨(some 17), (.fa 0 (.t 4)), none, 0⟩, ⟨(some 18), (.ld none (.t 17)), none, 0⟩, ⟨(some 19), (.call (.c (.fn 44 [])) [(.t 18), (.c (.int .i64 0)), (.c (.int .i64 3))]), none, 0⟩, ⟨(some 20), (.un .not (.t 19)), none, 0⟩, ⟨(some 21), (.mv (.t 20)), none, 0⟩, ⟨(some 22), (.fa 1 (.t 4)), (some (21, false)), 0⟩, ⟨(some 23), (.ld none (.t 22)), (some (21, false)), 0⟩, ⟨(some 24), (.call (.c (.fn 44 [])) [(.t 23), (.c (.int .i64 0)), (.c (.int .i64 2))]), (some (21, false)), 0⟩, ⟨(some 25), (.un .not (.t 24)), (some (21, false)), 0⟩, ⟨(some 26), (.pick (.t 21) (.c (.bool true)) (.t 25)), none, 0⟩, ⟨(some 27), (.mv (.t 26)), none, 0⟩, ⟨(some 28), (.fa 3 (.t 4)), (some (27, false)), 0⟩, ⟨(some 29), (.ld none (.t 28)), (some (27, false)), 0⟩, ⟨(some 30), (.mv (.t 5)), (some (27, false)), 0⟩, ⟨(some 31), (.call (.c (.fn 44 [])) [(.t 29), (.t 30), (.c (.int .i64 9))]), (some (27, false)), 0⟩, ⟨(some 32), (.un .not (.t 31)), (some (27, false)), 0⟩, ⟨(some 33), (.pick (.t 27) (.c (.bool true)) (.t 32)), none, 0⟩, ⟨(some 34), (.mv (.t 33)), none, 0⟩, ⟨(some 35), (.fa 4 (.t 4)), (some (34, false)), 0⟩, ⟨(some 36), (.ld none (.t 35)), (some (34, false)), 0⟩, ⟨(some 37), (.call (.c (.fn 44 [])) [(.t 36), (.c (.int .i64 0)), (.c (.int .i64 100))]), (some (34, false)), 0⟩, ⟨(some 38), (.un .not (.t 37)), (some (34, false)), 0⟩, ⟨(some 39), (.pick (.t 34) (.c (.bool true)) (.t 38)), none, 0⟩, ⟨(some 40), (.mv (.t 39)), none, 0⟩, ⟨(some 41), (.fa 5 (.t 4)), (some (40, false)), 0⟩, ⟨(some 42), (.ld none (.t 41)), (some (40, false)), 0⟩, ⟨(some 43), (.call (.c (.fn 44 [])) [(.t 42), (.c (.int .i64 0)), (.c (.int .i64 100))]), (some (40, false)), 0⟩, ⟨(some 44), (.un .not (.t 43)), (some (40, false)), 0⟩, ⟨(some 45), (.pick (.t 40) (.c (.bool true)) (.t 44)), none, 0⟩, ⟨(some 46), (.mv (.t 45)), none, 0⟩, ⟨(some 47), (.fa 4 (.t 4)), (some (46, false)), 0⟩, ⟨(some 48), (.ld none (.t 47)), (some (46, false)), 0⟩, ⟨(some 49), (.fa 5 (.t 4)), (some (46, false)), 0⟩, ⟨(some 50), (.ld none (.t 49)), (some (46, false)), 0⟩, ⟨(some 51), (.bin .geq (.t 48) (.t 50)), (some (46, false)), 0⟩, ⟨(some 52), (.pick (.t 46) (.c (.bool true)) (.t 51)), none, 0⟩]) (.cond (.t 52) (.seq (.reg false [⟨(some 2), (.mv (.c (.bool false))), none, 0⟩]) .ret) .skip)) x43_5)
def x43_7 : XCode := (.seq (.seq (.reg false [⟨(some 15), (.fa 2 (.t 4)), none, 0⟩, ⟨(some 16), (.ld none (.t 15)), none, 0⟩]) (.cond (.t 16) (.reg false [⟨(some 5), (.mv (.c (.int .i64 1))), none, 0⟩]) .skip)) x43_6)
def x43_8 : XCode := (.seq (.reg false [⟨(some 5), (.mv (.c (.int .i64 0))), none, 0⟩]) x43_7)
def x43_9 : XCode := (.seq (.seq (.reg false [⟨(some 12), (.mv (.t 10)), none, 0⟩, ⟨(some 13), (.ia 6 (.t 8) (.t 10)), none, 0⟩, ⟨(some 14), (.ld (some 6) (.t 13)), none, 0⟩, ⟨(some 4), (.new 55 [(.int .i64 0), (.int .i64 0), (.bool false), (.int .i64 0), (.int .i64 0), (.int .i64 0)]), none, 0⟩, ⟨(some 3), (.mv (.t 12)), none, 0⟩, ⟨none, (.st 6 (.t 4) (.t 14)), none, 0⟩]) (.frz [4])) x43_8)
def x43_10 : XCode := (.block 0 (.loop [0, 8, 9, 10] (.seq (.reg false [⟨(some 11), (.bin .lss (.t 10) (.t 9)), none, 0⟩]) (.seq (.cond (.t 11) .skip (.exit 0)) (.seq (.block 1 x43_9) (.reg false [⟨(some 81), (.bin .add (.t 10) (.c (.int .i64 1))), none, 0⟩, ⟨(some 10), (.mv (.t 81)), none, 0⟩]))))))
def x43_11 : XCode := x43_10
def x43_12 : XCode := (.seq (.reg false [⟨(some 82), (.mv (.t 0)), none, 0⟩, ⟨(some 83), (.len (.t 82)), none, 0⟩, ⟨(some 84), (.bin .leq (.t 83) (.c (.int .i64 7))), none, 0⟩, ⟨(some 2), (.mv (.t 84)), none, 0⟩]) .ret)
def x43_13 : XCode := (.seq (.seq (.reg false [⟨(some 8), (.mv (.t 0)), none, 0⟩, ⟨(some 9), (.len (.t 8)), none, 0⟩, ⟨(some 10), (.mv (.c (.int .i64 0))), none, 0⟩]) x43_11) x43_12)
def x43 : XFn := ⟨(.seq (.reg false [⟨(some 2), (.mv (.c (.bool false))), none, 0⟩]) x43_13), 85, [(.t 2)]⟩
theorem ok43 : FnOk Try.prog T 43 x43 := ⟨Try.f43, [.loop [0, 8, 9, 10], .frz [], .frz [4], .loop [0, 4, 8, 9, 10, 55, 56, 57], .frz [], .frz [7]], Try.func43, by decide +kernel, by kernel_rfl⟩
/-- impl.Call] -/
def x65_1 : XCode := (.cond (.t 16) (.seq (.reg false [⟨(some 17), (.mv (.t 5)), none, 0⟩, ⟨(some 4), (.mv (.t 17)), none, 0⟩]) .ret) .skip)
def x65_2 : XCode := (.seq (.reg false [⟨(some 11), (.mv (.t 1)), none, 0⟩, ⟨(some 12), (.mv (.t 0)), none, 0⟩, ⟨(some 13), (.mv (.t 5)), none, 0⟩, ⟨(some 14), (.ia 6 (.t 12) (.t 13)), none, 0⟩, ⟨(some 15), (.ld (some 6) (.t 14)), none, 0⟩, ⟨(some 16), (.call (.t 11) [(.t 15)]), none, 0⟩]) x65_1)
def x65_3 : XCode := (.seq (.reg false [⟨(some 10), (.mv (.t 8)), none, 0⟩, ⟨(some 5), (.mv (.t 10)), none, 0⟩]) x65_2)
def x65_4 : XCode := (.block 0 (.loop [0, 1, 7, 8] (.seq (.reg false [⟨(some 9), (.bin .lss (.t 8) (.t 7)), none, 0⟩]) (.seq (.cond (.t 9) .skip (.exit 0)) (.seq (.block 1 x65_3) (.reg false [⟨(some 18), (.bin .add (.t 8) (.c (.int .i64 1))), none, 0⟩, ⟨(some 8), (.mv (.t 18)), none, 0⟩]))))))
def x65_5 : XCode := x65_4
def x65_6 : XCode := (.seq (.seq (.reg false [⟨(some 6), (.mv (.t 0)), none, 0⟩, ⟨(some 7), (.len (.t 6)), none, 0⟩, ⟨(some 8), (.mv (.c (.int .i64 0))), none, 0⟩]) x65_5) (.seq (.reg false [⟨(some 4), (.mv (.c (.int .i64 (-1)))), none, 0⟩]) .ret))
def x65 : XFn := ⟨(.seq (.reg false [⟨(some 4), (.mv (.c (.int .i64 0))), none, 0⟩]) x65_6), 19, [(.t 4)]⟩
theorem ok65 : FnOk Try.prog T 65 x65 := ⟨Try.f65, [.loop [0, 1, 7, 8]], Try.func65, by decide +kernel, by kernel_rfl⟩
/-- impl.Call] -/
def x45_1 : XCode := (.cond (.t 12) (.seq (.reg false [⟨(some 13), (.mv (.t 0)), none, 0⟩, ⟨(some 4), (.mv (.t 13)), none, 0⟩]) .ret) .skip)
def x45_2 : XCode := (.seq (.reg false [⟨(some 30), (.mv (.t 0)), none, 0⟩, ⟨(some 31), (.mv (.t 5)), none, 0⟩, ⟨(some 32), (.ld (some 6) (.t 7)), none, 0⟩, ⟨(some 33), (.ia 6 (.t 30) (.t 31)), none, 0⟩, ⟨none, (.st 6 (.t 33) (.t 32)), none, 0⟩]) (.reg false [⟨(some 34), (.mv (.t 5)), none, 0⟩, ⟨(some 35), (.bin .add (.t 34) (.c (.int .i64 1))), none, 0⟩, ⟨(some 5), (.mv (.t 35)), none, 0⟩]))
def x45_3 : XCode := (.cond (.t 29) x45_2 .skip)
def x45_4 : XCode := (.seq (.reg false [⟨(some 26), (.mv (.t 1)), none, 0⟩, ⟨(some 27), (.ld (some 6) (.t 7)), none, 0⟩, ⟨(some 28), (.call (.t 26) [(.t 27)]), none, 0⟩, ⟨(some 29), (.un .not (.t 28)), none, 0⟩]) x45_3)
def x45_5 : XCode := (.seq (.seq (.reg false [⟨(some 22), (.mv (.t 0)), none, 0⟩, ⟨(some 23), (.mv (.t 6)), none, 0⟩, ⟨(some 24), (.ia 6 (.t 22) (.t 23)), none, 0⟩, ⟨(some 25), (.ld (some 6) (.t 24)), none, 0⟩, ⟨(some 7), (.new 55 [(.int .i64 0), (.int .i64 0), (.bool false), (.int .i64 0), (.int .i64 0), (.int .i64 0)]), none, 0⟩, ⟨none, (.st 6 (.t 7) (.t 25)), none, 0⟩]) (.frz [7])) x45_4)
def x45_6 : XCode := (.seq (.block 1 x45_5) (.reg false [⟨(some 20), (.mv (.t 6)), none, 0⟩, ⟨(some 21), (.bin .add (.t 20) (.c (.int .i64 1))), none, 0⟩, ⟨(some 6), (.mv (.t 21)), none, 0⟩]))
def x45_7 : XCode := (.seq (.seq (.reg false [⟨(some 16), (.mv (.t 6)), none, 0⟩, ⟨(some 17), (.mv (.t 0)), none, 0⟩, ⟨(some 18), (.len (.t 17)), none, 0⟩, ⟨(some 19), (.bin .lss (.t 16) (.t 18)), none, 0⟩]) (.cond (.t 19) .skip (.exit 0))) x45_6)
def x45_8 : XCode := (.block 0 (.loop [0, 1, 5, 6] x45_7))
def x45_9 : XCode := x45_8
def x45_10 : XCode := (.seq (.reg false [⟨(some 39), (.mv (.t 0)), none, 0⟩, ⟨(some 40), (.mv (.t 5)), none, 0⟩, ⟨(some 41), (.slc 55 6 (.t 39) none (some (.t 40)) none), none, 0⟩, ⟨(some 4), (.mv (.t 41)), none, 0⟩]) .ret)
def x45_11 : XCode := (.seq (.reg false [⟨(some 36), (.mv (.t 0)), none, 0⟩, ⟨(some 37), (.mv (.t 5)), none, 0⟩, ⟨(some 38), (.slc 55 6 (.t 36) (some (.t 37)) none none), none, 0⟩, ⟨none, (.clr 55 [(.int .i64 0), (.int .i64 0), (.bool false), (.int .i64 0), (.int .i64 0), (.int .i64 0)] (.t 38)), none, 0⟩]) x45_10)
def x45_12 : XCode := (.seq (.seq (.reg false [⟨(some 14), (.mv (.t 5)), none, 0⟩, ⟨(some 15), (.bin .add (.t 14) (.c (.int .i64 1))), none, 0⟩, ⟨(some 6), (.mv (.t 15)), none, 0⟩]) x45_9) x45_11)
def x45_13 : XCode := (.seq (.seq (.reg false [⟨(some 11), (.mv (.t 5)), none, 0⟩, ⟨(some 12), (.bin .eql (.t 11) (.c (.int .i64 (-1)))), none, 0⟩]) x45_1) x45_12)
def x45_14 : XCode := (.seq (.reg false [⟨(some 8), (.mv (.t 0)), none, 0⟩, ⟨(some 9), (.mv (.t 1)), none, 0⟩, ⟨(some 10), (.call (.c (.fn 65 [])) [(.t 8), (.t 9)]), none, 0⟩, ⟨(some 5), (.mv (.t 10)), none, 0⟩]) x45_13)
def x45 : XFn := ⟨(.seq (.reg false [⟨(some 4), (.mv (.c .nil)), none, 0⟩]) x45_14), 42, [(.t 4)]⟩
theorem ok45 : FnOk Try.prog T 45 x45 := ⟨Try.f45, [.loop [0, 1, 5, 6], .frz [], .frz [7]], Try.func45, by decide +kernel, by kernel_rfl⟩
/-- impl.OnObject$1 -/
def x46_1 : XCode := (.seq (.reg false [⟨(some 4), (.fa 1 (.t 2)), none, 0⟩, ⟨(some 5), (.ld none (.t 4)), none, 0⟩, ⟨(some 6), (.ld none (.t 1)), none, 0⟩, ⟨(some 7), (.bin .neq (.t 5) (.t 6)), none, 0⟩, ⟨(some 3), (.mv (.t 7)), none, 0⟩]) .ret)
def x46 : XFn := ⟨(.seq (.seq (.reg false [⟨(some 2), (.box 55 6 (.t 0)), none, 0⟩, ⟨(some 3), (.mv (.c (.bool false))), none, 0⟩]) (.frz [2])) x46_1), 8, [(.t 3)]⟩
theorem ok46 : FnOk Try.prog T 46 x46 := ⟨Try.f46, [.frz [2]], Try.func46, by decide +kernel, by kernel_rfl⟩
/-- impl.OnObject -/
def x14_1 : XCode := (.cond (.t 13) (.seq (.reg false [⟨(some 4), (.mv (.c .nil)), none, 0⟩, ⟨(some 5), (.mv (.c (.bool false))), none, 0⟩]) .ret) .skip)
def x14_2 : XCode := (.seq (.reg false [⟨(some 14), (.buildS 55 0 [] []), none, 0⟩, ⟨(some 15), (.mv (.t 0)), none, 0⟩, ⟨(some 16), (.app 55 6 48 (.t 14) (.t 15)), none, 0⟩, ⟨(some 17), (.mkF 46 [(.t 3)]), none, 0⟩, ⟨(some 18), (.call (.c (.fn 45 [])) [(.t 16), (.t 17)]), none, 0⟩, ⟨(some 4), (.mv (.t 18)), none, 0⟩, ⟨(some 5), (.mv (.c (.bool true))), none, 0⟩]) .ret)
def x14_3 : XCode := (.seq (.seq (.reg false [⟨(some 6), (.mv (.t 0)), none, 0⟩, ⟨(some 7), (.call (.c (.fn 43 [])) [(.t 6)]), none, 0⟩, ⟨(some 8), (.un .not (.t 7)), none, 0⟩, ⟨(some 9), (.mv (.t 8)), none, 0⟩, ⟨(some 10), (.ld none (.t 3)), (some (9, false)), 0⟩, ⟨(some 11), (.call (.c (.fn 44 [])) [(.t 10), (.c (.int .i64 0)), (.c (.int .i64 2))]), (some (9, false)), 0⟩, ⟨(some 12), (.un .not (.t 11)), (some (9, false)), 0⟩, ⟨(some 13), (.pick (.t 9) (.c (.bool true)) (.t 12)), none, 0⟩]) x14_1) x14_2)
def x14 : XFn := ⟨(.seq (.seq (.reg false [⟨(some 3), (.box 3 1 (.t 1)), none, 0⟩, ⟨(some 4), (.mv (.c .nil)), none, 0⟩, ⟨(some 5), (.mv (.c (.bool false))), none, 0⟩]) (.frz [3])) x14_3), 19, [(.t 4), (.t 5)]⟩
theorem ok14 : FnOk Try.prog T 14 x14 := ⟨Try.f14, [.frz [3]], Try.func14, by decide +kernel, by kernel_rfl⟩
/-- laws.eqCall -/
def x47_1 : XCode := (.seq (.seq (.reg false [⟨(some 30), (.fa 5 (.t 2)), none, 0⟩, ⟨(some 31), (.ld none (.t 30)), none, 0⟩, ⟨(some 32), (.fa 5 (.t 3)), none, 0⟩, ⟨(some 33), (.ld none (.t 32)), none, 0⟩, ⟨(some 34), (.bin .neq (.t 31) (.t 33)), none, 0⟩]) (.cond (.t 34) (.seq (.reg false [⟨(some 4), (.mv (.c (.bool false))), none, 0⟩]) .ret) .skip)) (.seq (.reg false [⟨(some 4), (.mv (.c (.bool true))), none, 0⟩]) .ret))
def x47_2 : XCode := (.seq (.seq (.reg false [⟨(some 25), (.fa 4 (.t 2)), none, 0⟩, ⟨(some 26), (.ld none (.t 25)), none, 0⟩, ⟨(some 27), (.fa 4 (.t 3)), none, 0⟩, ⟨(some 28), (.ld none (.t 27)), none, 0⟩, ⟨(some 29), (.bin .neq (.t 26) (.t 28)), none, 0⟩]) (.cond (.t 29) (.seq (.reg false [⟨(some 4), (.mv (.c (.bool false))), none, 0⟩]) .ret) .skip)) x47_1)
def x47_3 : XCode := (.seq (.seq (.reg false [⟨(some 20), (.fa 3 (.t 2)), none, 0⟩, ⟨(some 21), (.ld none (.t 20)), none, 0⟩, ⟨(some 22), (.fa 3 (.t 3)), none, 0⟩, ⟨(some 23), (.ld none (.t 22)), none, 0⟩, ⟨(some 24), (.bin .neq (.t 21) (.t 23)), none, 0⟩]) (.cond (.t 24) (.seq (.reg false [⟨(some 4), (.mv (.c (.bool false))), none, 0⟩]) .ret) .skip)) x47_2)
def x47_4 : XCode := (.seq (.seq (.reg false [⟨(some 15), (.fa 2 (.t 2)), none, 0⟩, ⟨(some 16), (.ld none (.t 15)), none, 0⟩, ⟨(some 17), (.fa 2 (.t 3)), none, 0⟩, ⟨(some 18), (.ld none (.t 17)), none, 0⟩, ⟨(some 19), (.eqb true (.t 16) (.t 18)), none, 0⟩]) (.cond (.t 19) (.seq (.reg false [⟨(some 4), (.mv (.c (.bool false))), none, 0⟩]) .ret) .skip)) x47_3)
def x47_5 : XCode := (.seq (.seq (.reg false [⟨(some 10), (.fa 1 (.t 2)), none, 0⟩, ⟨(some 11), (.ld none (.t 10)), none, 0⟩, ⟨(some 12), (.fa 1 (.t 3)), none, 0⟩, ⟨(some 13), (.ld none (.t 12)), none, 0⟩, ⟨(some 14), (.bin .neq (.t 11) (.t 13)), none, 0⟩]) (.cond (.t 14) (.seq (.reg false [⟨(some 4), (.mv (.c (.bool false))), none, 0⟩]) .ret) .skip)) x47_4)
def x47_6 : XCode := (.seq (.seq (.reg false [⟨(some 5), (.fa 0 (.t 2)), none, 0⟩, ⟨(some 6), (.ld none (.t 5)), none, 0⟩, ⟨(some 7), (.fa 0 (.t 3)), none, 0⟩, ⟨(some 8), (.ld none (.t 7)), none, 0⟩, ⟨(some 9), (.bin .neq (.t 6) (.t 8)), none, 0⟩]) (.cond (.t 9) (.seq (.reg false [⟨(some 4), (.mv (.c (.bool false))), none, 0⟩]) .ret) .skip)) x47_5)
def x47 : XFn := ⟨(.seq (.seq (.reg false [⟨(some 2), (.box 55 6 (.t 0)), none, 0⟩, ⟨(some 3), (.box 55 6 (.t 1)), none, 0⟩, ⟨(some 4), (.mv (.c (.bool false))), none, 0⟩]) (.frz [2, 3])) x47_6), 35, [(.t 4)]⟩
theorem ok47 : FnOk Try.prog T 47 x47 := ⟨Try.f47, [.frz [2, 3]], Try.func47, by decide +kernel, by kernel_rfl⟩
/-- laws.eqCallS -/
def x15_1 : XCode := (.seq (.reg true [⟨(some 17), (.mv (.t 0)), none, 4⟩, ⟨(some 18), (.mv (.t 5)), none, 4⟩, ⟨(some 19), (.ia 6 (.t 17) (.t 18)), none, 4⟩, ⟨(some 20), (.ld (some 6) (.t 19)), none, 4⟩, ⟨(some 21), (.mv (.t 1)), none, 4⟩, ⟨(some 22), (.mv (.t 5)), none, 4⟩, ⟨(some 23), (.ia 6 (.t 21) (.t 22)), none, 4⟩, ⟨(some 24), (.ld (some 6) (.t 23)), none, 4⟩, ⟨(some 25), (.call (.c (.fn 47 [])) [(.t 20), (.t 24)]), none, 3⟩, ⟨(some 26), (.un .not (.t 25)), none, 4⟩]) (.cond (.t 26) (.seq (.reg false [⟨(some 4), (.mv (.c (.bool false))), none, 0⟩]) .ret) .skip))
def x15_2 : XCode := (.seq (.block 1 x15_1) (.reg false [⟨(some 15), (.mv (.t 5)), none, 0⟩, ⟨(some 16), (.bin .add (.t 15) (.c (.int .i64 1))), none, 0⟩, ⟨(some 5), (.mv (.t 16)), none, 0⟩]))
def x15_3 : XCode := (.seq (.seq (.reg false [⟨(some 11), (.mv (.t 5)), none, 0⟩, ⟨(some 12), (.mv (.t 0)), none, 0⟩, ⟨(some 13), (.len (.t 12)), none, 0⟩, ⟨(some 14), (.bin .lss (.t 11) (.t 13)), none, 0⟩]) (.cond (.t 14) .skip (.exit 0))) x15_2)
def x15_4 : XCode := (.block 0 (.loop [0, 1, 5] x15_3))
def x15_5 : XCode := x15_4
def x15_6 : XCode := (.seq (.seq (.reg false [⟨(some 5), (.mv (.c (.int .i64 0))), none, 0⟩]) x15_5) (.seq (.reg false [⟨(some 4), (.mv (.c (.bool true))), none, 0⟩]) .ret))
def x15_7 : XCode := (.seq (.seq (.reg false [⟨(some 6), (.mv (.t 0)), none, 0⟩, ⟨(some 7), (.len (.t 6)), none, 0⟩, ⟨(some 8), (.mv (.t 1)), none, 0⟩, ⟨(some 9), (.len (.t 8)), none, 0⟩, ⟨(some 10), (.bin .neq (.t 7) (.t 9)), none, 0⟩]) (.cond (.t 10) (.seq (.reg false [⟨(some 4), (.mv (.c (.bool false))), none, 0⟩]) .ret) .skip)) x15_6)
def x15 : XFn := ⟨(.seq (.reg false [⟨(some 4), (.mv (.c (.bool false))), none, 0⟩]) x15_7), 27, [(.t 4)]⟩
theorem ok15 : FnOk Try.prog T 15 x15 := ⟨Try.f15, [.loop [0, 1, 5], .draw [0, 1, 2, 3, 4, 5, 6, 7, 8, 9] [4, 4, 4, 4, 4, 4, 4, 4, 3, 4]], Try.func15, by decide +kernel, by kernel_rfl⟩
/-- laws.markCallS -/
def x16_1 : XCode := (.seq (.reg false [⟨(some 49), (.mv (.t 0)), none, 0⟩, ⟨(some 50), (.mv (.t 5)), none, 0⟩, ⟨(some 51), (.mv (.t 1)), none, 0⟩, ⟨(some 52), (.ia 6 (.t 49) (.t 50)), none, 0⟩, ⟨(some 53), (.fa 5 (.t 52)), none, 0⟩, ⟨none, (.st 1 (.t 53) (.t 51)), none, 0⟩]) (.reg false [⟨(some 54), (.mv (.t 1)), none, 0⟩, ⟨(some 55), (.bin .add (.t 54) (.c (.int .i64 1))), none, 0⟩, ⟨(some 1), (.mv (.t 55)), none, 0⟩]))
def x16_2 : XCode := (.seq (.reg false [⟨(some 47), (.mv (.t 1)), none, 0⟩, ⟨(some 48), (.bin .add (.t 47) (.c (.int .i64 1))), none, 0⟩, ⟨(some 1), (.mv (.t 48)), none, 0⟩]) x16_1)
def x16_3 : XCode := (.seq (.reg false [⟨(some 42), (.mv (.t 0)), none, 0⟩, ⟨(some 43), (.mv (.t 5)), none, 0⟩, ⟨(some 44), (.mv (.t 1)), none, 0⟩, ⟨(some 45), (.ia 6 (.t 42) (.t 43)), none, 0⟩, ⟨(some 46), (.fa 4 (.t 45)), none, 0⟩, ⟨none, (.st 1 (.t 46) (.t 44)), none, 0⟩]) x16_2)
def x16_4 : XCode := (.seq (.reg false [⟨(some 40), (.mv (.t 1)), none, 0⟩, ⟨(some 41), (.bin .add (.t 40) (.c (.int .i64 1))), none, 0⟩, ⟨(some 1), (.mv (.t 41)), none, 0⟩]) x16_3)
def x16_5 : XCode := (.seq (.reg false [⟨(some 35), (.mv (.t 0)), none, 0⟩, ⟨(some 36), (.mv (.t 5)), none, 0⟩, ⟨(some 37), (.mv (.t 1)), none, 0⟩, ⟨(some 38), (.ia 6 (.t 35) (.t 36)), none, 0⟩, ⟨(some 39), (.fa 3 (.t 38)), none, 0⟩, ⟨none, (.st 1 (.t 39) (.t 37)), none, 0⟩]) x16_4)
def x16_6 : XCode := (.seq (.reg false [⟨(some 33), (.mv (.t 1)), none, 0⟩, ⟨(some 34), (.bin .add (.t 33) (.c (.int .i64 1))), none, 0⟩, ⟨(some 1), (.mv (.t 34)), none, 0⟩]) x16_5)
def x16_7 : XCode := (.seq (.reg false [⟨(some 26), (.mv (.t 0)), none, 0⟩, ⟨(some 27), (.mv (.t 5)), none, 0⟩, ⟨(some 28), (.mv (.t 1)), none, 0⟩, ⟨(some 29), (.bin .rem (.t 28) (.c (.int .i64 3))), none, 0⟩, ⟨(some 30), (.bin .eql (.t 29) (.c (.int .i64 0))), none, 0⟩, ⟨(some 31), (.ia 6 (.t 26) (.t 27)), none, 0⟩, ⟨(some 32), (.fa 2 (.t 31)), none, 0⟩, ⟨none, (.st 1 (.t 32) (.t 30)), none, 0⟩]) x16_6)
def x16_8 : XCode := (.seq (.reg false [⟨(some 24), (.mv (.t 1)), none, 0⟩, ⟨(some 25), (.bin .add (.t 24) (.c (.int .i64 1))), none, 0⟩, ⟨(some 1), (.mv (.t 25)), none, 0⟩]) x16_7)
def x16_9 : XCode := (.seq (.reg false [⟨(some 19), (.mv (.t 0)), none, 0⟩, ⟨(some 20), (.mv (.t 5)), none, 0⟩, ⟨(some 21), (.mv (.t 1)), none, 0⟩, ⟨(some 22), (.ia 6 (.t 19) (.t 20)), none, 0⟩, ⟨(some 23), (.fa 1 (.t 22)), none, 0⟩, ⟨none, (.st 1 (.t 23) (.t 21)), none, 0⟩]) x16_8)
def x16_10 : XCode := (.seq (.reg false [⟨(some 17), (.mv (.t 1)), none, 0⟩, ⟨(some 18), (.bin .add (.t 17) (.c (.int .i64 1))), none, 0⟩, ⟨(some 1), (.mv (.t 18)), none, 0⟩]) x16_9)
def x16_11 : XCode := (.seq (.reg false [⟨(some 12), (.mv (.t 0)), none, 0⟩, ⟨(some 13), (.mv (.t 5)), none, 0⟩, ⟨(some 14), (.mv (.t 1)), none, 0⟩, ⟨(some 15), (.ia 6 (.t 12) (.t 13)), none, 0⟩, ⟨(some 16), (.fa 0 (.t 15)), none, 0⟩, ⟨none, (.st 1 (.t 16) (.t 14)), none, 0⟩]) x16_10)
def x16_12 : XCode := (.seq (.block 1 x16_11) (.reg false [⟨(some 10), (.mv (.t 5)), none, 0⟩, ⟨(some 11), (.bin .add (.t 10) (.c (.int .i64 1))), none, 0⟩, ⟨(some 5), (.mv (.t 11)), none, 0⟩]))
def x16_13 : XCode := (.seq (.seq (.reg false [⟨(some 6), (.mv (.t 5)), none, 0⟩, ⟨(some 7), (.mv (.t 0)), none, 0⟩, ⟨(some 8), (.len (.t 7)), none, 0⟩, ⟨(some 9), (.bin .lss (.t 6) (.t 8)), none, 0⟩]) (.cond (.t 9) .skip (.exit 0))) x16_12)
def x16_14 : XCode := (.block 0 (.loop [0, 1, 5] x16_13))
def x16_15 : XCode := x16_14
def x16_16 : XCode := (.seq (.seq (.reg false [⟨(some 5), (.mv (.c (.int .i64 0))), none, 0⟩]) x16_15) (.seq (.reg false [⟨(some 56), (.mv (.t 1)), none, 0⟩, ⟨(some 4), (.mv (.t 56)), none, 0⟩]) .ret))
def x16 : XFn := ⟨(.seq (.reg false [⟨(some 4), (.mv (.c (.int .i64 0))), none, 0⟩]) x16_16), 57, [(.t 4)]⟩
theorem ok16 : FnOk Try.prog T 16 x16 := ⟨Try.f16, [.loop [0, 1, 5]], Try.func16, by decide +kernel, by kernel_rfl⟩
/-- laws.heldCallS -/
def x17_1 : XCode := (.seq (.seq (.reg false [⟨(some 59), (.mv (.t 0)), none, 0⟩, ⟨(some 60), (.mv (.t 5)), none, 0⟩, ⟨(some 61), (.ia 6 (.t 59) (.t 60)), none, 0⟩, ⟨(some 62), (.fa 5 (.t 61)), none, 0⟩, ⟨(some 63), (.ld none (.t 62)), none, 0⟩, ⟨(some 64), (.mv (.t 1)), none, 0⟩, ⟨(some 65), (.bin .neq (.t 63) (.t 64)), none, 0⟩]) (.cond (.t 65) (.seq (.reg false [⟨(some 4), (.mv (.c (.int .i64 (-1)))), none, 0⟩]) .ret) .skip)) (.reg false [⟨(some 66), (.mv (.t 1)), none, 0⟩, ⟨(some 67), (.bin .add (.t 66) (.c (.int .i64 1))), none, 0⟩, ⟨(some 1), (.mv (.t 67)), none, 0⟩]))
def x17_2 : XCode := (.seq (.reg false [⟨(some 57), (.mv (.t 1)), none, 0⟩, ⟨(some 58), (.bin .add (.t 57) (.c (.int .i64 1))), none, 0⟩, ⟨(some 1), (.mv (.t 58)), none, 0⟩]) x17_1)
def x17_3 : XCode := (.seq (.seq (.reg false [⟨(some 50), (.mv (.t 0)), none, 0⟩, ⟨(some 51), (.mv (.t 5)), none, 0⟩, ⟨(some 52), (.ia 6 (.t 50) (.t 51)), none, 0⟩, ⟨(some 53), (.fa 4 (.t 52)), none, 0⟩, ⟨(some 54), (.ld none (.t 53)), none, 0⟩, ⟨(some 55), (.mv (.t 1)), none, 0⟩, ⟨(some 56), (.bin .neq (.t 54) (.t 55)), none, 0⟩]) (.cond (.t 56) (.seq (.reg false [⟨(some 4), (.mv (.c (.int .i64 (-1)))), none, 0⟩]) .ret) .skip)) x17_2)
def x17_4 : XCode := (.seq (.reg false [⟨(some 48), (.mv (.t 1)), none, 0⟩, ⟨(some 49), (.bin .add (.t 48) (.c (.int .i64 1))), none, 0⟩, ⟨(some 1), (.mv (.t 49)), none, 0⟩]) x17_3)
def x17_5 : XCode := (.seq (.seq (.reg false [⟨(some 41), (.mv (.t 0)), none, 0⟩, ⟨(some 42), (.mv (.t 5)), none, 0⟩, ⟨(some 43), (.ia 6 (.t 41) (.t 42)), none, 0⟩, ⟨(some 44), (.fa 3 (.t 43)), none, 0⟩, ⟨(some 45), (.ld none (.t 44)), none, 0⟩, ⟨(some 46), (.mv (.t 1)), none, 0⟩, ⟨(some 47), (.bin .neq (.t 45) (.t 46)), none, 0⟩]) (.cond (.t 47) (.seq (.reg false [⟨(some 4), (.mv (.c (.int .i64 (-1)))), none, 0⟩]) .ret) .skip)) x17_4)
def x17_6 : XCode := (.seq (.reg false [⟨(some 39), (.mv (.t 1)), none, 0⟩, ⟨(some 40), (.bin .add (.t 39) (.c (.int .i64 1))), none, 0⟩, ⟨(some 1), (.mv (.t 40)), none, 0⟩]) x17_5)
def x17_7 : XCode := (.seq (.seq (.reg false [⟨(some 30), (.mv (.t 0)), none, 0⟩, ⟨(some 31), (.mv (.t 5)), none, 0⟩, ⟨(some 32), (.ia 6 (.t 30) (.t 31)), none, 0⟩, ⟨(some 33), (.fa 2 (.t 32)), none, 0⟩, ⟨(some 34), (.ld none (.t 33)), none, 0⟩, ⟨(some 35), (.mv (.t 1)), none, 0⟩, ⟨(some 36), (.bin .rem (.t 35) (.c (.int .i64 3))), none, 0⟩, ⟨(some 37), (.bin .eql (.t 36) (.c (.int .i64 0))), none, 0⟩, ⟨(some 38), (.eqb true (.t 34) (.t 37)), none, 0⟩]) (.cond (.t 38) (.seq (.reg false [⟨(some 4), (.mv (.c (.int .i64 (-1)))), none, 0⟩]) .ret) .skip)) x17_6)
def x17_8 : XCode := (.seq (.reg false [⟨(some 28), (.mv (.t 1)), none, 0⟩, ⟨(some 29), (.bin .add (.t 28) (.c (.int .i64 1))), none, 0⟩, ⟨(some 1), (.mv (.t 29)), none, 0⟩]) x17_7)
def x17_9 : XCode := (.seq (.seq (.reg false [⟨(some 21), (.mv (.t 0)), none, 0⟩, ⟨(some 22), (.mv (.t 5)), none, 0⟩, ⟨(some 23), (.ia 6 (.t 21) (.t 22)), none, 0⟩, ⟨(some 24), (.fa 1 (.t 23)), none, 0⟩, ⟨(some 25), (.ld none (.t 24)), none, 0⟩, ⟨(some 26), (.mv (.t 1)), none, 0⟩, ⟨(some 27), (.bin .neq (.t 25) (.t 26)), none, 0⟩]) (.cond (.t 27) (.seq (.reg false [⟨(some 4), (.mv (.c (.int .i64 (-1)))), none, 0⟩]) .ret) .skip)) x17_8)
def x17_10 : XCode := (.seq (.reg false [⟨(some 19), (.mv (.t 1)), none, 0⟩, ⟨(some 20), (.bin .add (.t 19) (.c (.int .i64 1))), none, 0⟩, ⟨(some 1), (.mv (.t 20)), none, 0⟩]) x17_9)
def x17_11 : XCode := (.seq (.seq (.reg false [⟨(some 12), (.mv (.t 0)), none, 0⟩, ⟨(some 13), (.mv (.t 5)), none, 0⟩, ⟨(some 14), (.ia 6 (.t 12) (.t 13)), none, 0⟩, ⟨(some 15), (.fa 0 (.t 14)), none, 0⟩, ⟨(some 16), (.ld none (.t 15)), none, 0⟩, ⟨(some 17), (.mv (.t 1)), none, 0⟩, ⟨(some 18), (.bin .neq (.t 16) (.t 17)), none, 0⟩]) (.cond (.t 18) (.seq (.reg false [⟨(some 4), (.mv (.c (.int .i64 (-1)))), none, 0⟩]) .ret) .skip)) x17_10)
def x17_12 : XCode := (.seq (.block 1 x17_11) (.reg false [⟨(some 10), (.mv (.t 5)), none, 0⟩, ⟨(some 11), (.bin .add (.t 10) (.c (.int .i64 1))), none, 0⟩, ⟨(some 5), (.mv (.t 11)), none, 0⟩]))
def x17_13 : XCode := (.seq (.seq (.reg false [⟨(some 6), (.mv (.t 5)), none, 0⟩, ⟨(some 7), (.mv (.t 0)), none, 0⟩, ⟨(some 8), (.len (.t 7)), none, 0⟩, ⟨(some 9), (.bin .lss (.t 6) (.t 8)), none, 0⟩]) (.cond (.t 9) .skip (.exit 0))) x17_12)
def x17_14 : XCode := (.block 0 (.loop [0, 1, 5] x17_13))
def x17_15 : XCode := x17_14
def x17_16 : XCode := (.seq (.seq (.reg false [⟨(some 5), (.mv (.c (.int .i64 0))), none, 0⟩]) x17_15) (.seq (.reg false [⟨(some 68), (.mv (.t 1)), none, 0⟩, ⟨(some 4), (.mv (.t 68)), none, 0⟩]) .ret))
def x17 : XFn := ⟨(.seq (.reg false [⟨(some 4), (.mv (.c (.int .i64 0))), none, 0⟩]) x17_16), 69, [(.t 4)]⟩
theorem ok17 : FnOk Try.prog T 17 x17 := ⟨Try.f17, [.loop [0, 1, 5]], Try.func17, by decide +kernel, by kernel_rfl⟩
/-- laws.FnExactOnObject -/
def x3_1 : XCode := (.seq (.seq (.reg false [⟨(some 98), (.mv (.t 13)), none, 0⟩, ⟨(some 99), (.mv (.t 12)), none, 0⟩, ⟨(some 100), (.bin .neq (.t 98) (.t 99)), none, 0⟩]) (.cond (.t 100) (.seq (.reg false [⟨(some 4), (.mv (.c (.bool false))), none, 0⟩]) .ret) .skip)) (.seq (.reg false [⟨(some 4), (.mv (.c (.bool true))), none, 0⟩]) .ret))
def x3_2 : XCode := (.seq (.seq (.reg false [⟨(some 96), (.mv (.t 13)), none, 0⟩, ⟨(some 97), (.bin .lss (.t 96) (.c (.int .i64 0))), none, 0⟩]) (.cond (.t 97) (.seq (.reg false [⟨(some 4), (.mv (.c (.bool false))), none, 0⟩]) .ret) .skip)) x3_1)
def x3_3 : XCode := (.seq (.reg false [⟨(some 93), (.mv (.t 9)), none, 0⟩, ⟨(some 94), (.mv (.t 13)), none, 0⟩, ⟨(some 95), (.call (.c (.fn 17 [])) [(.t 93), (.t 94)]), none, 0⟩, ⟨(some 13), (.mv (.t 95)), none, 0⟩]) x3_2)
def x3_4 : XCode := (.seq (.reg false [⟨(some 13), (.mv (.c (.int .i64 1))), none, 0⟩]) x3_3)
def x3_5 : XCode := (.seq (.seq (.reg false [⟨(some 84), (.mv (.t 14)), none, 0⟩, ⟨(some 85), (.mv (.t 6)), none, 0⟩, ⟨(some 86), (.call (.c (.fn 15 [])) [(.t 84), (.t 85)]), none, 0⟩, ⟨(some 87), (.un .not (.t 86)), none, 0⟩, ⟨(some 88), (.mv (.t 87)), none, 0⟩, ⟨(some 89), (.mv (.t 15)), (some (88, false)), 0⟩, ⟨(some 90), (.mv (.t 7)), (some (88, false)), 0⟩, ⟨(some 91), (.eqb true (.t 89) (.t 90)), (some (88, false)), 0⟩, ⟨(some 92), (.pick (.t 88) (.c (.bool true)) (.t 91)), none, 0⟩]) (.cond (.t 92) (.seq (.reg false [⟨(some 4), (.mv (.c (.bool false))), none, 0⟩]) .ret) .skip)) x3_4)
def x3_6 : XCode := (.seq (.reg false [⟨(some 78), (.mv (.t 0)), none, 0⟩, ⟨(some 79), (.call (.c (.fn 13 [])) [(.t 78)]), none, 0⟩, ⟨(some 80), (.mv (.t 1)), none, 0⟩, ⟨(some 81), (.call (.c (.fn 14 [])) [(.t 79), (.t 80)]), none, 0⟩, ⟨(some 77), (.mv (.t 81)), none, 0⟩, ⟨(some 82), (.ext (.t 77) 0), none, 0⟩, ⟨(some 83), (.ext (.t 77) 1), none, 0⟩, ⟨(some 14), (.mv (.t 82)), none, 0⟩, ⟨(some 15), (.mv (.t 83)), none, 0⟩]) x3_5)
def x3_7 : XCode := (.seq (.seq (.reg false [⟨(some 74), (.mv (.t 13)), none, 0⟩, ⟨(some 75), (.mv (.t 12)), none, 0⟩, ⟨(some 76), (.bin .neq (.t 74) (.t 75)), none, 0⟩]) (.cond (.t 76) (.seq (.reg false [⟨(some 4), (.mv (.c (.bool false))), none, 0⟩]) .ret) .skip)) x3_6)
def x3_8 : XCode := (.seq (.seq (.reg false [⟨(some 72), (.mv (.t 13)), none, 0⟩, ⟨(some 73), (.bin .lss (.t 72) (.c (.int .i64 0))), none, 0⟩]) (.cond (.t 73) (.seq (.reg false [⟨(some 4), (.mv (.c (.bool false))), none, 0⟩]) .ret) .skip)) x3_7)
def x3_9 : XCode := (.seq (.reg false [⟨(some 69), (.mv (.t 9)), none, 0⟩, ⟨(some 70), (.mv (.t 13)), none, 0⟩, ⟨(some 71), (.call (.c (.fn 17 [])) [(.t 69), (.t 70)]), none, 0⟩, ⟨(some 13), (.mv (.t 71)), none, 0⟩]) x3_8)
def x3_10 : XCode := (.seq (.reg false [⟨(some 13), (.mv (.c (.int .i64 1))), none, 0⟩]) x3_9)
def x3_11 : XCode := (.seq (.reg false [⟨(some 66), (.mv (.t 9)), none, 0⟩, ⟨(some 67), (.mv (.t 12)), none, 0⟩, ⟨(some 68), (.call (.c (.fn 16 [])) [(.t 66), (.t 67)]), none, 0⟩, ⟨(some 12), (.mv (.t 68)), none, 0⟩]) x3_10)
def x3_12 : XCode := (.seq (.reg false [⟨(some 12), (.mv (.c (.int .i64 1))), none, 0⟩]) x3_11)
def x3_13 : XCode := (.seq (.seq (.reg false [⟨(some 53), (.mv (.t 11)), none, 0⟩, ⟨(some 54), (.bin .lss (.t 53) (.c (.int .i64 0))), none, 0⟩, ⟨(some 55), (.mv (.t 54)), none, 0⟩, ⟨(some 56), (.mv (.t 9)), (some (55, false)), 0⟩, ⟨(some 57), (.mv (.t 6)), (some (55, false)), 0⟩, ⟨(some 58), (.call (.c (.fn 15 [])) [(.t 56), (.t 57)]), (some (55, false)), 0⟩, ⟨(some 59), (.un .not (.t 58)), (some (55, false)), 0⟩, ⟨(some 60), (.pick (.t 55) (.c (.bool true)) (.t 59)), none, 0⟩, ⟨(some 61), (.mv (.t 60)), none, 0⟩, ⟨(some 62), (.mv (.t 10)), (some (61, false)), 0⟩, ⟨(some 63), (.mv (.t 7)), (some (61, false)), 0⟩, ⟨(some 64), (.eqb true (.t 62) (.t 63)), (some (61, false)), 0⟩, ⟨(some 65), (.pick (.t 61) (.c (.bool true)) (.t 64)), none, 0⟩]) (.cond (.t 65) (.seq (.reg false [⟨(some 4), (.mv (.c (.bool false))), none, 0⟩]) .ret) .skip)) x3_12)
def x3_14 : XCode := (.seq (.reg false [⟨(some 50), (.mv (.t 8)), none, 0⟩, ⟨(some 51), (.mv (.t 11)), none, 0⟩, ⟨(some 52), (.call (.c (.fn 16 [])) [(.t 50), (.t 51)]), none, 0⟩, ⟨(some 11), (.mv (.t 52)), none, 0⟩]) x3_13)
def x3_15 : XCode := (.seq (.reg false [⟨(some 11), (.mv (.c (.int .i64 1))), none, 0⟩]) x3_14)
def x3_16 : XCode := (.seq (.seq (.reg false [⟨(some 45), (.mv (.t 8)), none, 0⟩, ⟨(some 46), (.mv (.t 0)), none, 0⟩, ⟨(some 47), (.call (.c (.fn 13 [])) [(.t 46)]), none, 0⟩, ⟨(some 48), (.call (.c (.fn 15 [])) [(.t 45), (.t 47)]), none, 0⟩, ⟨(some 49), (.un .not (.t 48)), none, 0⟩]) (.cond (.t 49) (.seq (.reg false [⟨(some 4), (.mv (.c (.bool false))), none, 0⟩]) .ret) .skip)) x3_15)
def x3_17 : XCode := (.seq (.seq (.reg false [⟨(some 36), (.mv (.t 9)), none, 0⟩, ⟨(some 37), (.mv (.t 6)), none, 0⟩, ⟨(some 38), (.call (.c (.fn 15 [])) [(.t 36), (.t 37)]), none, 0⟩, ⟨(some 39), (.un .not (.t 38)), none, 0⟩, ⟨(some 40), (.mv (.t 39)), none, 0⟩, ⟨(some 41), (.mv (.t 10)), (some (40, false)), 0⟩, ⟨(some 42), (.mv (.t 7)), (some (40, false)), 0⟩, ⟨(some 43), (.eqb true (.t 41) (.t 42)), (some (40, false)), 0⟩, ⟨(some 44), (.pick (.t 40) (.c (.bool true)) (.t 43)), none, 0⟩]) (.cond (.t 44) (.seq (.reg false [⟨(some 4), (.mv (.c (.bool false))), none, 0⟩]) .ret) .skip)) x3_16)
def x3_18 : XCode := (.seq (.reg false [⟨(some 31), (.mv (.t 8)), none, 0⟩, ⟨(some 32), (.mv (.t 1)), none, 0⟩, ⟨(some 33), (.call (.c (.fn 14 [])) [(.t 31), (.t 32)]), none, 0⟩, ⟨(some 30), (.mv (.t 33)), none, 0⟩, ⟨(some 34), (.ext (.t 30) 0), none, 0⟩, ⟨(some 35), (.ext (.t 30) 1), none, 0⟩, ⟨(some 9), (.mv (.t 34)), none, 0⟩, ⟨(some 10), (.mv (.t 35)), none, 0⟩]) x3_17)
def x3_19 : XCode := (.seq (.reg false [⟨(some 28), (.mv (.t 0)), none, 0⟩, ⟨(some 29), (.call (.c (.fn 13 [])) [(.t 28)]), none, 0⟩, ⟨(some 8), (.mv (.t 29)), none, 0⟩]) x3_18)
def x3_20 : XCode := (.seq (.reg false [⟨(some 22), (.mv (.t 0)), none, 0⟩, ⟨(some 23), (.call (.c (.fn 13 [])) [(.t 22)]), none, 0⟩, ⟨(some 24), (.mv (.t 1)), none, 0⟩, ⟨(some 25), (.call (.c (.fn 12 [])) [(.t 23), (.t 24)]), none, 0⟩, ⟨(some 21), (.mv (.t 25)), none, 0⟩, ⟨(some 26), (.ext (.t 21) 0), none, 0⟩, ⟨(some 27), (.ext (.t 21) 1), none, 0⟩, ⟨(some 6), (.mv (.t 26)), none, 0⟩, ⟨(some 7), (.mv (.t 27)), none, 0⟩]) x3_19)
def x3_21 : XCode := (.seq (.seq (.reg false [⟨(some 19), (.mv (.t 5)), none, 0⟩, ⟨(some 20), (.bin .lss (.t 19) (.c (.int .i64 0))), none, 0⟩]) (.cond (.t 20) (.seq (.reg false [⟨(some 4), (.mv (.c (.bool true))), none, 0⟩]) .ret) .skip)) x3_20)
def x3_22 : XCode := (.seq (.reg false [⟨(some 16), (.mv (.t 0)), none, 0⟩, ⟨(some 17), (.mv (.t 5)), none, 0⟩, ⟨(some 18), (.call (.c (.fn 11 [])) [(.t 16), (.t 17)]), none, 0⟩, ⟨(some 5), (.mv (.t 18)), none, 0⟩]) x3_21)
def x3_23 : XCode := (.seq (.reg false [⟨(some 5), (.mv (.c (.int .i64 1048576))), none, 0⟩]) x3_22)
def x3 : XFn := ⟨(.seq (.reg false [⟨(some 4), (.mv (.c (.bool false))), none, 0⟩]) x3_23), 101, [(.t 4)]⟩
theorem ok3 : FnOk Try.prog T 3 x3 := ⟨Try.f3, [], Try.func3, by decide +kernel, by kernel_rfl⟩
def fl : List (Nat × XFn) := [(11, x11), (41, x41), (64, x64), (40, x40), (12, x12), (42, x42), (13, x13), (44, x44), (43, x43), (65, x65), (45, x45), (46, x46), (14, x14), (47, x47), (15, x15), (16, x16), (17, x17), (3, x3)]
theorem fl_ok : ∀ p ∈ fl, FnOk Try.prog T p.1 p.2 := by
  simp only [fl, List.forall_mem_cons]
  exact ⟨ok11, ok41, ok64, ok40, ok12, ok42, ok13, ok44, ok43, ok65, ok45, ok46, ok14, ok47, ok15, ok16, ok17, ok3, fun _ h => by cases h⟩
def roL : List Nat := [3, 11, 12, 15, 17, 40, 41, 42, 43, 44, 46, 47, 64, 65]
def mkL : List Nat := [13, 14]
def coL : List Nat := []
def modeF (n : Nat) : Nat := if roL.contains n then 1 else if mkL.contains n then 2 else if coL.contains n then 3 else 0
def E : Env := ⟨fnsL fl, modeF, szL tl⟩
end Go.Proofs.Ytddkoiapboeemaa.X
