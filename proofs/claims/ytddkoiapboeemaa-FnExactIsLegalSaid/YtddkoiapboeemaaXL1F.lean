/- The seat's types and functions as X has them; the kernel checks each against the program. -/
import Derived.Test.YtddkoiapboeemaaZSrt
import Derived.Test.YtddkoiapboeemaaZIns
set_option linter.unusedVariables false
set_option linter.unusedSimpArgs false
set_option maxRecDepth 100000
namespace Go.Proofs.Ytddkoiapboeemaa.X
open Go
open Nat (reduceEqDiff)
def tl : List (Nat × TI) := [(1, ⟨.other, 1, 8, [.nilfn]⟩),
  (2, ⟨(.int .i64), 1, 8, [(.int .i64 0)]⟩),
  (3, ⟨(.int .i64), 1, 8, [(.int .i64 0)]⟩),
  (4, ⟨.bool, 1, 1, [(.bool false)]⟩),
  (5, ⟨(.int .u8), 1, 1, [(.int .u8 0)]⟩),
  (6, ⟨(.int .u8), 1, 1, [(.int .u8 0)]⟩),
  (7, ⟨(.struct [(0, 2), (1, 3), (2, 4), (3, 6)]), 4, 24, [(.int .i64 0), (.int .i64 0), (.bool false), (.int .u8 0)]⟩),
  (8, ⟨(.struct [(0, 2), (1, 3), (2, 4), (3, 6)]), 4, 24, [(.int .i64 0), (.int .i64 0), (.bool false), (.int .u8 0)]⟩),
  (9, ⟨.str, 1, 16, [(.str (ByteArray.mk #[]))]⟩),
  (10, ⟨.str, 1, 16, [(.str (ByteArray.mk #[]))]⟩),
  (11, ⟨.str, 1, 16, [(.str (ByteArray.mk #[]))]⟩),
  (12, ⟨(.int .u64), 1, 8, [(.int .u64 0)]⟩),
  (15, ⟨.ptr, 1, 8, [.nilptr]⟩),
  (16, ⟨.ptr, 1, 8, [.nilptr]⟩),
  (17, ⟨.ptr, 1, 8, [.nilptr]⟩),
  (21, ⟨(.int .i32), 1, 4, [(.int .i32 0)]⟩),
  (22, ⟨(.slice 57), 1, 24, [.nil]⟩),
  (23, ⟨.other, 1, 8, [.nilfn]⟩),
  (24, ⟨(.slice 55), 1, 24, [.nil]⟩),
  (26, ⟨.other, 1, 8, [.nilfn]⟩),
  (27, ⟨.other, 1, 8, [.nilfn]⟩),
  (28, ⟨.other, 1, 8, [.nilfn]⟩),
  (29, ⟨.other, 1, 8, [.nilfn]⟩),
  (30, ⟨.other, 1, 8, [.nilfn]⟩),
  (32, ⟨.other, 1, 8, [.nilfn]⟩),
  (33, ⟨.other, 1, 8, [.nilfn]⟩),
  (34, ⟨(.slice 3), 1, 24, [.nil]⟩),
  (36, ⟨.other, 1, 8, [.nilfn]⟩),
  (37, ⟨.other, 1, 8, [.nilfn]⟩),
  (38, ⟨.other, 1, 8, [.nilfn]⟩),
  (39, ⟨.other, 1, 8, [.nilfn]⟩),
  (40, ⟨.other, 1, 8, [.nilfn]⟩),
  (41, ⟨.other, 1, 8, [.nilfn]⟩),
  (42, ⟨(.slice 5), 1, 24, [.nil]⟩),
  (43, ⟨.other, 1, 8, [.nilfn]⟩),
  (45, ⟨.other, 1, 8, [.nilfn]⟩),
  (46, ⟨.other, 1, 8, [.nilfn]⟩),
  (47, ⟨.other, 1, 8, [.nilfn]⟩),
  (49, ⟨.other, 1, 8, [.nilfn]⟩),
  (51, ⟨.other, 1, 8, [.nilfn]⟩),
  (52, ⟨.other, 1, 8, [.nilfn]⟩),
  (53, ⟨.other, 1, 8, [.nilfn]⟩),
  (54, ⟨(.struct [(0, 3), (1, 3), (2, 4), (3, 3), (4, 3), (5, 3)]), 6, 48, [(.int .i64 0), (.int .i64 0), (.bool false), (.int .i64 0), (.int .i64 0), (.int .i64 0)]⟩),
  (55, ⟨(.struct [(0, 3), (1, 3), (2, 4), (3, 3), (4, 3), (5, 3)]), 6, 48, [(.int .i64 0), (.int .i64 0), (.bool false), (.int .i64 0), (.int .i64 0), (.int .i64 0)]⟩),
  (56, ⟨.other, 1, 8, [.nilfn]⟩),
  (57, ⟨(.struct [(0, 3), (1, 3), (2, 4), (3, 3), (4, 3), (5, 3)]), 6, 48, [(.int .i64 0), (.int .i64 0), (.bool false), (.int .i64 0), (.int .i64 0), (.int .i64 0)]⟩),
  (58, ⟨.other, 1, 8, [.nilfn]⟩),
  (59, ⟨.other, 1, 8, [.nilfn]⟩),
  (60, ⟨.other, 1, 8, [.nilfn]⟩),
  (61, ⟨.other, 1, 8, [.nilfn]⟩),
  (62, ⟨.other, 1, 8, [.nilfn]⟩),
  (63, ⟨.other, 1, 8, [.nilfn]⟩),
  (64, ⟨.other, 1, 8, [.nilfn]⟩),
  (65, ⟨.other, 1, 8, [.nilfn]⟩),
  (66, ⟨.other, 1, 8, [.nilfn]⟩),
  (67, ⟨.other, 1, 8, [.nilfn]⟩),
  (68, ⟨.other, 1, 8, [.nilfn]⟩),
  (69, ⟨.ptr, 1, 8, [.nilptr]⟩),
  (70, ⟨(.int .u64), 1, 8, [(.int .u64 0)]⟩),
  (71, ⟨(.struct [(0, 42), (1, 3), (2, 70)]), 3, 40, [.nil, (.int .i64 0), (.int .u64 0)]⟩),
  (72, ⟨(.struct [(0, 42), (1, 3), (2, 70)]), 3, 40, [.nil, (.int .i64 0), (.int .u64 0)]⟩),
  (73, ⟨.other, 1, 8, [.nilfn]⟩),
  (74, ⟨.other, 1, 8, [.nilfn]⟩),
  (75, ⟨.other, 1, 8, [.nilfn]⟩),
  (76, ⟨.other, 1, 8, [.nilfn]⟩),
  (77, ⟨.other, 1, 8, [.nilfn]⟩),
  (78, ⟨.other, 1, 8, [.nilfn]⟩),
  (79, ⟨.other, 1, 8, [.nilfn]⟩),
  (80, ⟨.other, 1, 8, [.nilfn]⟩),
  (81, ⟨(.array 3 3), 3, 24, [(.int .i64 0), (.int .i64 0), (.int .i64 0)]⟩),
  (82, ⟨.other, 1, 8, [.nilfn]⟩),
  (83, ⟨.other, 1, 8, [.nilfn]⟩),
  (84, ⟨.other, 1, 8, [.nilfn]⟩),
  (85, ⟨.other, 1, 8, [.nilfn]⟩),
  (86, ⟨(.int .u64), 1, 8, [(.int .u64 0)]⟩),
  (87, ⟨.other, 1, 8, [.nilfn]⟩),
  (88, ⟨(.int .i64), 1, 8, [(.int .i64 0)]⟩),
  (90, ⟨.other, 1, 8, [.nilfn]⟩),
  (91, ⟨.other, 1, 8, [.nilfn]⟩),
  (92, ⟨.other, 1, 8, [.nilfn]⟩),
  (93, ⟨.other, 1, 8, [.nilfn]⟩),
  (94, ⟨.other, 1, 8, [.nilfn]⟩),
  (95, ⟨(.int .u32), 1, 4, [(.int .u32 0)]⟩),
  (96, ⟨.other, 1, 8, [.nilfn]⟩),
  (97, ⟨(.int .u64), 1, 8, [(.int .u64 0)]⟩),
  (98, ⟨.other, 1, 8, [.nilfn]⟩),
  (99, ⟨.other, 1, 8, [.nilfn]⟩),
  (100, ⟨.other, 1, 8, [.nilfn]⟩),
  (101, ⟨.ptr, 1, 8, [.nilptr]⟩),
  (102, ⟨.other, 1, 8, [.nilfn]⟩),
  (103, ⟨.ptr, 1, 8, [.nilptr]⟩),
  (105, ⟨.other, 1, 8, [.nilfn]⟩),
  (106, ⟨.other, 1, 8, [.nilfn]⟩),
  (109, ⟨(.array 0 16), 0, 0, []⟩),
  (112, ⟨(.int .u8), 1, 1, [(.int .u8 0)]⟩),
  (113, ⟨(.int .u8), 1, 1, [(.int .u8 0)]⟩),
  (114, ⟨.other, 1, 8, [.nilfn]⟩),
  (115, ⟨.ptr, 1, 8, [.nilptr]⟩),
  (116, ⟨(.int .i32), 1, 4, [(.int .i32 0)]⟩),
  (117, ⟨(.int .i32), 1, 4, [(.int .i32 0)]⟩)]
abbrev T : Tab := tabL tl
theorem tl_ok : ∀ p ∈ tl, tabOf Try.prog p.1 = some p.2 := by
  simp only [tl, List.forall_mem_cons]
  exact ⟨by kernel_rfl, by kernel_rfl, by kernel_rfl, by kernel_rfl, by kernel_rfl, by kernel_rfl, by kernel_rfl, by kernel_rfl, by kernel_rfl, by kernel_rfl, by kernel_rfl, by kernel_rfl, by kernel_rfl, by kernel_rfl, by kernel_rfl, by kernel_rfl, by kernel_rfl, by kernel_rfl, by kernel_rfl, by kernel_rfl, by kernel_rfl, by kernel_rfl, by kernel_rfl, by kernel_rfl, by kernel_rfl, by kernel_rfl, by kernel_rfl, by kernel_rfl, by kernel_rfl, by kernel_rfl, by kernel_rfl, by kernel_rfl, by kernel_rfl, by kernel_rfl, by kernel_rfl, by kernel_rfl, by kernel_rfl, by kernel_rfl, by kernel_rfl, by kernel_rfl, by kernel_rfl, by kernel_rfl, by kernel_rfl, by kernel_rfl, by kernel_rfl, by kernel_rfl, by kernel_rfl, by kernel_rfl, by kernel_rfl, by kernel_rfl, by kernel_rfl, by kernel_rfl, by kernel_rfl, by kernel_rfl, by kernel_rfl, by kernel_rfl, by kernel_rfl, by kernel_rfl, by kernel_rfl, by kernel_rfl, by kernel_rfl, by kernel_rfl, by kernel_rfl, by kernel_rfl, by kernel_rfl, by kernel_rfl, by kernel_rfl, by kernel_rfl, by kernel_rfl, by kernel_rfl, by kernel_rfl, by kernel_rfl, by kernel_rfl, by kernel_rfl, by kernel_rfl, by kernel_rfl, by kernel_rfl, by kernel_rfl, by kernel_rfl, by kernel_rfl, by kernel_rfl, by kernel_rfl, by kernel_rfl, by kernel_rfl, by kernel_rfl, by kernel_rfl, by kernel_rfl, by kernel_rfl, by kernel_rfl, by kernel_rfl, by kernel_rfl, by kernel_rfl, by kernel_rfl, by kernel_rfl, by kernel_rfl, by kernel_rfl, by kernel_rfl, by kernel_rfl, by kernel_rfl, by kernel_rfl, fun _ h => by cases h⟩
/-- laws.szCallS -/
def x11_1 : XCode := (.seq (.seq (.reg false [⟨(some 9), (.mv (.t 1)), none, 0⟩, ⟨(some 10), (.bin .lss (.t 9) (.c (.int .i64 0))), none, 0⟩]) (.cond (.t 10) (.seq (.reg false [⟨(some 4), (.mv (.c (.int .i64 (-1)))), none, 0⟩]) .ret) .skip)) (.seq (.reg false [⟨(some 11), (.mv (.t 1)), none, 0⟩, ⟨(some 4), (.mv (.t 11)), none, 0⟩]) .ret))
def x11_2 : XCode := (.seq (.reg false [⟨(some 5), (.mv (.t 1)), none, 0⟩, ⟨(some 6), (.mv (.t 0)), none, 0⟩, ⟨(some 7), (.len (.t 6)), none, 0⟩, ⟨(some 8), (.bin .sub (.t 5) (.t 7)), none, 0⟩, ⟨(some 1), (.mv (.t 8)), none, 0⟩]) x11_1)
def x11 : XFn := ⟨(.seq (.reg false [⟨(some 4), (.mv (.c (.int .i64 0))), none, 0⟩]) x11_2), 12, [(.t 4)]⟩
theorem ok11 : FnOk Try.prog T 11 x11 := ⟨Try.f11, [], Try.func11, by decide +kernel, by kernel_rfl⟩
/-- laws.toCall -/
def x42_1 : XCode := (.seq (.reg false [⟨(some 19), (.fa 5 (.t 1)), none, 0⟩, ⟨(some 20), (.ld none (.t 19)), none, 0⟩, ⟨(some 21), (.fa 5 (.t 3)), none, 0⟩, ⟨none, (.st 1 (.t 21) (.t 20)), none, 0⟩]) (.seq (.reg false [⟨(some 22), (.ld (some 6) (.t 3)), none, 0⟩, ⟨none, (.st 6 (.t 2) (.t 22)), none, 0⟩]) .ret))
def x42_2 : XCode := (.seq (.reg false [⟨(some 16), (.fa 4 (.t 1)), none, 0⟩, ⟨(some 17), (.ld none (.t 16)), none, 0⟩, ⟨(some 18), (.fa 4 (.t 3)), none, 0⟩, ⟨none, (.st 1 (.t 18) (.t 17)), none, 0⟩]) x42_1)
def x42_3 : XCode := (.seq (.reg false [⟨(some 13), (.fa 3 (.t 1)), none, 0⟩, ⟨(some 14), (.ld none (.t 13)), none, 0⟩, ⟨(some 15), (.fa 3 (.t 3)), none, 0⟩, ⟨none, (.st 1 (.t 15) (.t 14)), none, 0⟩]) x42_2)
def x42_4 : XCode := (.seq (.reg false [⟨(some 10), (.fa 2 (.t 1)), none, 0⟩, ⟨(some 11), (.ld none (.t 10)), none, 0⟩, ⟨(some 12), (.fa 2 (.t 3)), none, 0⟩, ⟨none, (.st 1 (.t 12) (.t 11)), none, 0⟩]) x42_3)
def x42_5 : XCode := (.seq (.reg false [⟨(some 7), (.fa 1 (.t 1)), none, 0⟩, ⟨(some 8), (.ld none (.t 7)), none, 0⟩, ⟨(some 9), (.fa 1 (.t 3)), none, 0⟩, ⟨none, (.st 1 (.t 9) (.t 8)), none, 0⟩]) x42_4)
def x42_6 : XCode := (.seq (.reg false [⟨(some 4), (.fa 0 (.t 1)), none, 0⟩, ⟨(some 5), (.ld none (.t 4)), none, 0⟩, ⟨(some 6), (.fa 0 (.t 3)), none, 0⟩, ⟨none, (.st 1 (.t 6) (.t 5)), none, 0⟩]) x42_5)
def x42_7 : XCode := (.seq (.reg false [⟨(some 3), (.new 55 [(.int .i64 0), (.int .i64 0), (.bool false), (.int .i64 0), (.int .i64 0), (.int .i64 0)]), none, 0⟩]) x42_6)
def x42 : XFn := ⟨(.seq (.seq (.reg false [⟨(some 1), (.box 57 6 (.t 0)), none, 0⟩, ⟨(some 2), (.new 55 [(.int .i64 0), (.int .i64 0), (.bool false), (.int .i64 0), (.int .i64 0), (.int .i64 0)]), none, 0⟩]) (.frz [1])) x42_7), 23, [(.cell 2 (some 6))]⟩
theorem ok42 : FnOk Try.prog T 42 x42 := ⟨Try.f42, [.frz [1]], Try.func42, by decide +kernel, by kernel_rfl⟩
/-- laws.toCallS -/
def x13_1 : XCode := (.reg false [⟨(some 14), (.mv (.t 3)), none, 0⟩, ⟨(some 15), (.mv (.t 4)), none, 0⟩, ⟨(some 16), (.mv (.t 0)), none, 0⟩, ⟨(some 17), (.mv (.t 4)), none, 0⟩, ⟨(some 18), (.ia 6 (.t 16) (.t 17)), none, 0⟩, ⟨(some 19), (.ld (some 6) (.t 18)), none, 0⟩, ⟨(some 20), (.call (.c (.fn 42 [])) [(.t 19)]), none, 0⟩, ⟨(some 21), (.ia 6 (.t 14) (.t 15)), none, 0⟩, ⟨none, (.st 6 (.t 21) (.t 20)), none, 0⟩])
def x13_2 : XCode := (.seq (.block 1 x13_1) (.reg false [⟨(some 12), (.mv (.t 4)), none, 0⟩, ⟨(some 13), (.bin .add (.t 12) (.c (.int .i64 1))), none, 0⟩, ⟨(some 4), (.mv (.t 13)), none, 0⟩]))
def x13_3 : XCode := (.seq (.seq (.reg false [⟨(some 8), (.mv (.t 4)), none, 0⟩, ⟨(some 9), (.mv (.t 0)), none, 0⟩, ⟨(some 10), (.len (.t 9)), none, 0⟩, ⟨(some 11), (.bin .lss (.t 8) (.t 10)), none, 0⟩]) (.cond (.t 11) .skip (.exit 0))) x13_2)
def x13_4 : XCode := (.block 0 (.loop [0, 3, 4] x13_3))
def x13_5 : XCode := x13_4
def x13_6 : XCode := (.seq (.seq (.reg false [⟨(some 4), (.mv (.c (.int .i64 0))), none, 0⟩]) x13_5) (.seq (.reg false [⟨(some 22), (.mv (.t 3)), none, 0⟩, ⟨(some 2), (.mv (.t 22)), none, 0⟩]) .ret))
def x13_7 : XCode := (.seq (.reg false [⟨(some 5), (.mv (.t 0)), none, 0⟩, ⟨(some 6), (.len (.t 5)), none, 0⟩, ⟨(some 7), (.mkS 55 6 48 [(.int .i64 0), (.int .i64 0), (.bool false), (.int .i64 0), (.int .i64 0), (.int .i64 0)] (.t 6) (.t 6)), none, 0⟩, ⟨(some 3), (.mv (.t 7)), none, 0⟩]) x13_6)
def x13 : XFn := ⟨(.seq (.reg false [⟨(some 2), (.mv (.c .nil)), none, 0⟩]) x13_7), 23, [(.t 2)]⟩
theorem ok13 : FnOk Try.prog T 13 x13 := ⟨Try.f13, [.loop [0, 3, 4]], Try.func13, by decide +kernel, by kernel_rfl⟩
/-- laws.eqCall -/
def x47_1 : XCode := (.seq (.seq (.reg false [⟨(some 30), (.fa 5 (.t 2)), none, 0⟩, ⟨(some 31), (.ld none (.t 30)), none, 0⟩, ⟨(some 32), (.fa 5 (.t 3)), none, 0⟩, ⟨(some 33), (.ld none (.t 32)), none, 0⟩, ⟨(some 34), (.bin .neq (.t 31) (.t 33)), none, 0⟩]) (.cond (.t 34) (.seq (.reg false [⟨(some 4), (.mv (.c (.bool false))), none, 0⟩]) .ret) .skip)) (.seq (.reg false [⟨(some 4), (.mv (.c (.bool true))), none, 0⟩]) .ret))
def x47_2 : XCode := (.seq (.seq (.reg false [⟨(some 25), (.fa 4 (.t 2)), none, 0⟩, ⟨(some 26), (.ld none (.t 25)), none, 0⟩, ⟨(some 27), (.fa 4 (.t 3)), none, 0⟩, ⟨(some 28), (.ld none (.t 27)), none, 0⟩, ⟨(some 29), (.bin .neq (.t 26) (.t 28)), none, 0⟩]) (.cond (.t 29) (.seq (.reg false [⟨(some 4), (.mv (.c (.bool false))), none, 0⟩]) .ret) .skip)) x47_1)
def x47_3 : XCode := (.seq (.seq (.reg false [⟨(some 20), (.fa 3 (.t 2)), none, 0⟩, ⟨(some 21), (.ld none (.t 20)), none, 0⟩, ⟨(some 22), (.fa 3 (.t 3)), none, 0⟩, ⟨(some 23), (.ld none (.t 22)), none, 0⟩, ⟨(some 24), (.bin .neq (.t 21) (.t 23)), none, 0⟩]) (.cond (.t 24) (.seq (.reg false [⟨(some 4), (.mv (.c (.bool false))), none, 0⟩]) .ret) .skip)) x47_2)
def x47_4 : XCode := (.seq (.seq (.reg false [⟨(some 15), (.fa 2 (.t 2)), none, 0⟩, ⟨(some 16), (.ld none (.t 15)), none, 0⟩, ⟨(some 17), (.fa 2 (.t 3)), none, 0⟩, ⟨(some 18), (.ld none (.t 17)), none, 0⟩, ⟨(some 19), (.eqb true (.t 16) (.t 18)), none, 0⟩]) (.cond (.t 19) (.seq (.reg false [⟨(some 4), (.mv (.c (.bool false))), none, 0⟩]) .ret) .skip)) x47_3)
def x47_5 : XCode := (.seq (.seq (.reg false [⟨(some 10), (.fa 1 (.t 2)), none, 0⟩, ⟨(some 11), (.ld none (.t 10)), none, 0⟩, ⟨(some 12), (.fa 1 (.t 3)), none, 0⟩, ⟨(some 13), (.ld none (.t 12)), none, 0⟩, ⟨(some 14), (.bin .neq (.t 11) (.t 13)), none, 0⟩]) (.cond (.t 14) (.seq (.reg false [⟨(some 4), (.mv (.c (.bool false))), none, 0⟩]) .ret) .skip)) x47_4)
def x47_6 : XCode := (.seq (.seq (.reg false [⟨(some 5), (.fa 0 (.t 2)), none, 0⟩, ⟨(some 6), (.ld none (.t 5)), none, 0⟩, ⟨(some 7), (.fa 0 (.t 3)), none, 0⟩, ⟨(some 8), (.ld none (.t 7)), none, 0⟩, ⟨(some 9), (.bin .neq (.t 6) (.t 8)), none, 0⟩]) (.cond (.t 9) (.seq (.reg false [⟨(some 4), (.mv (.c (.bool false))), none, 0⟩]) .ret) .skip)) x47_5)
def x47 : XFn := ⟨(.seq (.seq (.reg false [⟨(some 2), (.box 55 6 (.t 0)), none, 0⟩, ⟨(some 3), (.box 55 6 (.t 1)), none, 0⟩, ⟨(some 4), (.mv (.c (.bool false))), none, 0⟩]) (.frz [2, 3])) x47_6), 35, [(.t 4)]⟩
theorem ok47 : FnOk Try.prog T 47 x47 := ⟨Try.f47, [.frz [2, 3]], Try.func47, by decide +kernel, by kernel_rfl⟩
/-- laws.eqCallS -/
def x15_1 : XCode := (.seq (.reg true [⟨(some 17), (.mv (.t 0)), none, 4⟩, ⟨(some 18), (.mv (.t 5)), none, 4⟩, ⟨(some 19), (.ia 6 (.t 17) (.t 18)), none, 4⟩, ⟨(some 20), (.ld (some 6) (.t 19)), none, 4⟩, ⟨(some 21), (.mv (.t 1)), none, 4⟩, ⟨(some 22), (.mv (.t 5)), none, 4⟩, ⟨(some 23), (.ia 6 (.t 21) (.t 22)), none, 4⟩, ⟨(some 24), (.ld (some 6) (.t 23)), none, 4⟩, ⟨(some 25), (.call (.c (.fn 47 [])) [(.t 20), (.t 24)]), none, 3⟩, ⟨(some 26), (.un .not (.t 25)), none, 4⟩]) (.cond (.t 26) (.seq (.reg false [⟨(some 4), (.mv (.c (.bool false))), none, 0⟩]) .ret) .skip))
def x15_2 : XCode := (.seq (.block 1 x15_1) (.reg false [⟨(some 15), (.mv (.t 5)), none, 0⟩, ⟨(some 16), (.bin .add (.t 15) (.c (.int .i64 1))), none, 0⟩, ⟨(some 5), (.mv (.t 16)), none, 0⟩]))
def x15_3 : XCode := (.seq (.seq (.reg false [⟨(some 11), (.mv (.t 5)), none, 0⟩, ⟨(some 12), (.mv (.t 0)), none, 0⟩, ⟨(some 13), (.len (.t 12)), none, 0⟩, ⟨(some 14), (.bin .lss (.t 11) (.t 13)), none, 0⟩]) (.cond (.t 14) .skip (.exit 0))) x15_2)
def x15_4 : XCode := (.block 0 (.loop [0, 1, 5] x15_3))
def x15_5 : XCode := x15_4
def x15_6 : XCode := (.seq (.seq (.reg false [⟨(some 5), (.mv (.c (.int .i64 0))), none, 0⟩]) x15_5) (.seq (.reg false [⟨(some 4), (.mv (.c (.bool true))), none, 0⟩]) .ret))
def x15_7 : XCode := (.seq (.seq (.reg false [⟨(some 6), (.mv (.t 0)), none, 0⟩, ⟨(some 7), (.len (.t 6)), none, 0⟩, ⟨(some 8), (.mv (.t 1)), none, 0⟩, ⟨(some 9), (.len (.t 8)), none, 0⟩, ⟨(some 10), (.bin .neq (.t 7) (.t 9)), none, 0⟩]) (.cond (.t 10) (.seq (.reg false [⟨(some 4), (.mv (.c (.bool false))), none, 0⟩]) .ret) .skip)) x15_6)
def x15 : XFn := ⟨(.seq (.reg false [⟨(some 4), (.mv (.c (.bool false))), none, 0⟩]) x15_7), 27, [(.t 4)]⟩
theorem ok15 : FnOk Try.prog T 15 x15 := ⟨Try.f15, [.loop [0, 1, 5], .draw [0, 1, 2, 3, 4, 5, 6, 7, 8, 9] [4, 4, 4, 4, 4, 4, 4, 4, 3, 4]], Try.func15, by decide +kernel, by kernel_rfl⟩
/-- laws.eqIntS -/
def x24_1 : XCode := (.seq (.reg true [⟨(some 17), (.mv (.t 0)), none, 4⟩, ⟨(some 18), (.mv (.t 5)), none, 4⟩, ⟨(some 19), (.ia 1 (.t 17) (.t 18)), none, 4⟩, ⟨(some 20), (.ld none (.t 19)), none, 4⟩, ⟨(some 21), (.mv (.t 1)), none, 4⟩, ⟨(some 22), (.mv (.t 5)), none, 4⟩, ⟨(some 23), (.ia 1 (.t 21) (.t 22)), none, 4⟩, ⟨(some 24), (.ld none (.t 23)), none, 4⟩, ⟨(some 25), (.bin .neq (.t 20) (.t 24)), none, 4⟩]) (.cond (.t 25) (.seq (.reg false [⟨(some 4), (.mv (.c (.bool false))), none, 0⟩]) .ret) .skip))
def x24_2 : XCode := (.seq (.block 1 x24_1) (.reg false [⟨(some 15), (.mv (.t 5)), none, 0⟩, ⟨(some 16), (.bin .add (.t 15) (.c (.int .i64 1))), none, 0⟩, ⟨(some 5), (.mv (.t 16)), none, 0⟩]))
def x24_3 : XCode := (.seq (.seq (.reg false [⟨(some 11), (.mv (.t 5)), none, 0⟩, ⟨(some 12), (.mv (.t 0)), none, 0⟩, ⟨(some 13), (.len (.t 12)), none, 0⟩, ⟨(some 14), (.bin .lss (.t 11) (.t 13)), none, 0⟩]) (.cond (.t 14) .skip (.exit 0))) x24_2)
def x24_4 : XCode := (.block 0 (.loop [0, 1, 5] x24_3))
def x24_5 : XCode := x24_4
def x24_6 : XCode := (.seq (.seq (.reg false [⟨(some 5), (.mv (.c (.int .i64 0))), none, 0⟩]) x24_5) (.seq (.reg false [⟨(some 4), (.mv (.c (.bool true))), none, 0⟩]) .ret))
def x24_7 : XCode := (.seq (.seq (.reg false [⟨(some 6), (.mv (.t 0)), none, 0⟩, ⟨(some 7), (.len (.t 6)), none, 0⟩, ⟨(some 8), (.mv (.t 1)), none, 0⟩, ⟨(some 9), (.len (.t 8)), none, 0⟩, ⟨(some 10), (.bin .neq (.t 7) (.t 9)), none, 0⟩]) (.cond (.t 10) (.seq (.reg false [⟨(some 4), (.mv (.c (.bool false))), none, 0⟩]) .ret) .skip)) x24_6)
def x24 : XFn := ⟨(.seq (.reg false [⟨(some 4), (.mv (.c (.bool false))), none, 0⟩]) x24_7), 26, [(.t 4)]⟩
theorem ok24 : FnOk Try.prog T 24 x24 := ⟨Try.f24, [.loop [0, 1, 5], .draw [0, 1, 2, 3, 4, 5, 6, 7, 8] [4, 4, 4, 4, 4, 4, 4, 4, 4]], Try.func24, by decide +kernel, by kernel_rfl⟩
/-- laws.toIntS -/
def x28_1 : XCode := (.reg false [⟨(some 14), (.mv (.t 3)), none, 0⟩, ⟨(some 15), (.mv (.t 4)), none, 0⟩, ⟨(some 16), (.mv (.t 0)), none, 0⟩, ⟨(some 17), (.mv (.t 4)), none, 0⟩, ⟨(some 18), (.ia 1 (.t 16) (.t 17)), none, 0⟩, ⟨(some 19), (.ld none (.t 18)), none, 0⟩, ⟨(some 20), (.ia 1 (.t 14) (.t 15)), none, 0⟩, ⟨none, (.st 1 (.t 20) (.t 19)), none, 0⟩])
def x28_2 : XCode := (.seq (.block 1 x28_1) (.reg false [⟨(some 12), (.mv (.t 4)), none, 0⟩, ⟨(some 13), (.bin .add (.t 12) (.c (.int .i64 1))), none, 0⟩, ⟨(some 4), (.mv (.t 13)), none, 0⟩]))
def x28_3 : XCode := (.seq (.seq (.reg false [⟨(some 8), (.mv (.t 4)), none, 0⟩, ⟨(some 9), (.mv (.t 0)), none, 0⟩, ⟨(some 10), (.len (.t 9)), none, 0⟩, ⟨(some 11), (.bin .lss (.t 8) (.t 10)), none, 0⟩]) (.cond (.t 11) .skip (.exit 0))) x28_2)
def x28_4 : XCode := (.block 0 (.loop [0, 3, 4] x28_3))
def x28_5 : XCode := x28_4
def x28_6 : XCode := (.seq (.seq (.reg false [⟨(some 4), (.mv (.c (.int .i64 0))), none, 0⟩]) x28_5) (.seq (.reg false [⟨(some 21), (.mv (.t 3)), none, 0⟩, ⟨(some 2), (.mv (.t 21)), none, 0⟩]) .ret))
def x28_7 : XCode := (.seq (.reg false [⟨(some 5), (.mv (.t 0)), none, 0⟩, ⟨(some 6), (.len (.t 5)), none, 0⟩, ⟨(some 7), (.mkS 3 1 8 [(.int .i64 0)] (.t 6) (.t 6)), none, 0⟩, ⟨(some 3), (.mv (.t 7)), none, 0⟩]) x28_6)
def x28 : XFn := ⟨(.seq (.reg false [⟨(some 2), (.mv (.c .nil)), none, 0⟩]) x28_7), 22, [(.t 2)]⟩
theorem ok28 : FnOk Try.prog T 28 x28 := ⟨Try.f28, [.loop [0, 3, 4]], Try.func28, by decide +kernel, by kernel_rfl⟩
/-- spec.l1In -/
def x41_1 : XCode := (.seq (.reg false [⟨(some 7), (.mv (.t 0)), none, 0⟩, ⟨(some 8), (.mv (.t 1)), none, 0⟩, ⟨(some 9), (.bin .geq (.t 7) (.t 8)), none, 0⟩, ⟨(some 10), (.mv (.t 9)), none, 0⟩, ⟨(some 11), (.mv (.t 0)), (some (10, true)), 0⟩, ⟨(some 12), (.mv (.t 2)), (some (10, true)), 0⟩, ⟨(some 13), (.bin .leq (.t 11) (.t 12)), (some (10, true)), 0⟩, ⟨(some 14), (.pick (.t 10) (.t 13) (.c (.bool false))), none, 0⟩, ⟨(some 6), (.mv (.t 14)), none, 0⟩]) .ret)
def x41 : XFn := ⟨(.seq (.reg false [⟨(some 6), (.mv (.c (.bool false))), none, 0⟩]) x41_1), 15, [(.t 6)]⟩
theorem ok41 : FnOk Try.prog T 41 x41 := ⟨Try.f41, [], Try.func41, by decide +kernel, by kernel_rfl⟩
/-- spec.l15Call -/
def x64_1 : XCode := (.seq (.reg false [⟨(some 3), (.fa 0 (.t 1)), none, 0⟩, ⟨(some 4), (.ld none (.t 3)), none, 0⟩, ⟨(some 5), (.call (.c (.fn 41 [])) [(.t 4), (.c (.int .i64 0)), (.c (.int .i64 3))]), none, 0⟩, ⟨(some 6), (.mv (.t 5)), none, 0⟩, ⟨(some 7), (.fa 1 (.t 1)), (some (6, true)), 0⟩, ⟨(some 8), (.ld none (.t 7)), (some (6, true)), 0⟩, ⟨(some 9), (.call (.c (.fn 41 [])) [(.t 8), (.c (.int .i64 0)), (.c (.int .i64 2))]), (some (6, true)), 0⟩, ⟨(some 10), (.pick (.t 6) (.t 9) (.c (.bool false))), none, 0⟩, ⟨(some 11), (.mv (.t 10)), none, 0⟩, ⟨(some 12), (.fa 3 (.t 1)), (some (11, true)), 0⟩, ⟨(some 13), (.ld none (.t 12)), (some (11, true)), 0⟩, ⟨(some 14), (.call (.c (.fn 41 [])) [(.t 13), (.c (.int .i64 0)), (.c (.int .i64 9))]), (some (11, true)), 0⟩, ⟨(some 15), (.pick (.t 11) (.t 14) (.c (.bool false))), none, 0⟩, ⟨(some 16), (.mv (.t 15)), none, 0⟩, ⟨(some 17), (.fa 2 (.t 1)), (some (16, true)), 0⟩, ⟨(some 18), (.ld none (.t 17)), (some (16, true)), 0⟩, ⟨(some 19), (.un .not (.t 18)), (some (16, true)), 0⟩, ⟨(some 20), (.mv (.t 19)), (some (16, true)), 0⟩, ⟨(some 21), (.fa 3 (.t 1)), (some (20, false)), 0⟩, ⟨(some 22), (.ld none (.t 21)), (some (20, false)), 0⟩, ⟨(some 23), (.bin .gtr (.t 22) (.c (.int .i64 0))), (some (20, false)), 0⟩, ⟨(some 24), (.pick (.t 20) (.c (.bool true)) (.t 23)), (some (16, true)), 0⟩, ⟨(some 25), (.pick (.t 16) (.t 24) (.c (.bool false))), none, 0⟩, ⟨(some 26), (.mv (.t 25)), none, 0⟩, ⟨(some 27), (.fa 4 (.t 1)), (some (26, true)), 0⟩, ⟨(some 28), (.ld none (.t 27)), (some (26, true)), 0⟩, ⟨(some 29), (.call (.c (.fn 41 [])) [(.t 28), (.c (.int .i64 0)), (.c (.int .i64 100))]), (some (26, true)), 0⟩, ⟨(some 30), (.pick (.t 26) (.t 29) (.c (.bool false))), none, 0⟩, ⟨(some 31), (.mv (.t 30)), none, 0⟩, ⟨(some 32), (.fa 5 (.t 1)), (some (31, true)), 0⟩, ⟨(some 33), (.ld none (.t 32)), (some (31, true)), 0⟩, ⟨(some 34), (.call (.c (.fn 41 [])) [(.t 33), (.c (.int .i64 0)), (.c (.int .i64 100))]), (some (31, true)), 0⟩, ⟨(some 35), (.pick (.t 31) (.t 34) (.c (.bool false))), none, 0⟩, ⟨(some 36), (.mv (.t 35)), none, 0⟩, ⟨(some 37), (.fa 4 (.t 1)), (some (36, true)), 0⟩, ⟨(some 38), (.ld none (.t 37)), (some (36, true)), 0⟩, ⟨(some 39), (.fa 5 (.t 1)), (some (36, true)), 0⟩, ⟨(some 40), (.ld none (.t 39)), (some (36, true)), 0⟩, ⟨(some 41), (.bin .lss (.t 38) (.t 40)), (some (36, true)), 0⟩, ⟨(some 42), (.pick (.t 36) (.t 41) (.c (.bool false))), none, 0⟩, ⟨(some 2), (.mv (.t 42)), none, 0⟩]) .ret)
def x64 : XFn := ⟨(.seq (.seq (.reg false [⟨(some 1), (.box 55 6 (.t 0)), none, 0⟩, ⟨(some 2), (.mv (.c (.bool false))), none, 0⟩]) (.frz [1])) x64_1), 43, [(.t 2)]⟩
theorem ok64 : FnOk Try.prog T 64 x64 := ⟨Try.f64, [.frz [1]], Try.func64, by decide +kernel, by kernel_rfl⟩
/-- spec.GoodCalls -/
def x40_1 : XCode := (.seq (.reg false [⟨(some 25), (.fa 0 (.t 6)), none, 0⟩, ⟨(some 26), (.ld none (.t 25)), none, 0⟩, ⟨(some 27), (.fa 0 (.t 4)), none, 0⟩, ⟨(some 28), (.ld none (.t 27)), none, 0⟩, ⟨(some 29), (.bin .eql (.t 26) (.t 28)), none, 0⟩, ⟨(some 30), (.mv (.t 29)), none, 0⟩, ⟨(some 31), (.fa 5 (.t 6)), (some (30, true)), 0⟩, ⟨(some 32), (.ld none (.t 31)), (some (30, true)), 0⟩, ⟨(some 33), (.fa 4 (.t 4)), (some (30, true)), 0⟩, ⟨(some 34), (.ld none (.t 33)), (some (30, true)), 0⟩, ⟨(some 35), (.bin .gtr (.t 32) (.t 34)), (some (30, true)), 0⟩, ⟨(some 36), (.pick (.t 30) (.t 35) (.c (.bool false))), none, 0⟩, ⟨(some 37), (.mv (.t 36)), none, 0⟩, ⟨(some 38), (.fa 5 (.t 4)), (some (37, true)), 0⟩, ⟨(some 39), (.ld none (.t 38)), (some (37, true)), 0⟩, ⟨(some 40), (.fa 4 (.t 6)), (some (37, true)), 0⟩, ⟨(some 41), (.ld none (.t 40)), (some (37, true)), 0⟩, ⟨(some 42), (.bin .gtr (.t 39) (.t 41)), (some (37, true)), 0⟩, ⟨(some 43), (.pick (.t 37) (.t 42) (.c (.bool false))), none, 0⟩]) (.cond (.t 43) (.seq (.reg false [⟨(some 2), (.mv (.c (.bool false))), none, 0⟩]) .ret) .skip))
def x40_2 : XCode := (.seq (.seq (.reg false [⟨(some 23), (.ia 6 (.t 19) (.t 21)), none, 0⟩, ⟨(some 24), (.ld (some 6) (.t 23)), none, 0⟩, ⟨(some 6), (.new 55 [(.int .i64 0), (.int .i64 0), (.bool false), (.int .i64 0), (.int .i64 0), (.int .i64 0)]), none, 0⟩, ⟨none, (.st 6 (.t 6) (.t 24)), none, 0⟩]) (.frz [6])) x40_1)
def x40_3 : XCode := (.block 2 (.loop [0, 4, 7, 8, 9, 19, 20, 21] (.seq (.reg false [⟨(some 22), (.bin .lss (.t 21) (.t 20)), none, 0⟩]) (.seq (.cond (.t 22) .skip (.exit 2)) (.seq (.block 3 x40_2) (.reg false [⟨(some 44), (.bin .add (.t 21) (.c (.int .i64 1))), none, 0⟩, ⟨(some 21), (.mv (.t 44)), none, 0⟩]))))))
def x40_4 : XCode := x40_3
def x40_5 : XCode := (.seq (.reg false [⟨(some 17), (.mv (.t 0)), none, 0⟩, ⟨(some 18), (.mv (.t 3)), none, 0⟩, ⟨(some 19), (.slc 55 6 (.t 17) none (some (.t 18)) none), none, 0⟩, ⟨(some 20), (.len (.t 19)), none, 0⟩, ⟨(some 21), (.mv (.c (.int .i64 0))), none, 0⟩]) x40_4)
def x40_6 : XCode := (.seq (.seq (.reg false [⟨(some 14), (.ld (some 6) (.t 4)), none, 0⟩, ⟨(some 15), (.call (.c (.fn 64 [])) [(.t 14)]), none, 0⟩, ⟨(some 16), (.un .not (.t 15)), none, 0⟩]) (.cond (.t 16) (.seq (.reg false [⟨(some 2), (.mv (.c (.bool false))), none, 0⟩]) .ret) .skip)) x40_5)
def x40_7 : XCode := (.seq (.seq (.reg false [⟨(some 11), (.mv (.t 9)), none, 0⟩, ⟨(some 12), (.ia 6 (.t 7) (.t 9)), none, 0⟩, ⟨(some 13), (.ld (some 6) (.t 12)), none, 0⟩, ⟨(some 4), (.new 55 [(.int .i64 0), (.int .i64 0), (.bool false), (.int .i64 0), (.int .i64 0), (.int .i64 0)]), none, 0⟩, ⟨(some 3), (.mv (.t 11)), none, 0⟩, ⟨none, (.st 6 (.t 4) (.t 13)), none, 0⟩]) (.frz [4])) x40_6)
def x40_8 : XCode := (.block 0 (.loop [0, 7, 8, 9] (.seq (.reg false [⟨(some 10), (.bin .lss (.t 9) (.t 8)), none, 0⟩]) (.seq (.cond (.t 10) .skip (.exit 0)) (.seq (.block 1 x40_7) (.reg false [⟨(some 45), (.bin .add (.t 9) (.c (.int .i64 1))), none, 0⟩, ⟨(some 9), (.mv (.t 45)), none, 0⟩]))))))
def x40_9 : XCode := x40_8
def x40_10 : XCode := (.seq (.reg false [⟨(some 46), (.mv (.t 0)), none, 0⟩, ⟨(some 47), (.len (.t 46)), none, 0⟩, ⟨(some 48), (.bin .leq (.t 47) (.c (.int .i64 7))), none, 0⟩, ⟨(some 2), (.mv (.t 48)), none, 0⟩]) .ret)
def x40_11 : XCode := (.seq (.seq (.reg false [⟨(some 7), (.mv (.t 0)), none, 0⟩, ⟨(some 8), (.len (.t 7)), none, 0⟩, ⟨(some 9), (.mv (.c (.int .i64 0))), none, 0⟩]) x40_9) x40_10)
def x40 : XFn := ⟨(.seq (.reg false [⟨(some 2), (.mv (.c (.bool false))), none, 0⟩]) x40_11), 49, [(.t 2)]⟩
theorem ok40 : FnOk Try.prog T 40 x40 := ⟨Try.f40, [.loop [0, 7, 8, 9], .frz [], .frz [4], .loop [0, 4, 7, 8, 9, 19, 20, 21], .frz [], .frz [6]], Try.func40, by decide +kernel, by kernel_rfl⟩
/-- spec.l1Has -/
def x66_1 : XCode := (.seq (.reg false [⟨(some 13), (.mv (.t 6)), none, 0⟩, ⟨(some 14), (.mv (.t 1)), none, 0⟩, ⟨(some 15), (.bin .eql (.t 13) (.t 14)), none, 0⟩]) (.cond (.t 15) (.seq (.reg false [⟨(some 4), (.mv (.c (.bool true))), none, 0⟩]) .ret) .skip))
def x66_2 : XCode := (.seq (.reg false [⟨(some 11), (.ia 1 (.t 7) (.t 9)), none, 0⟩, ⟨(some 12), (.ld none (.t 11)), none, 0⟩, ⟨(some 6), (.mv (.t 12)), none, 0⟩]) x66_1)
def x66_3 : XCode := (.block 0 (.loop [1, 7, 8, 9] (.seq (.reg false [⟨(some 10), (.bin .lss (.t 9) (.t 8)), none, 0⟩]) (.seq (.cond (.t 10) .skip (.exit 0)) (.seq (.block 1 x66_2) (.reg false [⟨(some 16), (.bin .add (.t 9) (.c (.int .i64 1))), none, 0⟩, ⟨(some 9), (.mv (.t 16)), none, 0⟩]))))))
def x66_4 : XCode := x66_3
def x66_5 : XCode := (.seq (.seq (.reg false [⟨(some 7), (.mv (.t 0)), none, 0⟩, ⟨(some 8), (.len (.t 7)), none, 0⟩, ⟨(some 9), (.mv (.c (.int .i64 0))), none, 0⟩]) x66_4) (.seq (.reg false [⟨(some 4), (.mv (.c (.bool false))), none, 0⟩]) .ret))
def x66 : XFn := ⟨(.seq (.reg false [⟨(some 4), (.mv (.c (.bool false))), none, 0⟩]) x66_5), 17, [(.t 4)]⟩
theorem ok66 : FnOk Try.prog T 66 x66 := ⟨Try.f66, [.loop [1, 7, 8, 9]], Try.func66, by decide +kernel, by kernel_rfl⟩
/-- spec.l15Order -/
def x52_1 : XCode := (.seq (.reg false [⟨(some 14), (.mv (.t 6)), none, 0⟩, ⟨(some 15), (.bin .lss (.t 14) (.c (.int .i64 0))), none, 0⟩, ⟨(some 16), (.mv (.t 15)), none, 0⟩, ⟨(some 17), (.mv (.t 6)), (some (16, false)), 0⟩, ⟨(some 18), (.mv (.t 0)), (some (16, false)), 0⟩, ⟨(some 19), (.bin .geq (.t 17) (.t 18)), (some (16, false)), 0⟩, ⟨(some 20), (.pick (.t 16) (.c (.bool true)) (.t 19)), none, 0⟩, ⟨(some 21), (.mv (.t 20)), none, 0⟩, ⟨(some 22), (.mv (.t 1)), (some (21, false)), 0⟩, ⟨(some 23), (.mv (.t 5)), (some (21, false)), 0⟩, ⟨(some 24), (.slc 3 1 (.t 22) none (some (.t 23)) none), (some (21, false)), 0⟩, ⟨(some 25), (.mv (.t 6)), (some (21, false)), 0⟩, ⟨(some 26), (.call (.c (.fn 66 [])) [(.t 24), (.t 25)]), (some (21, false)), 0⟩, ⟨(some 27), (.pick (.t 21) (.c (.bool true)) (.t 26)), none, 0⟩]) (.cond (.t 27) (.seq (.reg false [⟨(some 4), (.mv (.c (.bool false))), none, 0⟩]) .ret) .skip))
def x52_2 : XCode := (.seq (.reg false [⟨(some 11), (.mv (.t 9)), none, 0⟩, ⟨(some 12), (.ia 1 (.t 7) (.t 9)), none, 0⟩, ⟨(some 13), (.ld none (.t 12)), none, 0⟩, ⟨(some 5), (.mv (.t 11)), none, 0⟩, ⟨(some 6), (.mv (.t 13)), none, 0⟩]) x52_1)
def x52_3 : XCode := (.block 0 (.loop [0, 1, 7, 8, 9] (.seq (.reg false [⟨(some 10), (.bin .lss (.t 9) (.t 8)), none, 0⟩]) (.seq (.cond (.t 10) .skip (.exit 0)) (.seq (.block 1 x52_2) (.reg false [⟨(some 28), (.bin .add (.t 9) (.c (.int .i64 1))), none, 0⟩, ⟨(some 9), (.mv (.t 28)), none, 0⟩]))))))
def x52_4 : XCode := x52_3
def x52_5 : XCode := (.seq (.reg false [⟨(some 29), (.mv (.t 1)), none, 0⟩, ⟨(some 30), (.len (.t 29)), none, 0⟩, ⟨(some 31), (.mv (.t 0)), none, 0⟩, ⟨(some 32), (.bin .eql (.t 30) (.t 31)), none, 0⟩, ⟨(some 4), (.mv (.t 32)), none, 0⟩]) .ret)
def x52_6 : XCode := (.seq (.seq (.reg false [⟨(some 7), (.mv (.t 1)), none, 0⟩, ⟨(some 8), (.len (.t 7)), none, 0⟩, ⟨(some 9), (.mv (.c (.int .i64 0))), none, 0⟩]) x52_4) x52_5)
def x52 : XFn := ⟨(.seq (.reg false [⟨(some 4), (.mv (.c (.bool false))), none, 0⟩]) x52_6), 33, [(.t 4)]⟩
theorem ok52 : FnOk Try.prog T 52 x52 := ⟨Try.f52, [.loop [0, 1, 7, 8, 9]], Try.func52, by decide +kernel, by kernel_rfl⟩
/-- spec.l15Legal -/
def x57_1 : XCode := (.reg false [⟨(some 22), (.mv (.t 5)), none, 0⟩, ⟨(some 23), (.fa 1 (.t 8)), none, 0⟩, ⟨(some 24), (.ld none (.t 23)), none, 0⟩, ⟨(some 25), (.fa 3 (.t 8)), none, 0⟩, ⟨(some 26), (.ld none (.t 25)), none, 0⟩, ⟨(some 27), (.ia 1 (.t 22) (.t 24)), none, 0⟩, ⟨none, (.st 1 (.t 27) (.t 26)), none, 0⟩])
def x57_2 : XCode := (.seq (.reg true [⟨(some 28), (.mv (.t 5)), none, 4⟩, ⟨(some 29), (.fa 1 (.t 8)), none, 4⟩, ⟨(some 30), (.ld none (.t 29)), none, 4⟩, ⟨(some 31), (.ia 1 (.t 28) (.t 30)), none, 4⟩, ⟨(some 32), (.ld none (.t 31)), none, 4⟩, ⟨(some 33), (.fa 3 (.t 8)), none, 4⟩, ⟨(some 34), (.ld none (.t 33)), none, 4⟩, ⟨(some 35), (.bin .neq (.t 32) (.t 34)), none, 4⟩]) (.cond (.t 35) (.seq (.reg false [⟨(some 4), (.mv (.c (.bool false))), none, 0⟩]) .ret) .skip))
def x57_3 : XCode := (.cond (.t 21) x57_1 x57_2)
def x57_4 : XCode := (.seq (.reg false [⟨(some 20), (.fa 2 (.t 8)), none, 0⟩, ⟨(some 21), (.ld none (.t 20)), none, 0⟩]) x57_3)
def x57_5 : XCode := (.seq (.seq (.reg false [⟨(some 16), (.mv (.t 0)), none, 0⟩, ⟨(some 17), (.mv (.t 7)), none, 0⟩, ⟨(some 18), (.ia 6 (.t 16) (.t 17)), none, 0⟩, ⟨(some 19), (.ld (some 6) (.t 18)), none, 0⟩, ⟨(some 8), (.new 55 [(.int .i64 0), (.int .i64 0), (.bool false), (.int .i64 0), (.int .i64 0), (.int .i64 0)]), none, 0⟩, ⟨none, (.st 6 (.t 8) (.t 19)), none, 0⟩]) (.frz [8])) x57_4)
def x57_6 : XCode := (.seq (.reg false [⟨(some 14), (.ia 1 (.t 10) (.t 12)), none, 0⟩, ⟨(some 15), (.ld none (.t 14)), none, 0⟩, ⟨(some 7), (.mv (.t 15)), none, 0⟩]) x57_5)
def x57_7 : XCode := (.block 0 (.loop [0, 5, 10, 11, 12] (.seq (.reg false [⟨(some 13), (.bin .lss (.t 12) (.t 11)), none, 0⟩]) (.seq (.cond (.t 13) .skip (.exit 0)) (.seq (.block 1 x57_6) (.reg false [⟨(some 36), (.bin .add (.t 12) (.c (.int .i64 1))), none, 0⟩, ⟨(some 12), (.mv (.t 36)), none, 0⟩]))))))
def x57_8 : XCode := x57_7
def x57_9 : XCode := (.seq (.seq (.reg false [⟨(some 10), (.mv (.t 1)), none, 0⟩, ⟨(some 11), (.len (.t 10)), none, 0⟩, ⟨(some 12), (.mv (.c (.int .i64 0))), none, 0⟩]) x57_8) (.seq (.reg false [⟨(some 4), (.mv (.c (.bool true))), none, 0⟩]) .ret))
def x57_10 : XCode := (.seq (.reg false [⟨(some 9), (.mkS 3 1 8 [(.int .i64 0)] (.c (.int .i64 3)) (.c (.int .i64 3))), none, 0⟩, ⟨(some 5), (.mv (.t 9)), none, 0⟩]) x57_9)
def x57 : XFn := ⟨(.seq (.reg false [⟨(some 4), (.mv (.c (.bool false))), none, 0⟩]) x57_10), 37, [(.t 4)]⟩
theorem ok57 : FnOk Try.prog T 57 x57 := ⟨Try.f57, [.loop [0, 5, 10, 11, 12], .frz [], .frz [], .frz [8], .draw [0, 1, 2, 3, 4, 5, 6, 7] [4, 4, 4, 4, 4, 4, 4, 4]], Try.func57, by decide +kernel, by kernel_rfl⟩
/-- spec.IsLegal -/
def x30_1 : XCode := (.cond (.t 15) (.seq (.reg false [⟨(some 4), (.mv (.c (.bool false))), none, 0⟩, ⟨(some 5), (.mv (.c (.bool false))), none, 0⟩]) .ret) .skip)
def x30_2 : XCode := (.seq (.reg false [⟨(some 16), (.mv (.t 0)), none, 0⟩, ⟨(some 17), (.mv (.t 1)), none, 0⟩, ⟨(some 18), (.call (.c (.fn 57 [])) [(.t 16), (.t 17)]), none, 0⟩, ⟨(some 4), (.mv (.t 18)), none, 0⟩, ⟨(some 5), (.mv (.c (.bool true))), none, 0⟩]) .ret)
def x30_3 : XCode := (.seq (.seq (.reg false [⟨(some 6), (.mv (.t 0)), none, 0⟩, ⟨(some 7), (.call (.c (.fn 40 [])) [(.t 6)]), none, 0⟩, ⟨(some 8), (.un .not (.t 7)), none, 0⟩, ⟨(some 9), (.mv (.t 8)), none, 0⟩, ⟨(some 10), (.mv (.t 0)), (some (9, false)), 0⟩, ⟨(some 11), (.len (.t 10)), (some (9, false)), 0⟩, ⟨(some 12), (.mv (.t 1)), (some (9, false)), 0⟩, ⟨(some 13), (.call (.c (.fn 52 [])) [(.t 11), (.t 12)]), (some (9, false)), 0⟩, ⟨(some 14), (.un .not (.t 13)), (some (9, false)), 0⟩, ⟨(some 15), (.pick (.t 9) (.c (.bool true)) (.t 14)), none, 0⟩]) x30_1) x30_2)
def x30 : XFn := ⟨(.seq (.reg false [⟨(some 4), (.mv (.c (.bool false))), none, 0⟩, ⟨(some 5), (.mv (.c (.bool false))), none, 0⟩]) x30_3), 19, [(.t 4), (.t 5)]⟩
theorem ok30 : FnOk Try.prog T 30 x30 := ⟨Try.f30, [], Try.func30, by decide +kernel, by kernel_rfl⟩
/-- impl.in -/
def x44_1 : XCode := (.seq (.reg false [⟨(some 7), (.mv (.t 0)), none, 0⟩, ⟨(some 8), (.mv (.t 1)), none, 0⟩, ⟨(some 9), (.bin .geq (.t 7) (.t 8)), none, 0⟩, ⟨(some 10), (.mv (.t 9)), none, 0⟩, ⟨(some 11), (.mv (.t 0)), (some (10, true)), 0⟩, ⟨(some 12), (.mv (.t 2)), (some (10, true)), 0⟩, ⟨(some 13), (.bin .leq (.t 11) (.t 12)), (some (10, true)), 0⟩, ⟨(some 14), (.pick (.t 10) (.t 13) (.c (.bool false))), none, 0⟩, ⟨(some 6), (.mv (.t 14)), none, 0⟩]) .ret)
def x44 : XFn := ⟨(.seq (.reg false [⟨(some 6), (.mv (.c (.bool false))), none, 0⟩]) x44_1), 15, [(.t 6)]⟩
theorem ok44 : FnOk Try.prog T 44 x44 := ⟨Try.f44, [], Try.func44, by decide +kernel, by kernel_rfl⟩
/-- impl.areCalls -/
def x43_1 : XCode := (.seq (.reg false [⟨(some 61), (.fa 0 (.t 4)), none, 0⟩, ⟨(some 62), (.ld none (.t 61)), none, 0⟩, ⟨(some 63), (.fa 0 (.t 7)), none, 0⟩, ⟨(some 64), (.ld none (.t 63)), none, 0⟩, ⟨(some 65), (.bin .eql (.t 62) (.t 64)), none, 0⟩, ⟨(some 66), (.mv (.t 65)), none, 0⟩, ⟨(some 67), (.fa 5 (.t 4)), (some (66, true)), 0⟩, ⟨(some 68), (.ld none (.t 67)), (some (66, true)), 0⟩, ⟨(some 69), (.fa 4 (.t 7)), (some (66, true)), 0⟩, ⟨(some 70), (.ld none (.t 69)), (some (66, true)), 0⟩, ⟨(some 71), (.bin .gtr (.t 68) (.t 70)), (some (66, true)), 0⟩, ⟨(some 72), (.pick (.t 66) (.t 71) (.c (.bool false))), none, 0⟩, ⟨(some 73), (.mv (.t 72)), none, 0⟩, ⟨(some 74), (.fa 5 (.t 7)), (some (73, true)), 0⟩, ⟨(some 75), (.ld none (.t 74)), (some (73, true)), 0⟩, ⟨(some 76), (.fa 4 (.t 4)), (some (73, true)), 0⟩, ⟨(some 77), (.ld none (.t 76)), (some (73, true)), 0⟩, ⟨(some 78), (.bin .gtr (.t 75) (.t 77)), (some (73, true)), 0⟩, ⟨(some 79), (.pick (.t 73) (.t 78) (.c (.bool false))), none, 0⟩]) (.cond (.t 79) (.seq (.reg false [⟨(some 2), (.mv (.c (.bool false))), none, 0⟩]) .ret) .skip))
def x43_2 : XCode := (.seq (.seq (.reg false [⟨(some 59), (.ia 6 (.t 55) (.t 57)), none, 0⟩, ⟨(some 60), (.ld (some 6) (.t 59)), none, 0⟩, ⟨(some 7), (.new 55 [(.int .i64 0), (.int .i64 0), (.bool false), (.int .i64 0), (.int .i64 0), (.int .i64 0)]), none, 0⟩, ⟨none, (.st 6 (.t 7) (.t 60)), none, 0⟩]) (.frz [7])) x43_1)
def x43_3 : XCode := (.block 2 (.loop [0, 4, 8, 9, 10, 55, 56, 57] (.seq (.reg false [⟨(some 58), (.bin .lss (.t 57) (.t 56)), none, 0⟩]) (.seq (.cond (.t 58) .skip (.exit 2)) (.seq (.block 3 x43_2) (.reg false [⟨(some 80), (.bin .add (.t 57) (.c (.int .i64 1))), none, 0⟩, ⟨(some 57), (.mv (.t 80)), none, 0⟩]))))))
def x43_4 : XCode := x43_3
def x43_5 : XCode := (.seq (.reg false [⟨(some 53), (.mv (.t 0)), none, 0⟩, ⟨(some 54), (.mv (.t 3)), none, 0⟩, ⟨(some 55), (.slc 55 6 (.t 53) none (some (.t 54)) none), none, 0⟩, ⟨(some 56), (.len (.t 55)), none, 0⟩, ⟨(some 57), (.mv (.c (.int .i64 0))), none, 0⟩]) x43_4)
def x43_6 : XCode := (.seq (.seq (.reg false [⟨(some 17), (.fa 0 (.t 4)), none, 0⟩, ⟨(some 18), (.ld none (.t 17)), none, 0⟩, ⟨(some 19), (.call (.c (.fn 44 [])) [(.t 18), (.c (.int .i64 0)), (.c (.int .i64 3))]), none, 0⟩, ⟨(some 20), (.un .not (.t 19)), none, 0⟩, ⟨(some 21), (.mv (.t 20)), none, 0⟩, ⟨(some 22), (.fa 1 (.t 4)), (some (21, false)), 0⟩, ⟨(some 23), (.ld none (.t 22)), (some (21, false)), 0⟩, ⟨(some 24), (.call (.c (.fn 44 [])) [(.t 23), (.c (.int .i64 0)), (.c (.int .i64 2))]), (some (21, false)), 0⟩, ⟨(some 25), (.un .not (.t 24)), (some (21, false)), 0⟩, ⟨(some 26), (.pick (.t 21) (.c (.bool true)) (.t 25)), none, 0⟩, ⟨(some 27), (.mv (.t 26)), none, 0⟩, ⟨(some 28), (.fa 3 (.t 4)), (some (27, false)), 0⟩, ⟨(some 29), (.ld none (.t 28)), (some (27, false)), 0⟩, ⟨(some 30), (.mv (.t 5)), (some (27, false)), 0⟩, ⟨(some 31), (.call (.c (.fn 44 [])) [(.t 29), (.t 30), (.c (.int .i64 9))]), (some (27, false)), 0⟩, ⟨(some 32), (.un .not (.t 31)), (some (27, false)), 0⟩, ⟨(some 33), (.pick (.t 27) (.c (.bool true)) (.t 32)), none, 0⟩, ⟨(some 34), (.mv (.t 33)), none, 0⟩, ⟨(some 35), (.fa 4 (.t 4)), (some (34, false)), 0⟩, ⟨(some 36), (.ld none (.t 35)), (some (34, false)), 0⟩, ⟨(some 37), (.call (.c (.fn 44 [])) [(.t 36), (.c (.int .i64 0)), (.c (.int .i64 100))]), (some (34, false)), 0⟩, ⟨(some 38), (.un .not (.t 37)), (some (34, false)), 0⟩, ⟨(some 39), (.pick (.t 34) (.c (.bool true)) (.t 38)), none, 0⟩, ⟨(some 40), (.mv (.t 39)), none, 0⟩, ⟨(some 41), (.fa 5 (.t 4)), (some (40, false)), 0⟩, ⟨(some 42), (.ld none (.t 41)), (some (40, false)), 0⟩, ⟨(some 43), (.call (.c (.fn 44 [])) [(.t 42), (.c (.int .i64 0)), (.c (.int .i64 100))]), (some (40, false)), 0⟩, ⟨(some 44), (.un .not (.t 43)), (some (40, false)), 0⟩, ⟨(some 45), (.pick (.t 40) (.c (.bool true)) (.t 44)), none, 0⟩, ⟨(some 46), (.mv (.t 45)), none, 0⟩, ⟨(some 47), (.fa 4 (.t 4)), (some (46, false)), 0⟩, ⟨(some 48), (.ld none (.t 47)), (some (46, false)), 0⟩, ⟨(some 49), (.fa 5 (.t 4)), (some (46, false)), 0⟩, ⟨(some 50), (.ld none (.t 49)), (some (46, false)), 0⟩, ⟨(some 51), (.bin .geq (.t 48) (.t 50)), (some (46, false)), 0⟩, ⟨(some 52), (.pick (.t 46) (.c (.bool true)) (.t 51)), none, 0⟩]) (.cond (.t 52) (.seq (.reg false [⟨(some 2), (.mv (.c (.bool false))), none, 0⟩]) .ret) .skip)) x43_5)
def x43_7 : XCode := (.seq (.seq (.reg false [⟨(some 15), (.fa 2 (.t 4)), none, 0⟩, ⟨(some 16), (.ld none (.t 15)), none, 0⟩]) (.cond (.t 16) (.reg false [⟨(some 5), (.mv (.c (.int .i64 1))), none, 0⟩]) .skip)) x43_6)
def x43_8 : XCode := (.seq (.reg false [⟨(some 5), (.mv (.c (.int .i64 0))), none, 0⟩]) x43_7)
def x43_9 : XCode := (.seq (.seq (.reg false [⟨(some 12), (.mv (.t 10)), none, 0⟩, ⟨(some 13), (.ia 6 (.t 8) (.t 10)), none, 0⟩, ⟨(some 14), (.ld (some 6) (.t 13)), none, 0⟩, ⟨(some 4), (.new 55 [(.int .i64 0), (.int .i64 0), (.bool false), (.int .i64 0), (.int .i64 0), (.int .i64 0)]), none, 0⟩, ⟨(some 3), (.mv (.t 12)), none, 0⟩, ⟨none, (.st 6 (.t 4) (.t 14)), none, 0⟩]) (.frz [4])) x43_8)
def x43_10 : XCode := (.block 0 (.loop [0, 8, 9, 10] (.seq (.reg false [⟨(some 11), (.bin .lss (.t 10) (.t 9)), none, 0⟩]) (.seq (.cond (.t 11) .skip (.exit 0)) (.seq (.block 1 x43_9) (.reg false [⟨(some 81), (.bin .add (.t 10) (.c (.int .i64 1))), none, 0⟩, ⟨(some 10), (.mv (.t 81)), none, 0⟩]))))))
def x43_11 : XCode := x43_10
def x43_12 : XCode := (.seq (.reg false [⟨(some 82), (.mv (.t 0)), none, 0⟩, ⟨(some 83), (.len (.t 82)), none, 0⟩, ⟨(some 84), (.bin .leq (.t 83) (.c (.int .i64 7))), none, 0⟩, ⟨(some 2), (.mv (.t 84)), none, 0⟩]) .ret)
def x43_13 : XCode := (.seq (.seq (.reg false [⟨(some 8), (.mv (.t 0)), none, 0⟩, ⟨(some 9), (.len (.t 8)), none, 0⟩, ⟨(some 10), (.mv (.c (.int .i64 0))), none, 0⟩]) x43_11) x43_12)
def x43 : XFn := ⟨(.seq (.reg false [⟨(some 2), (.mv (.c (.bool false))), none, 0⟩]) x43_13), 85, [(.t 2)]⟩
theorem ok43 : FnOk Try.prog T 43 x43 := ⟨Try.f43, [.loop [0, 8, 9, 10], .frz [], .frz [4], .loop [0, 4, 8, 9, 10, 55, 56, 57], .frz [], .frz [7]], Try.func43, by decide +kernel, by kernel_rfl⟩
/-- impl.areMembers -/
def x71_1 : XCode := (.seq (.reg false [⟨(some 14), (.mv (.t 6)), none, 0⟩, ⟨(some 15), (.mv (.t 1)), none, 0⟩, ⟨(some 16), (.bin .sub (.t 15) (.c (.int .i64 1))), none, 0⟩, ⟨(some 17), (.call (.c (.fn 44 [])) [(.t 14), (.c (.int .i64 0)), (.t 16)]), none, 0⟩, ⟨(some 18), (.un .not (.t 17)), none, 0⟩, ⟨(some 19), (.mv (.t 18)), none, 0⟩, ⟨(some 20), (.mv (.t 5)), (some (19, false)), 0⟩, ⟨(some 21), (.bin .gtr (.t 20) (.c (.int .i64 0))), (some (19, false)), 0⟩, ⟨(some 22), (.mv (.t 21)), (some (19, false)), 0⟩, ⟨(some 23), (.mv (.t 0)), (some (22, true)), 0⟩, ⟨(some 24), (.mv (.t 5)), (some (22, true)), 0⟩, ⟨(some 25), (.bin .sub (.t 24) (.c (.int .i64 1))), (some (22, true)), 0⟩, ⟨(some 26), (.ia 1 (.t 23) (.t 25)), (some (22, true)), 0⟩, ⟨(some 27), (.ld none (.t 26)), (some (22, true)), 0⟩, ⟨(some 28), (.mv (.t 6)), (some (22, true)), 0⟩, ⟨(some 29), (.bin .geq (.t 27) (.t 28)), (some (22, true)), 0⟩, ⟨(some 30), (.pick (.t 22) (.t 29) (.c (.bool false))), (some (19, false)), 0⟩, ⟨(some 31), (.pick (.t 19) (.c (.bool true)) (.t 30)), none, 0⟩]) (.cond (.t 31) (.seq (.reg false [⟨(some 4), (.mv (.c (.bool false))), none, 0⟩]) .ret) .skip))
def x71_2 : XCode := (.seq (.reg false [⟨(some 11), (.mv (.t 9)), none, 0⟩, ⟨(some 12), (.ia 1 (.t 7) (.t 9)), none, 0⟩, ⟨(some 13), (.ld none (.t 12)), none, 0⟩, ⟨(some 5), (.mv (.t 11)), none, 0⟩, ⟨(some 6), (.mv (.t 13)), none, 0⟩]) x71_1)
def x71_3 : XCode := (.block 0 (.loop [0, 1, 7, 8, 9] (.seq (.reg false [⟨(some 10), (.bin .lss (.t 9) (.t 8)), none, 0⟩]) (.seq (.cond (.t 10) .skip (.exit 0)) (.seq (.block 1 x71_2) (.reg false [⟨(some 32), (.bin .add (.t 9) (.c (.int .i64 1))), none, 0⟩, ⟨(some 9), (.mv (.t 32)), none, 0⟩]))))))
def x71_4 : XCode := x71_3
def x71_5 : XCode := (.seq (.seq (.reg false [⟨(some 7), (.mv (.t 0)), none, 0⟩, ⟨(some 8), (.len (.t 7)), none, 0⟩, ⟨(some 9), (.mv (.c (.int .i64 0))), none, 0⟩]) x71_4) (.seq (.reg false [⟨(some 4), (.mv (.c (.bool true))), none, 0⟩]) .ret))
def x71 : XFn := ⟨(.seq (.reg false [⟨(some 4), (.mv (.c (.bool false))), none, 0⟩]) x71_5), 33, [(.t 4)]⟩
theorem ok71 : FnOk Try.prog T 71 x71 := ⟨Try.f71, [.loop [0, 1, 7, 8, 9]], Try.func71, by decide +kernel, by kernel_rfl⟩
/-- impl.isOrder -/
def x54_1 : XCode := (.seq (.reg false [⟨(some 11), (.mv (.t 1)), none, 0⟩, ⟨(some 12), (.len (.t 11)), none, 0⟩, ⟨(some 13), (.mv (.t 0)), none, 0⟩, ⟨(some 14), (.len (.t 13)), none, 0⟩, ⟨(some 15), (.bin .eql (.t 12) (.t 14)), none, 0⟩, ⟨(some 16), (.mv (.t 15)), none, 0⟩, ⟨(some 17), (.mv (.t 5)), (some (16, true)), 0⟩, ⟨(some 18), (.mv (.t 0)), (some (16, true)), 0⟩, ⟨(some 19), (.len (.t 18)), (some (16, true)), 0⟩, ⟨(some 20), (.call (.c (.fn 71 [])) [(.t 17), (.t 19)]), (some (16, true)), 0⟩, ⟨(some 21), (.pick (.t 16) (.t 20) (.c (.bool false))), none, 0⟩, ⟨(some 4), (.mv (.t 21)), none, 0⟩]) .ret)
def x54_2 : XCode := (.seq (.reg false [⟨(some 9), (.mv (.t 5)), none, 0⟩, ⟨(some 10), (.call (.c (.fn 70 [])) [(.t 9)]), none, 0⟩]) x54_1)
def x54_3 : XCode := (.seq (.reg false [⟨(some 6), (.buildS 3 0 [] []), none, 0⟩, ⟨(some 7), (.mv (.t 1)), none, 0⟩, ⟨(some 8), (.app 3 1 8 (.t 6) (.t 7)), none, 0⟩, ⟨(some 5), (.mv (.t 8)), none, 0⟩]) x54_2)
def x54 : XFn := ⟨(.seq (.reg false [⟨(some 4), (.mv (.c (.bool false))), none, 0⟩]) x54_3), 22, [(.t 4)]⟩
theorem ok54 : FnOk Try.prog T 54 x54 := ⟨Try.f54, [], Try.func54, by decide +kernel, by kernel_rfl⟩
/-- impl.isLegal -/
def x58_1 : XCode := (.reg false [⟨(some 22), (.fa 1 (.t 8)), none, 0⟩, ⟨(some 23), (.ld none (.t 22)), none, 0⟩, ⟨(some 24), (.fa 3 (.t 8)), none, 0⟩, ⟨(some 25), (.ld none (.t 24)), none, 0⟩, ⟨(some 26), (.iaA 3 1 (.t 5) (.t 23)), none, 0⟩, ⟨none, (.st 1 (.t 26) (.t 25)), none, 0⟩])
def x58_2 : XCode := (.seq (.reg true [⟨(some 27), (.fa 1 (.t 8)), none, 4⟩, ⟨(some 28), (.ld none (.t 27)), none, 4⟩, ⟨(some 29), (.iaA 3 1 (.t 5) (.t 28)), none, 4⟩, ⟨(some 30), (.ld none (.t 29)), none, 4⟩, ⟨(some 31), (.fa 3 (.t 8)), none, 4⟩, ⟨(some 32), (.ld none (.t 31)), none, 4⟩, ⟨(some 33), (.bin .neq (.t 30) (.t 32)), none, 4⟩]) (.cond (.t 33) (.seq (.reg false [⟨(some 4), (.mv (.c (.bool false))), none, 0⟩]) .ret) .skip))
def x58_3 : XCode := (.cond (.t 21) x58_1 x58_2)
def x58_4 : XCode := (.seq (.reg false [⟨(some 20), (.fa 2 (.t 8)), none, 0⟩, ⟨(some 21), (.ld none (.t 20)), none, 0⟩]) x58_3)
def x58_5 : XCode := (.seq (.seq (.reg false [⟨(some 16), (.mv (.t 0)), none, 0⟩, ⟨(some 17), (.mv (.t 7)), none, 0⟩, ⟨(some 18), (.ia 6 (.t 16) (.t 17)), none, 0⟩, ⟨(some 19), (.ld (some 6) (.t 18)), none, 0⟩, ⟨(some 8), (.new 55 [(.int .i64 0), (.int .i64 0), (.bool false), (.int .i64 0), (.int .i64 0), (.int .i64 0)]), none, 0⟩, ⟨none, (.st 6 (.t 8) (.t 19)), none, 0⟩]) (.frz [8])) x58_4)
def x58_6 : XCode := (.seq (.reg false [⟨(some 14), (.ia 1 (.t 10) (.t 12)), none, 0⟩, ⟨(some 15), (.ld none (.t 14)), none, 0⟩, ⟨(some 7), (.mv (.t 15)), none, 0⟩]) x58_5)
def x58_7 : XCode := (.block 0 (.loop [0, 5, 10, 11, 12] (.seq (.reg false [⟨(some 13), (.bin .lss (.t 12) (.t 11)), none, 0⟩]) (.seq (.cond (.t 13) .skip (.exit 0)) (.seq (.block 1 x58_6) (.reg false [⟨(some 34), (.bin .add (.t 12) (.c (.int .i64 1))), none, 0⟩, ⟨(some 12), (.mv (.t 34)), none, 0⟩]))))))
def x58_8 : XCode := x58_7
def x58_9 : XCode := (.seq (.seq (.reg false [⟨(some 10), (.mv (.t 1)), none, 0⟩, ⟨(some 11), (.len (.t 10)), none, 0⟩, ⟨(some 12), (.mv (.c (.int .i64 0))), none, 0⟩]) x58_8) (.seq (.reg false [⟨(some 4), (.mv (.c (.bool true))), none, 0⟩]) .ret))
def x58_10 : XCode := (.seq (.reg false [⟨(some 9), (.build [(.int .i64 0), (.int .i64 0), (.int .i64 0)] []), none, 0⟩, ⟨(some 5), (.new 81 [(.int .i64 0), (.int .i64 0), (.int .i64 0)]), none, 0⟩, ⟨none, (.st 3 (.t 5) (.t 9)), none, 0⟩]) x58_9)
def x58 : XFn := ⟨(.seq (.reg false [⟨(some 4), (.mv (.c (.bool false))), none, 0⟩]) x58_10), 35, [(.t 4)]⟩
theorem ok58 : FnOk Try.prog T 58 x58 := ⟨Try.f58, [.loop [0, 5, 10, 11, 12], .frz [], .frz [], .frz [8], .draw [0, 1, 2, 3, 4, 5, 6] [4, 4, 4, 4, 4, 4, 4]], Try.func58, by decide +kernel, by kernel_rfl⟩
/-- impl.IsLegal -/
def x31_1 : XCode := (.cond (.t 14) (.seq (.reg false [⟨(some 4), (.mv (.c (.bool false))), none, 0⟩, ⟨(some 5), (.mv (.c (.bool false))), none, 0⟩]) .ret) .skip)
def x31_2 : XCode := (.seq (.reg false [⟨(some 15), (.mv (.t 0)), none, 0⟩, ⟨(some 16), (.mv (.t 1)), none, 0⟩, ⟨(some 17), (.call (.c (.fn 58 [])) [(.t 15), (.t 16)]), none, 0⟩, ⟨(some 4), (.mv (.t 17)), none, 0⟩, ⟨(some 5), (.mv (.c (.bool true))), none, 0⟩]) .ret)
def x31_3 : XCode := (.seq (.seq (.reg false [⟨(some 6), (.mv (.t 0)), none, 0⟩, ⟨(some 7), (.call (.c (.fn 43 [])) [(.t 6)]), none, 0⟩, ⟨(some 8), (.un .not (.t 7)), none, 0⟩, ⟨(some 9), (.mv (.t 8)), none, 0⟩, ⟨(some 10), (.mv (.t 0)), (some (9, false)), 0⟩, ⟨(some 11), (.mv (.t 1)), (some (9, false)), 0⟩, ⟨(some 12), (.call (.c (.fn 54 [])) [(.t 10), (.t 11)]), (some (9, false)), 0⟩, ⟨(some 13), (.un .not (.t 12)), (some (9, false)), 0⟩, ⟨(some 14), (.pick (.t 9) (.c (.bool true)) (.t 13)), none, 0⟩]) x31_1) x31_2)
def x31 : XFn := ⟨(.seq (.reg false [⟨(some 4), (.mv (.c (.bool false))), none, 0⟩, ⟨(some 5), (.mv (.c (.bool false))), none, 0⟩]) x31_3), 18, [(.t 4), (.t 5)]⟩
theorem ok31 : FnOk Try.prog T 31 x31 := ⟨Try.f31, [], Try.func31, by decide +kernel, by kernel_rfl⟩
/-- laws.FnExactIsLegal -/
def x8_1 : XCode := (.seq (.seq (.reg false [⟨(some 51), (.mv (.t 9)), none, 0⟩, ⟨(some 52), (.mv (.t 1)), none, 0⟩, ⟨(some 53), (.call (.c (.fn 28 [])) [(.t 52)]), none, 0⟩, ⟨(some 54), (.call (.c (.fn 24 [])) [(.t 51), (.t 53)]), none, 0⟩, ⟨(some 55), (.un .not (.t 54)), none, 0⟩]) (.cond (.t 55) (.seq (.reg false [⟨(some 4), (.mv (.c (.bool false))), none, 0⟩]) .ret) .skip)) (.seq (.reg false [⟨(some 4), (.mv (.c (.bool true))), none, 0⟩]) .ret))
def x8_2 : XCode := (.seq (.seq (.reg false [⟨(some 46), (.mv (.t 8)), none, 0⟩, ⟨(some 47), (.mv (.t 0)), none, 0⟩, ⟨(some 48), (.call (.c (.fn 13 [])) [(.t 47)]), none, 0⟩, ⟨(some 49), (.call (.c (.fn 15 [])) [(.t 46), (.t 48)]), none, 0⟩, ⟨(some 50), (.un .not (.t 49)), none, 0⟩]) (.cond (.t 50) (.seq (.reg false [⟨(some 4), (.mv (.c (.bool false))), none, 0⟩]) .ret) .skip)) x8_1)
def x8_3 : XCode := (.seq (.seq (.reg false [⟨(some 38), (.mv (.t 10)), none, 0⟩, ⟨(some 39), (.mv (.t 6)), none, 0⟩, ⟨(some 40), (.eqb true (.t 38) (.t 39)), none, 0⟩, ⟨(some 41), (.mv (.t 40)), none, 0⟩, ⟨(some 42), (.mv (.t 11)), (some (41, false)), 0⟩, ⟨(some 43), (.mv (.t 7)), (some (41, false)), 0⟩, ⟨(some 44), (.eqb true (.t 42) (.t 43)), (some (41, false)), 0⟩, ⟨(some 45), (.pick (.t 41) (.c (.bool true)) (.t 44)), none, 0⟩]) (.cond (.t 45) (.seq (.reg false [⟨(some 4), (.mv (.c (.bool false))), none, 0⟩]) .ret) .skip)) x8_2)
def x8_4 : XCode := (.seq (.reg false [⟨(some 33), (.mv (.t 8)), none, 0⟩, ⟨(some 34), (.mv (.t 9)), none, 0⟩, ⟨(some 35), (.call (.c (.fn 31 [])) [(.t 33), (.t 34)]), none, 0⟩, ⟨(some 32), (.mv (.t 35)), none, 0⟩, ⟨(some 36), (.ext (.t 32) 0), none, 0⟩, ⟨(some 37), (.ext (.t 32) 1), none, 0⟩, ⟨(some 10), (.mv (.t 36)), none, 0⟩, ⟨(some 11), (.mv (.t 37)), none, 0⟩]) x8_3)
def x8_5 : XCode := (.seq (.reg false [⟨(some 30), (.mv (.t 1)), none, 0⟩, ⟨(some 31), (.call (.c (.fn 28 [])) [(.t 30)]), none, 0⟩, ⟨(some 9), (.mv (.t 31)), none, 0⟩]) x8_4)
def x8_6 : XCode := (.seq (.reg false [⟨(some 28), (.mv (.t 0)), none, 0⟩, ⟨(some 29), (.call (.c (.fn 13 [])) [(.t 28)]), none, 0⟩, ⟨(some 8), (.mv (.t 29)), none, 0⟩]) x8_5)
def x8_7 : XCode := (.seq (.reg false [⟨(some 21), (.mv (.t 0)), none, 0⟩, ⟨(some 22), (.call (.c (.fn 13 [])) [(.t 21)]), none, 0⟩, ⟨(some 23), (.mv (.t 1)), none, 0⟩, ⟨(some 24), (.call (.c (.fn 28 [])) [(.t 23)]), none, 0⟩, ⟨(some 25), (.call (.c (.fn 30 [])) [(.t 22), (.t 24)]), none, 0⟩, ⟨(some 20), (.mv (.t 25)), none, 0⟩, ⟨(some 26), (.ext (.t 20) 0), none, 0⟩, ⟨(some 27), (.ext (.t 20) 1), none, 0⟩, ⟨(some 6), (.mv (.t 26)), none, 0⟩, ⟨(some 7), (.mv (.t 27)), none, 0⟩]) x8_6)
def x8_8 : XCode := (.seq (.seq (.reg false [⟨(some 18), (.mv (.t 5)), none, 0⟩, ⟨(some 19), (.bin .lss (.t 18) (.c (.int .i64 0))), none, 0⟩]) (.cond (.t 19) (.seq (.reg false [⟨(some 4), (.mv (.c (.bool true))), none, 0⟩]) .ret) .skip)) x8_7)
def x8_9 : XCode := (.seq (.reg false [⟨(some 15), (.mv (.t 0)), none, 0⟩, ⟨(some 16), (.mv (.t 5)), none, 0⟩, ⟨(some 17), (.call (.c (.fn 11 [])) [(.t 15), (.t 16)]), none, 0⟩, ⟨(some 5), (.mv (.t 17)), none, 0⟩]) x8_8)
def x8_10 : XCode := (.seq (.reg false [⟨(some 5), (.mv (.c (.int .i64 1048576))), none, 0⟩]) x8_9)
def x8_11 : XCode := (.seq (.seq (.reg false [⟨(some 12), (.mv (.t 1)), none, 0⟩, ⟨(some 13), (.len (.t 12)), none, 0⟩, ⟨(some 14), (.bin .gtr (.t 13) (.c (.int .i64 1048576))), none, 0⟩]) (.cond (.t 14) (.seq (.reg false [⟨(some 4), (.mv (.c (.bool true))), none, 0⟩]) .ret) .skip)) x8_10)
def x8 : XFn := ⟨(.seq (.reg false [⟨(some 4), (.mv (.c (.bool false))), none, 0⟩]) x8_11), 56, [(.t 4)]⟩
theorem ok8 : FnOk Try.prog T 8 x8 := ⟨Try.f8, [], Try.func8, by decide +kernel, by kernel_rfl⟩
def fl : List (Nat × XFn) := [(11, x11), (42, x42), (13, x13), (47, x47), (15, x15), (24, x24), (28, x28), (41, x41), (64, x64), (40, x40), (66, x66), (52, x52), (57, x57), (30, x30), (44, x44), (43, x43), (71, x71), (54, x54), (58, x58), (31, x31), (8, x8)]
theorem fl_ok : ∀ p ∈ fl, FnOk Try.prog T p.1 p.2 := by
  simp only [fl, List.forall_mem_cons]
  exact ⟨ok11, ok42, ok13, ok47, ok15, ok24, ok28, ok41, ok64, ok40, ok66, ok52, ok57, ok30, ok44, ok43, ok71, ok54, ok58, ok31, ok8, fun _ h => by cases h⟩
def roL : List Nat := [8, 11, 15, 24, 30, 31, 40, 41, 42, 43, 44, 47, 52, 54, 57, 58, 64, 66, 71]
def mkL : List Nat := [13, 28]
def coL : List Nat := []
def modeF (n : Nat) : Nat := if roL.contains n then 1 else if mkL.contains n then 2 else if coL.contains n then 3 else 0
def sortlay_ren : Go.Shelf.Ren := ⟨fun | 53 => 70 | 64 => 76 | 63 => 75 | 78 => 86 | 79 => 87 | 70 => 77 | 71 => 78 | 72 => 79 | 73 => 80 | 74 => 81 | 75 => 82 | 59 => 83 | 76 => 84 | 77 => 85 | 88 => 88 | 89 => 89 | 90 => 90 | 91 => 91 | 92 => 92 | 68 => 93 | 96 => 94 | n => n, fun | 22 => 34 | 23 => 3 | 3 => 3 | 51 => 86 | 0 => 0 | 67 => 95 | 69 => 70 | 4 => 4 | 61 => 89 | 60 => 88 | 44 => 44 | 5 => 5 | 9 => 9 | 75 => 97 | 79 => 101 | 83 => 103 | 84 => 104 | n => n, fun | n => n⟩
theorem sortlay : Go.Proofs.SlLaysN.n53 Try.prog sortlay_ren := { mixed := by kernel_rfl, f53 := ⟨Try.f70.name, by decide, Try.func70.trans (congrArg some (by kernel_rfl))⟩, f59 := ⟨Try.f83.name, by decide, Try.func83.trans (congrArg some (by kernel_rfl))⟩, f63 := ⟨Try.f75.name, by decide, Try.func75.trans (congrArg some (by kernel_rfl))⟩, f64 := Try.func76.trans (congrArg some (by kernel_rfl)), f68 := ⟨Try.f93.name, by decide, Try.func93.trans (congrArg some (by kernel_rfl))⟩, f70 := ⟨Try.f77.name, by decide, Try.func77.trans (congrArg some (by kernel_rfl))⟩, f71 := ⟨Try.f78.name, by decide, Try.func78.trans (congrArg some (by kernel_rfl))⟩, f72 := ⟨Try.f79.name, by decide, Try.func79.trans (congrArg some (by kernel_rfl))⟩, f73 := ⟨Try.f80.name, by decide, Try.func80.trans (congrArg some (by kernel_rfl))⟩, f74 := ⟨Try.f81.name, by decide, Try.func81.trans (congrArg some (by kernel_rfl))⟩, f75 := ⟨Try.f82.name, by decide, Try.func82.trans (congrArg some (by kernel_rfl))⟩, f76 := ⟨Try.f84.name, by decide, Try.func84.trans (congrArg some (by kernel_rfl))⟩, f77 := ⟨Try.f85.name, by decide, Try.func85.trans (congrArg some (by kernel_rfl))⟩, f78 := Try.func86.trans (congrArg some (by kernel_rfl)), f79 := Try.func87.trans (congrArg some (by kernel_rfl)), f88 := ⟨Try.f88.name, by decide, Try.func88.trans (congrArg some (by kernel_rfl))⟩, f89 := Try.func89.trans (congrArg some (by kernel_rfl)), f90 := Try.func90.trans (congrArg some (by kernel_rfl)), f91 := ⟨Try.f91.name, by decide, Try.func91.trans (congrArg some (by kernel_rfl))⟩, f92 := ⟨Try.f92.name, by decide, Try.func92.trans (congrArg some (by kernel_rfl))⟩, f96 := ⟨Try.f94.name, by decide, Try.func94.trans (congrArg some (by kernel_rfl))⟩, t0 := Try.underlying0, a0 := Try.isAgg0, z0 := Try.sizeOf0, v0 := Try.zeroValue0, t3 := Try.underlying3, a3 := Try.isAgg3, z3 := Try.sizeOf3, v3 := Try.zeroValue3, t4 := Try.underlying4, a4 := Try.isAgg4, z4 := Try.sizeOf4, v4 := Try.zeroValue4, t5 := Try.underlying5, a5 := Try.isAgg5, z5 := Try.sizeOf5, v5 := Try.zeroValue5, t9 := Try.underlying9, a9 := Try.isAgg9, z9 := Try.sizeOf9, v9 := Try.zeroValue9, t22 := Try.underlying34, a22 := Try.isAgg34, z22 := Try.sizeOf34, v22 := Try.zeroValue34, t23 := Try.underlying3, a23 := Try.isAgg3, z23 := Try.sizeOf3, v23 := Try.zeroValue3, t44 := Try.underlying44, a44 := Try.isAgg44, z44 := Try.sizeOf44, v44 := Try.zeroValue44, t51 := Try.underlying86, a51 := Try.isAgg86, z51 := Try.sizeOf86, v51 := Try.zeroValue86, t60 := Try.underlying88, a60 := Try.isAgg88, z60 := Try.sizeOf88, v60 := Try.zeroValue88, t61 := Try.underlying89, a61 := Try.isAgg89, z61 := Try.sizeOf89, v61 := Try.zeroValue89, t67 := Try.underlying95, a67 := Try.isAgg95, z67 := Try.sizeOf95, v67 := Try.zeroValue95, t69 := Try.underlying70, a69 := Try.isAgg70, z69 := Try.sizeOf70, v69 := Try.zeroValue70, t75 := Try.underlying97, a75 := Try.isAgg97, z75 := Try.sizeOf97, v75 := Try.zeroValue97, t79 := Try.underlying101, a79 := Try.isAgg101, z79 := Try.sizeOf101, v79 := Try.zeroValue101, t83 := Try.underlying103, a83 := Try.isAgg103, z83 := Try.sizeOf103, v83 := Try.zeroValue103, t84 := Try.underlying104, a84 := Try.isAgg104, z84 := Try.sizeOf104, v84 := Try.zeroValue104 }
def ol : List (Nat × Orc) := [(70, .srt 3)]
theorem ol_ok : ∀ p ∈ ol, OrcOk Try.prog (szL tl) p.1 p.2 := by
  simp only [ol, List.forall_mem_cons]
  exact ⟨srt_ok (ρ := sortlay_ren) sortlay (by kernel_rfl) ⟨Try.f70, Try.func70, by decide, rfl⟩, fun _ h => by cases h⟩
def E : Env := ⟨fnsL fl, modeF, szL tl, orcL ol⟩
end Go.Proofs.Ytddkoiapboeemaa.X
