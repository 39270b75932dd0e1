/- The seat's types and functions as X has them; the kernel checks each against the program. -/
import Derived.Test.YtddkoiapboeemaaXSS
set_option linter.unusedVariables false
set_option linter.unusedSimpArgs false
set_option maxRecDepth 100000
namespace Go.Proofs.Ytddkoiapboeemaa.X
open Go
def tl : List (Nat × TI) := [(1, ⟨.other, 1, 8, [.nilfn]⟩),
  (2, ⟨(.int .i64), 1, 8, [(.int .i64 0)]⟩),
  (3, ⟨(.int .i64), 1, 8, [(.int .i64 0)]⟩),
  (4, ⟨.bool, 1, 1, [(.bool false)]⟩),
  (5, ⟨(.int .u8), 1, 1, [(.int .u8 0)]⟩),
  (6, ⟨(.int .u8), 1, 1, [(.int .u8 0)]⟩),
  (7, ⟨(.struct [(0, 2), (1, 3), (2, 4), (3, 6)]), 4, 24, [(.int .i64 0), (.int .i64 0), (.bool false), (.int .u8 0)]⟩),
  (8, ⟨(.struct [(0, 2), (1, 3), (2, 4), (3, 6)]), 4, 24, [(.int .i64 0), (.int .i64 0), (.bool false), (.int .u8 0)]⟩),
  (9, ⟨.str, 1, 16, [(.str (ByteArray.mk #[]))]⟩),
  (10, ⟨.str, 1, 16, [(.str (ByteArray.mk #[]))]⟩),
  (11, ⟨.str, 1, 16, [(.str (ByteArray.mk #[]))]⟩),
  (12, ⟨(.int .u64), 1, 8, [(.int .u64 0)]⟩),
  (15, ⟨.ptr, 1, 8, [.nilptr]⟩),
  (16, ⟨.ptr, 1, 8, [.nilptr]⟩),
  (17, ⟨.ptr, 1, 8, [.nilptr]⟩),
  (21, ⟨(.int .i32), 1, 4, [(.int .i32 0)]⟩),
  (22, ⟨(.slice 57), 1, 24, [.nil]⟩),
  (23, ⟨.other, 1, 8, [.nilfn]⟩),
  (24, ⟨(.slice 55), 1, 24, [.nil]⟩),
  (26, ⟨.other, 1, 8, [.nilfn]⟩),
  (27, ⟨.other, 1, 8, [.nilfn]⟩),
  (28, ⟨.other, 1, 8, [.nilfn]⟩),
  (29, ⟨.other, 1, 8, [.nilfn]⟩),
  (30, ⟨.other, 1, 8, [.nilfn]⟩),
  (32, ⟨.other, 1, 8, [.nilfn]⟩),
  (33, ⟨.other, 1, 8, [.nilfn]⟩),
  (34, ⟨(.slice 3), 1, 24, [.nil]⟩),
  (36, ⟨.other, 1, 8, [.nilfn]⟩),
  (37, ⟨.other, 1, 8, [.nilfn]⟩),
  (38, ⟨.other, 1, 8, [.nilfn]⟩),
  (39, ⟨.other, 1, 8, [.nilfn]⟩),
  (40, ⟨.other, 1, 8, [.nilfn]⟩),
  (41, ⟨.other, 1, 8, [.nilfn]⟩),
  (42, ⟨(.slice 5), 1, 24, [.nil]⟩),
  (43, ⟨.other, 1, 8, [.nilfn]⟩),
  (45, ⟨.other, 1, 8, [.nilfn]⟩),
  (46, ⟨.other, 1, 8, [.nilfn]⟩),
  (47, ⟨.other, 1, 8, [.nilfn]⟩),
  (49, ⟨.other, 1, 8, [.nilfn]⟩),
  (51, ⟨.other, 1, 8, [.nilfn]⟩),
  (52, ⟨.other, 1, 8, [.nilfn]⟩),
  (53, ⟨.other, 1, 8, [.nilfn]⟩),
  (54, ⟨(.struct [(0, 3), (1, 3), (2, 4), (3, 3), (4, 3), (5, 3)]), 6, 48, [(.int .i64 0), (.int .i64 0), (.bool false), (.int .i64 0), (.int .i64 0), (.int .i64 0)]⟩),
  (55, ⟨(.struct [(0, 3), (1, 3), (2, 4), (3, 3), (4, 3), (5, 3)]), 6, 48, [(.int .i64 0), (.int .i64 0), (.bool false), (.int .i64 0), (.int .i64 0), (.int .i64 0)]⟩),
  (56, ⟨.other, 1, 8, [.nilfn]⟩),
  (57, ⟨(.struct [(0, 3), (1, 3), (2, 4), (3, 3), (4, 3), (5, 3)]), 6, 48, [(.int .i64 0), (.int .i64 0), (.bool false), (.int .i64 0), (.int .i64 0), (.int .i64 0)]⟩),
  (58, ⟨.other, 1, 8, [.nilfn]⟩),
  (59, ⟨.other, 1, 8, [.nilfn]⟩),
  (60, ⟨.other, 1, 8, [.nilfn]⟩),
  (61, ⟨.other, 1, 8, [.nilfn]⟩),
  (62, ⟨.other, 1, 8, [.nilfn]⟩),
  (63, ⟨.other, 1, 8, [.nilfn]⟩),
  (64, ⟨.other, 1, 8, [.nilfn]⟩),
  (65, ⟨.other, 1, 8, [.nilfn]⟩),
  (66, ⟨.other, 1, 8, [.nilfn]⟩),
  (67, ⟨.other, 1, 8, [.nilfn]⟩),
  (68, ⟨.other, 1, 8, [.nilfn]⟩),
  (69, ⟨.ptr, 1, 8, [.nilptr]⟩),
  (70, ⟨(.int .u64), 1, 8, [(.int .u64 0)]⟩),
  (71, ⟨(.struct [(0, 42), (1, 3), (2, 70)]), 3, 40, [.nil, (.int .i64 0), (.int .u64 0)]⟩),
  (72, ⟨(.struct [(0, 42), (1, 3), (2, 70)]), 3, 40, [.nil, (.int .i64 0), (.int .u64 0)]⟩),
  (73, ⟨.other, 1, 8, [.nilfn]⟩),
  (74, ⟨.other, 1, 8, [.nilfn]⟩),
  (75, ⟨.other, 1, 8, [.nilfn]⟩),
  (76, ⟨.other, 1, 8, [.nilfn]⟩),
  (77, ⟨.other, 1, 8, [.nilfn]⟩),
  (78, ⟨.other, 1, 8, [.nilfn]⟩),
  (79, ⟨.other, 1, 8, [.nilfn]⟩),
  (80, ⟨.other, 1, 8, [.nilfn]⟩),
  (81, ⟨(.array 3 3), 3, 24, [(.int .i64 0), (.int .i64 0), (.int .i64 0)]⟩),
  (82, ⟨.other, 1, 8, [.nilfn]⟩),
  (83, ⟨.other, 1, 8, [.nilfn]⟩),
  (84, ⟨.other, 1, 8, [.nilfn]⟩),
  (85, ⟨.other, 1, 8, [.nilfn]⟩),
  (86, ⟨(.int .u64), 1, 8, [(.int .u64 0)]⟩),
  (87, ⟨.other, 1, 8, [.nilfn]⟩),
  (88, ⟨(.int .i64), 1, 8, [(.int .i64 0)]⟩),
  (90, ⟨.other, 1, 8, [.nilfn]⟩),
  (91, ⟨.other, 1, 8, [.nilfn]⟩),
  (92, ⟨.other, 1, 8, [.nilfn]⟩),
  (93, ⟨.other, 1, 8, [.nilfn]⟩),
  (94, ⟨.other, 1, 8, [.nilfn]⟩),
  (95, ⟨(.int .u32), 1, 4, [(.int .u32 0)]⟩),
  (96, ⟨.other, 1, 8, [.nilfn]⟩),
  (97, ⟨(.int .u64), 1, 8, [(.int .u64 0)]⟩),
  (98, ⟨.other, 1, 8, [.nilfn]⟩),
  (99, ⟨.other, 1, 8, [.nilfn]⟩),
  (100, ⟨.other, 1, 8, [.nilfn]⟩),
  (101, ⟨.ptr, 1, 8, [.nilptr]⟩),
  (102, ⟨.other, 1, 8, [.nilfn]⟩),
  (103, ⟨.ptr, 1, 8, [.nilptr]⟩),
  (105, ⟨.other, 1, 8, [.nilfn]⟩),
  (106, ⟨.other, 1, 8, [.nilfn]⟩),
  (109, ⟨(.array 0 16), 0, 0, []⟩),
  (112, ⟨(.int .u8), 1, 1, [(.int .u8 0)]⟩),
  (113, ⟨(.int .u8), 1, 1, [(.int .u8 0)]⟩),
  (114, ⟨.other, 1, 8, [.nilfn]⟩),
  (115, ⟨.ptr, 1, 8, [.nilptr]⟩),
  (116, ⟨(.int .i32), 1, 4, [(.int .i32 0)]⟩),
  (117, ⟨(.int .i32), 1, 4, [(.int .i32 0)]⟩)]
abbrev T : Tab := tabL tl
theorem tl_ok : ∀ p ∈ tl, tabOf Try.prog p.1 = some p.2 := by
  simp only [tl, List.forall_mem_cons]
  exact ⟨by kernel_rfl, by kernel_rfl, by kernel_rfl, by kernel_rfl, by kernel_rfl, by kernel_rfl, by kernel_rfl, by kernel_rfl, by kernel_rfl, by kernel_rfl, by kernel_rfl, by kernel_rfl, by kernel_rfl, by kernel_rfl, by kernel_rfl, by kernel_rfl, by kernel_rfl, by kernel_rfl, by kernel_rfl, by kernel_rfl, by kernel_rfl, by kernel_rfl, by kernel_rfl, by kernel_rfl, by kernel_rfl, by kernel_rfl, by kernel_rfl, by kernel_rfl, by kernel_rfl, by kernel_rfl, by kernel_rfl, by kernel_rfl, by kernel_rfl, by kernel_rfl, by kernel_rfl, by kernel_rfl, by kernel_rfl, by kernel_rfl, by kernel_rfl, by kernel_rfl, by kernel_rfl, by kernel_rfl, by kernel_rfl, by kernel_rfl, by kernel_rfl, by kernel_rfl, by kernel_rfl, by kernel_rfl, by kernel_rfl, by kernel_rfl, by kernel_rfl, by kernel_rfl, by kernel_rfl, by kernel_rfl, by kernel_rfl, by kernel_rfl, by kernel_rfl, by kernel_rfl, by kernel_rfl, by kernel_rfl, by kernel_rfl, by kernel_rfl, by kernel_rfl, by kernel_rfl, by kernel_rfl, by kernel_rfl, by kernel_rfl, by kernel_rfl, by kernel_rfl, by kernel_rfl, by kernel_rfl, by kernel_rfl, by kernel_rfl, by kernel_rfl, by kernel_rfl, by kernel_rfl, by kernel_rfl, by kernel_rfl, by kernel_rfl, by kernel_rfl, by kernel_rfl, by kernel_rfl, by kernel_rfl, by kernel_rfl, by kernel_rfl, by kernel_rfl, by kernel_rfl, by kernel_rfl, by kernel_rfl, by kernel_rfl, by kernel_rfl, by kernel_rfl, by kernel_rfl, by kernel_rfl, by kernel_rfl, by kernel_rfl, by kernel_rfl, by kernel_rfl, by kernel_rfl, by kernel_rfl, fun _ h => by cases h⟩
/-- laws.szCallS -/
def x11_1 : XCode := (.seq (.seq (.reg false [⟨(some 9), (.mv (.t 1)), none, 0⟩, ⟨(some 10), (.bin .lss (.t 9) (.c (.int .i64 0))), none, 0⟩]) (.cond (.t 10) (.seq (.reg false [⟨(some 4), (.mv (.c (.int .i64 (-1)))), none, 0⟩]) .ret) .skip)) (.seq (.reg false [⟨(some 11), (.mv (.t 1)), none, 0⟩, ⟨(some 4), (.mv (.t 11)), none, 0⟩]) .ret))
def x11_2 : XCode := (.seq (.reg false [⟨(some 5), (.mv (.t 1)), none, 0⟩, ⟨(some 6), (.mv (.t 0)), none, 0⟩, ⟨(some 7), (.len (.t 6)), none, 0⟩, ⟨(some 8), (.bin .sub (.t 5) (.t 7)), none, 0⟩, ⟨(some 1), (.mv (.t 8)), none, 0⟩]) x11_1)
def x11 : XFn := ⟨(.seq (.reg false [⟨(some 4), (.mv (.c (.int .i64 0))), none, 0⟩]) x11_2), 12, [(.t 4)]⟩
theorem ok11 : FnOk Try.prog T 11 x11 := ⟨Try.f11, [], Try.func11, by decide +kernel, by kernel_rfl⟩
/-- laws.toCall -/
def x42_1 : XCode := (.seq (.reg false [⟨(some 19), (.fa 5 (.t 1)), none, 0⟩, ⟨(some 20), (.ld none (.t 19)), none, 0⟩, ⟨(some 21), (.fa 5 (.t 3)), none, 0⟩, ⟨none, (.st 1 (.t 21) (.t 20)), none, 0⟩]) (.seq (.reg false [⟨(some 22), (.ld (some 6) (.t 3)), none, 0⟩, ⟨none, (.st 6 (.t 2) (.t 22)), none, 0⟩]) .ret))
def x42_2 : XCode := (.seq (.reg false [⟨(some 16), (.fa 4 (.t 1)), none, 0⟩, ⟨(some 17), (.ld none (.t 16)), none, 0⟩, ⟨(some 18), (.fa 4 (.t 3)), none, 0⟩, ⟨none, (.st 1 (.t 18) (.t 17)), none, 0⟩]) x42_1)
def x42_3 : XCode := (.seq (.reg false [⟨(some 13), (.fa 3 (.t 1)), none, 0⟩, ⟨(some 14), (.ld none (.t 13)), none, 0⟩, ⟨(some 15), (.fa 3 (.t 3)), none, 0⟩, ⟨none, (.st 1 (.t 15) (.t 14)), none, 0⟩]) x42_2)
def x42_4 : XCode := (.seq (.reg false [⟨(some 10), (.fa 2 (.t 1)), none, 0⟩, ⟨(some 11), (.ld none (.t 10)), none, 0⟩, ⟨(some 12), (.fa 2 (.t 3)), none, 0⟩, ⟨none, (.st 1 (.t 12) (.t 11)), none, 0⟩]) x42_3)
def x42_5 : XCode := (.seq (.reg false [⟨(some 7), (.fa 1 (.t 1)), none, 0⟩, ⟨(some 8), (.ld none (.t 7)), none, 0⟩, ⟨(some 9), (.fa 1 (.t 3)), none, 0⟩, ⟨none, (.st 1 (.t 9) (.t 8)), none, 0⟩]) x42_4)
def x42_6 : XCode := (.seq (.reg false [⟨(some 4), (.fa 0 (.t 1)), none, 0⟩, ⟨(some 5), (.ld none (.t 4)), none, 0⟩, ⟨(some 6), (.fa 0 (.t 3)), none, 0⟩, ⟨none, (.st 1 (.t 6) (.t 5)), none, 0⟩]) x42_5)
def x42_7 : XCode := (.seq (.reg false [⟨(some 3), (.new 55 [(.int .i64 0), (.int .i64 0), (.bool false), (.int .i64 0), (.int .i64 0), (.int .i64 0)]), none, 0⟩]) x42_6)
def x42 : XFn := ⟨(.seq (.seq (.reg false [⟨(some 1), (.box 57 6 (.t 0)), none, 0⟩, ⟨(some 2), (.new 55 [(.int .i64 0), (.int .i64 0), (.bool false), (.int .i64 0), (.int .i64 0), (.int .i64 0)]), none, 0⟩]) (.frz [1])) x42_7), 23, [(.cell 2 (some 6))]⟩
theorem ok42 : FnOk Try.prog T 42 x42 := ⟨Try.f42, [.frz [1]], Try.func42, by decide +kernel, by kernel_rfl⟩
/-- laws.toCallS -/
def x13_1 : XCode := (.reg false [⟨(some 14), (.mv (.t 3)), none, 0⟩, ⟨(some 15), (.mv (.t 4)), none, 0⟩, ⟨(some 16), (.mv (.t 0)), none, 0⟩, ⟨(some 17), (.mv (.t 4)), none, 0⟩, ⟨(some 18), (.ia 6 (.t 16) (.t 17)), none, 0⟩, ⟨(some 19), (.ld (some 6) (.t 18)), none, 0⟩, ⟨(some 20), (.call (.c (.fn 42 [])) [(.t 19)]), none, 0⟩, ⟨(some 21), (.ia 6 (.t 14) (.t 15)), none, 0⟩, ⟨none, (.st 6 (.t 21) (.t 20)), none, 0⟩])
def x13_2 : XCode := (.seq (.block 1 x13_1) (.reg false [⟨(some 12), (.mv (.t 4)), none, 0⟩, ⟨(some 13), (.bin .add (.t 12) (.c (.int .i64 1))), none, 0⟩, ⟨(some 4), (.mv (.t 13)), none, 0⟩]))
def x13_3 : XCode := (.seq (.seq (.reg false [⟨(some 8), (.mv (.t 4)), none, 0⟩, ⟨(some 9), (.mv (.t 0)), none, 0⟩, ⟨(some 10), (.len (.t 9)), none, 0⟩, ⟨(some 11), (.bin .lss (.t 8) (.t 10)), none, 0⟩]) (.cond (.t 11) .skip (.exit 0))) x13_2)
def x13_4 : XCode := (.block 0 (.loop [0, 3, 4] x13_3))
def x13_5 : XCode := x13_4
def x13_6 : XCode := (.seq (.seq (.reg false [⟨(some 4), (.mv (.c (.int .i64 0))), none, 0⟩]) x13_5) (.seq (.reg false [⟨(some 22), (.mv (.t 3)), none, 0⟩, ⟨(some 2), (.mv (.t 22)), none, 0⟩]) .ret))
def x13_7 : XCode := (.seq (.reg false [⟨(some 5), (.mv (.t 0)), none, 0⟩, ⟨(some 6), (.len (.t 5)), none, 0⟩, ⟨(some 7), (.mkS 55 6 48 [(.int .i64 0), (.int .i64 0), (.bool false), (.int .i64 0), (.int .i64 0), (.int .i64 0)] (.t 6) (.t 6)), none, 0⟩, ⟨(some 3), (.mv (.t 7)), none, 0⟩]) x13_6)
def x13 : XFn := ⟨(.seq (.reg false [⟨(some 2), (.mv (.c .nil)), none, 0⟩]) x13_7), 23, [(.t 2)]⟩
theorem ok13 : FnOk Try.prog T 13 x13 := ⟨Try.f13, [.loop [0, 3, 4]], Try.func13, by decide +kernel, by kernel_rfl⟩
/-- laws.eqCall -/
def x47_1 : XCode := (.seq (.seq (.reg false [⟨(some 30), (.fa 5 (.t 2)), none, 0⟩, ⟨(some 31), (.ld none (.t 30)), none, 0⟩, ⟨(some 32), (.fa 5 (.t 3)), none, 0⟩, ⟨(some 33), (.ld none (.t 32)), none, 0⟩, ⟨(some 34), (.bin .neq (.t 31) (.t 33)), none, 0⟩]) (.cond (.t 34) (.seq (.reg false [⟨(some 4), (.mv (.c (.bool false))), none, 0⟩]) .ret) .skip)) (.seq (.reg false [⟨(some 4), (.mv (.c (.bool true))), none, 0⟩]) .ret))
def x47_2 : XCode := (.seq (.seq (.reg false [⟨(some 25), (.fa 4 (.t 2)), none, 0⟩, ⟨(some 26), (.ld none (.t 25)), none, 0⟩, ⟨(some 27), (.fa 4 (.t 3)), none, 0⟩, ⟨(some 28), (.ld none (.t 27)), none, 0⟩, ⟨(some 29), (.bin .neq (.t 26) (.t 28)), none, 0⟩]) (.cond (.t 29) (.seq (.reg false [⟨(some 4), (.mv (.c (.bool false))), none, 0⟩]) .ret) .skip)) x47_1)
def x47_3 : XCode := (.seq (.seq (.reg false [⟨(some 20), (.fa 3 (.t 2)), none, 0⟩, ⟨(some 21), (.ld none (.t 20)), none, 0⟩, ⟨(some 22), (.fa 3 (.t 3)), none, 0⟩, ⟨(some 23), (.ld none (.t 22)), none, 0⟩, ⟨(some 24), (.bin .neq (.t 21) (.t 23)), none, 0⟩]) (.cond (.t 24) (.seq (.reg false [⟨(some 4), (.mv (.c (.bool false))), none, 0⟩]) .ret) .skip)) x47_2)
def x47_4 : XCode := (.seq (.seq (.reg false [⟨(some 15), (.fa 2 (.t 2)), none, 0⟩, ⟨(some 16), (.ld none (.t 15)), none, 0⟩, ⟨(some 17), (.fa 2 (.t 3)), none, 0⟩, ⟨(some 18), (.ld none (.t 17)), none, 0⟩, ⟨(some 19), (.eqb true (.t 16) (.t 18)), none, 0⟩]) (.cond (.t 19) (.seq (.reg false [⟨(some 4), (.mv (.c (.bool false))), none, 0⟩]) .ret) .skip)) x47_3)
def x47_5 : XCode := (.seq (.seq (.reg false [⟨(some 10), (.fa 1 (.t 2)), none, 0⟩, ⟨(some 11), (.ld none (.t 10)), none, 0⟩, ⟨(some 12), (.fa 1 (.t 3)), none, 0⟩, ⟨(some 13), (.ld none (.t 12)), none, 0⟩, ⟨(some 14), (.bin .neq (.t 11) (.t 13)), none, 0⟩]) (.cond (.t 14) (.seq (.reg false [⟨(some 4), (.mv (.c (.bool false))), none, 0⟩]) .ret) .skip)) x47_4)
def x47_6 : XCode := (.seq (.seq (.reg false [⟨(some 5), (.fa 0 (.t 2)), none, 0⟩, ⟨(some 6), (.ld none (.t 5)), none, 0⟩, ⟨(some 7), (.fa 0 (.t 3)), none, 0⟩, ⟨(some 8), (.ld none (.t 7)), none, 0⟩, ⟨(some 9), (.bin .neq (.t 6) (.t 8)), none, 0⟩]) (.cond (.t 9) (.seq (.reg false [⟨(some 4), (.mv (.c (.bool false))), none, 0⟩]) .ret) .skip)) x47_5)
def x47 : XFn := ⟨(.seq (.seq (.reg false [⟨(some 2), (.box 55 6 (.t 0)), none, 0⟩, ⟨(some 3), (.box 55 6 (.t 1)), none, 0⟩, ⟨(some 4), (.mv (.c (.bool false))), none, 0⟩]) (.frz [2, 3])) x47_6), 35, [(.t 4)]⟩
theorem ok47 : FnOk Try.prog T 47 x47 := ⟨Try.f47, [.frz [2, 3]], Try.func47, by decide +kernel, by kernel_rfl⟩
/-- laws.eqCallS -/
def x15_1 : XCode := (.seq (.reg true [⟨(some 17), (.mv (.t 0)), none, 4⟩, ⟨(some 18), (.mv (.t 5)), none, 4⟩, ⟨(some 19), (.ia 6 (.t 17) (.t 18)), none, 4⟩, ⟨(some 20), (.ld (some 6) (.t 19)), none, 4⟩, ⟨(some 21), (.mv (.t 1)), none, 4⟩, ⟨(some 22), (.mv (.t 5)), none, 4⟩, ⟨(some 23), (.ia 6 (.t 21) (.t 22)), none, 4⟩, ⟨(some 24), (.ld (some 6) (.t 23)), none, 4⟩, ⟨(some 25), (.call (.c (.fn 47 [])) [(.t 20), (.t 24)]), none, 3⟩, ⟨(some 26), (.un .not (.t 25)), none, 4⟩]) (.cond (.t 26) (.seq (.reg false [⟨(some 4), (.mv (.c (.bool false))), none, 0⟩]) .ret) .skip))
def x15_2 : XCode := (.seq (.block 1 x15_1) (.reg false [⟨(some 15), (.mv (.t 5)), none, 0⟩, ⟨(some 16), (.bin .add (.t 15) (.c (.int .i64 1))), none, 0⟩, ⟨(some 5), (.mv (.t 16)), none, 0⟩]))
def x15_3 : XCode := (.seq (.seq (.reg false [⟨(some 11), (.mv (.t 5)), none, 0⟩, ⟨(some 12), (.mv (.t 0)), none, 0⟩, ⟨(some 13), (.len (.t 12)), none, 0⟩, ⟨(some 14), (.bin .lss (.t 11) (.t 13)), none, 0⟩]) (.cond (.t 14) .skip (.exit 0))) x15_2)
def x15_4 : XCode := (.block 0 (.loop [0, 1, 5] x15_3))
def x15_5 : XCode := x15_4
def x15_6 : XCode := (.seq (.seq (.reg false [⟨(some 5), (.mv (.c (.int .i64 0))), none, 0⟩]) x15_5) (.seq (.reg false [⟨(some 4), (.mv (.c (.bool true))), none, 0⟩]) .ret))
def x15_7 : XCode := (.seq (.seq (.reg false [⟨(some 6), (.mv (.t 0)), none, 0⟩, ⟨(some 7), (.len (.t 6)), none, 0⟩, ⟨(some 8), (.mv (.t 1)), none, 0⟩, ⟨(some 9), (.len (.t 8)), none, 0⟩, ⟨(some 10), (.bin .neq (.t 7) (.t 9)), none, 0⟩]) (.cond (.t 10) (.seq (.reg false [⟨(some 4), (.mv (.c (.bool false))), none, 0⟩]) .ret) .skip)) x15_6)
def x15 : XFn := ⟨(.seq (.reg false [⟨(some 4), (.mv (.c (.bool false))), none, 0⟩]) x15_7), 27, [(.t 4)]⟩
theorem ok15 : FnOk Try.prog T 15 x15 := ⟨Try.f15, [.loop [0, 1, 5], .draw [0, 1, 2, 3, 4, 5, 6, 7, 8, 9] [4, 4, 4, 4, 4, 4, 4, 4, 3, 4]], Try.func15, by decide +kernel, by kernel_rfl⟩
/-- laws.markCallS -/
def x16_1 : XCode := (.seq (.reg false [⟨(some 49), (.mv (.t 0)), none, 0⟩, ⟨(some 50), (.mv (.t 5)), none, 0⟩, ⟨(some 51), (.mv (.t 1)), none, 0⟩, ⟨(some 52), (.ia 6 (.t 49) (.t 50)), none, 0⟩, ⟨(some 53), (.fa 5 (.t 52)), none, 0⟩, ⟨none, (.st 1 (.t 53) (.t 51)), none, 0⟩]) (.reg false [⟨(some 54), (.mv (.t 1)), none, 0⟩, ⟨(some 55), (.bin .add (.t 54) (.c (.int .i64 1))), none, 0⟩, ⟨(some 1), (.mv (.t 55)), none, 0⟩]))
def x16_2 : XCode := (.seq (.reg false [⟨(some 47), (.mv (.t 1)), none, 0⟩, ⟨(some 48), (.bin .add (.t 47) (.c (.int .i64 1))), none, 0⟩, ⟨(some 1), (.mv (.t 48)), none, 0⟩]) x16_1)
def x16_3 : XCode := (.seq (.reg false [⟨(some 42), (.mv (.t 0)), none, 0⟩, ⟨(some 43), (.mv (.t 5)), none, 0⟩, ⟨(some 44), (.mv (.t 1)), none, 0⟩, ⟨(some 45), (.ia 6 (.t 42) (.t 43)), none, 0⟩, ⟨(some 46), (.fa 4 (.t 45)), none, 0⟩, ⟨none, (.st 1 (.t 46) (.t 44)), none, 0⟩]) x16_2)
def x16_4 : XCode := (.seq (.reg false [⟨(some 40), (.mv (.t 1)), none, 0⟩, ⟨(some 41), (.bin .add (.t 40) (.c (.int .i64 1))), none, 0⟩, ⟨(some 1), (.mv (.t 41)), none, 0⟩]) x16_3)
def x16_5 : XCode := (.seq (.reg false [⟨(some 35), (.mv (.t 0)), none, 0⟩, ⟨(some 36), (.mv (.t 5)), none, 0⟩, ⟨(some 37), (.mv (.t 1)), none, 0⟩, ⟨(some 38), (.ia 6 (.t 35) (.t 36)), none, 0⟩, ⟨(some 39), (.fa 3 (.t 38)), none, 0⟩, ⟨none, (.st 1 (.t 39) (.t 37)), none, 0⟩]) x16_4)
def x16_6 : XCode := (.seq (.reg false [⟨(some 33), (.mv (.t 1)), none, 0⟩, ⟨(some 34), (.bin .add (.t 33) (.c (.int .i64 1))), none, 0⟩, ⟨(some 1), (.mv (.t 34)), none, 0⟩]) x16_5)
def x16_7 : XCode := (.seq (.reg false [⟨(some 26), (.mv (.t 0)), none, 0⟩, ⟨(some 27), (.mv (.t 5)), none, 0⟩, ⟨(some 28), (.mv (.t 1)), none, 0⟩, ⟨(some 29), (.bin .rem (.t 28) (.c (.int .i64 3))), none, 0⟩, ⟨(some 30), (.bin .eql (.t 29) (.c (.int .i64 0))), none, 0⟩, ⟨(some 31), (.ia 6 (.t 26) (.t 27)), none, 0⟩, ⟨(some 32), (.fa 2 (.t 31)), none, 0⟩, ⟨none, (.st 1 (.t 32) (.t 30)), none, 0⟩]) x16_6)
def x16_8 : XCode := (.seq (.reg false [⟨(some 24), (.mv (.t 1)), none, 0⟩, ⟨(some 25), (.bin .add (.t 24) (.c (.int .i64 1))), none, 0⟩, ⟨(some 1), (.mv (.t 25)), none, 0⟩]) x16_7)
def x16_9 : XCode := (.seq (.reg false [⟨(some 19), (.mv (.t 0)), none, 0⟩, ⟨(some 20), (.mv (.t 5)), none, 0⟩, ⟨(some 21), (.mv (.t 1)), none, 0⟩, ⟨(some 22), (.ia 6 (.t 19) (.t 20)), none, 0⟩, ⟨(some 23), (.fa 1 (.t 22)), none, 0⟩, ⟨none, (.st 1 (.t 23) (.t 21)), none, 0⟩]) x16_8)
def x16_10 : XCode := (.seq (.reg false [⟨(some 17), (.mv (.t 1)), none, 0⟩, ⟨(some 18), (.bin .add (.t 17) (.c (.int .i64 1))), none, 0⟩, ⟨(some 1), (.mv (.t 18)), none, 0⟩]) x16_9)
def x16_11 : XCode := (.seq (.reg false [⟨(some 12), (.mv (.t 0)), none, 0⟩, ⟨(some 13), (.mv (.t 5)), none, 0⟩, ⟨(some 14), (.mv (.t 1)), none, 0⟩, ⟨(some 15), (.ia 6 (.t 12) (.t 13)), none, 0⟩, ⟨(some 16), (.fa 0 (.t 15)), none, 0⟩, ⟨none, (.st 1 (.t 16) (.t 14)), none, 0⟩]) x16_10)
def x16_12 : XCode := (.seq (.block 1 x16_11) (.reg false [⟨(some 10), (.mv (.t 5)), none, 0⟩, ⟨(some 11), (.bin .add (.t 10) (.c (.int .i64 1))), none, 0⟩, ⟨(some 5), (.mv (.t 11)), none, 0⟩]))
def x16_13 : XCode := (.seq (.seq (.reg false [⟨(some 6), (.mv (.t 5)), none, 0⟩, ⟨(some 7), (.mv (.t 0)), none, 0⟩, ⟨(some 8), (.len (.t 7)), none, 0⟩, ⟨(some 9), (.bin .lss (.t 6) (.t 8)), none, 0⟩]) (.cond (.t 9) .skip (.exit 0))) x16_12)
def x16_14 : XCode := (.block 0 (.loop [0, 1, 5] x16_13))
def x16_15 : XCode := x16_14
def x16_16 : XCode := (.seq (.seq (.reg false [⟨(some 5), (.mv (.c (.int .i64 0))), none, 0⟩]) x16_15) (.seq (.reg false [⟨(some 56), (.mv (.t 1)), none, 0⟩, ⟨(some 4), (.mv (.t 56)), none, 0⟩]) .ret))
def x16 : XFn := ⟨(.seq (.reg false [⟨(some 4), (.mv (.c (.int .i64 0))), none, 0⟩]) x16_16), 57, [(.t 4)]⟩
theorem ok16 : FnOk Try.prog T 16 x16 := ⟨Try.f16, [.loop [0, 1, 5]], Try.func16, by decide +kernel, by kernel_rfl⟩
/-- spec.l1In -/
def x41_1 : XCode := (.seq (.reg false [⟨(some 7), (.mv (.t 0)), none, 0⟩, ⟨(some 8), (.mv (.t 1)), none, 0⟩, ⟨(some 9), (.bin .geq (.t 7) (.t 8)), none, 0⟩, ⟨(some 10), (.mv (.t 9)), none, 0⟩, ⟨(some 11), (.mv (.t 0)), (some (10, true)), 0⟩, ⟨(some 12), (.mv (.t 2)), (some (10, true)), 0⟩, ⟨(some 13), (.bin .leq (.t 11) (.t 12)), (some (10, true)), 0⟩, ⟨(some 14), (.pick (.t 10) (.t 13) (.c (.bool false))), none, 0⟩, ⟨(some 6), (.mv (.t 14)), none, 0⟩]) .ret)
def x41 : XFn := ⟨(.seq (.reg false [⟨(some 6), (.mv (.c (.bool false))), none, 0⟩]) x41_1), 15, [(.t 6)]⟩
theorem ok41 : FnOk Try.prog T 41 x41 := ⟨Try.f41, [], Try.func41, by decide +kernel, by kernel_rfl⟩
/-- spec.l15Call -/
def x64_1 : XCode := (.seq (.reg false [⟨(some 3), (.fa 0 (.t 1)), none, 0⟩, ⟨(some 4), (.ld none (.t 3)), none, 0⟩, ⟨(some 5), (.call (.c (.fn 41 [])) [(.t 4), (.c (.int .i64 0)), (.c (.int .i64 3))]), none, 0⟩, ⟨(some 6), (.mv (.t 5)), none, 0⟩, ⟨(some 7), (.fa 1 (.t 1)), (some (6, true)), 0⟩, ⟨(some 8), (.ld none (.t 7)), (some (6, true)), 0⟩, ⟨(some 9), (.call (.c (.fn 41 [])) [(.t 8), (.c (.int .i64 0)), (.c (.int .i64 2))]), (some (6, true)), 0⟩, ⟨(some 10), (.pick (.t 6) (.t 9) (.c (.bool false))), none, 0⟩, ⟨(some 11), (.mv (.t 10)), none, 0⟩, ⟨(some 12), (.fa 3 (.t 1)), (some (11, true)), 0⟩, ⟨(some 13), (.ld none (.t 12)), (some (11, true)), 0⟩, ⟨(some 14), (.call (.c (.fn 41 [])) [(.t 13), (.c (.int .i64 0)), (.c (.int .i64 9))]), (some (11, true)), 0⟩, ⟨(some 15), (.pick (.t 11) (.t 14) (.c (.bool false))), none, 0⟩, ⟨(some 16), (.mv (.t 15)), none, 0⟩, ⟨(some 17), (.fa 2 (.t 1)), (some (16, true)), 0⟩, ⟨(some 18), (.ld none (.t 17)), (some (16, true)), 0⟩, ⟨(some 19), (.un .not (.t 18)), (some (16, true)), 0⟩, ⟨(some 20), (.mv (.t 19)), (some (16, true)), 0⟩, ⟨(some 21), (.fa 3 (.t 1)), (some (20, false)), 0⟩, ⟨(some 22), (.ld none (.t 21)), (some (20, false)), 0⟩, ⟨(some 23), (.bin .gtr (.t 22) (.c (.int .i64 0))), (some (20, false)), 0⟩, ⟨(some 24), (.pick (.t 20) (.c (.bool true)) (.t 23)), (some (16, true)), 0⟩, ⟨(some 25), (.pick (.t 16) (.t 24) (.c (.bool false))), none, 0⟩, ⟨(some 26), (.mv (.t 25)), none, 0⟩, ⟨(some 27), (.fa 4 (.t 1)), (some (26, true)), 0⟩, ⟨(some 28), (.ld none (.t 27)), (some (26, true)), 0⟩, ⟨(some 29), (.call (.c (.fn 41 [])) [(.t 28), (.c (.int .i64 0)), (.c (.int .i64 100))]), (some (26, true)), 0⟩, ⟨(some 30), (.pick (.t 26) (.t 29) (.c (.bool false))), none, 0⟩, ⟨(some 31), (.mv (.t 30)), none, 0⟩, ⟨(some 32), (.fa 5 (.t 1)), (some (31, true)), 0⟩, ⟨(some 33), (.ld none (.t 32)), (some (31, true)), 0⟩, ⟨(some 34), (.call (.c (.fn 41 [])) [(.t 33), (.c (.int .i64 0)), (.c (.int .i64 100))]), (some (31, true)), 0⟩, ⟨(some 35), (.pick (.t 31) (.t 34) (.c (.bool false))), none, 0⟩, ⟨(some 36), (.mv (.t 35)), none, 0⟩, ⟨(some 37), (.fa 4 (.t 1)), (some (36, true)), 0⟩, ⟨(some 38), (.ld none (.t 37)), (some (36, true)), 0⟩, ⟨(some 39), (.fa 5 (.t 1)), (some (36, true)), 0⟩, ⟨(some 40), (.ld none (.t 39)), (some (36, true)), 0⟩, ⟨(some 41), (.bin .lss (.t 38) (.t 40)), (some (36, true)), 0⟩, ⟨(some 42), (.pick (.t 36) (.t 41) (.c (.bool false))), none, 0⟩, ⟨(some 2), (.mv (.t 42)), none, 0⟩]) .ret)
def x64 : XFn := ⟨(.seq (.seq (.reg false [⟨(some 1), (.box 55 6 (.t 0)), none, 0⟩, ⟨(some 2), (.mv (.c (.bool false))), none, 0⟩]) (.frz [1])) x64_1), 43, [(.t 2)]⟩
theorem ok64 : FnOk Try.prog T 64 x64 := ⟨Try.f64, [.frz [1]], Try.func64, by decide +kernel, by kernel_rfl⟩
/-- spec.GoodCalls -/
def x40_1 : XCode := (.seq (.reg false [⟨(some 25), (.fa 0 (.t 6)), none, 0⟩, ⟨(some 26), (.ld none (.t 25)), none, 0⟩, ⟨(some 27), (.fa 0 (.t 4)), none, 0⟩, ⟨(some 28), (.ld none (.t 27)), none, 0⟩, ⟨(some 29), (.bin .eql (.t 26) (.t 28)), none, 0⟩, ⟨(some 30), (.mv (.t 29)), none, 0⟩, ⟨(some 31), (.fa 5 (.t 6)), (some (30, true)), 0⟩, ⟨(some 32), (.ld none (.t 31)), (some (30, true)), 0⟩, ⟨(some 33), (.fa 4 (.t 4)), (some (30, true)), 0⟩, ⟨(some 34), (.ld none (.t 33)), (some (30, true)), 0⟩, ⟨(some 35), (.bin .gtr (.t 32) (.t 34)), (some (30, true)), 0⟩, ⟨(some 36), (.pick (.t 30) (.t 35) (.c (.bool false))), none, 0⟩, ⟨(some 37), (.mv (.t 36)), none, 0⟩, ⟨(some 38), (.fa 5 (.t 4)), (some (37, true)), 0⟩, ⟨(some 39), (.ld none (.t 38)), (some (37, true)), 0⟩, ⟨(some 40), (.fa 4 (.t 6)), (some (37, true)), 0⟩, ⟨(some 41), (.ld none (.t 40)), (some (37, true)), 0⟩, ⟨(some 42), (.bin .gtr (.t 39) (.t 41)), (some (37, true)), 0⟩, ⟨(some 43), (.pick (.t 37) (.t 42) (.c (.bool false))), none, 0⟩]) (.cond (.t 43) (.seq (.reg false [⟨(some 2), (.mv (.c (.bool false))), none, 0⟩]) .ret) .skip))
def x40_2 : XCode := (.seq (.seq (.reg false [⟨(some 23), (.ia 6 (.t 19) (.t 21)), none, 0⟩, ⟨(some 24), (.ld (some 6) (.t 23)), none, 0⟩, ⟨(some 6), (.new 55 [(.int .i64 0), (.int .i64 0), (.bool false), (.int .i64 0), (.int .i64 0), (.int .i64 0)]), none, 0⟩, ⟨none, (.st 6 (.t 6) (.t 24)), none, 0⟩]) (.frz [6])) x40_1)
def x40_3 : XCode := (.block 2 (.loop [0, 4, 7, 8, 9, 19, 20, 21] (.seq (.reg false [⟨(some 22), (.bin .lss (.t 21) (.t 20)), none, 0⟩]) (.seq (.cond (.t 22) .skip (.exit 2)) (.seq (.block 3 x40_2) (.reg false [⟨(some 44), (.bin .add (.t 21) (.c (.int .i64 1))), none, 0⟩, ⟨(some 21), (.mv (.t 44)), none, 0⟩]))))))
def x40_4 : XCode := x40_3
def x40_5 : XCode := (.seq (.reg false [⟨(some 17), (.mv (.t 0)), none, 0⟩, ⟨(some 18), (.mv (.t 3)), none, 0⟩, ⟨(some 19), (.slc 55 6 (.t 17) none (some (.t 18)) none), none, 0⟩, ⟨(some 20), (.len (.t 19)), none, 0⟩, ⟨(some 21), (.mv (.c (.int .i64 0))), none, 0⟩]) x40_4)
def x40_6 : XCode := (.seq (.seq (.reg false [⟨(some 14), (.ld (some 6) (.t 4)), none, 0⟩, ⟨(some 15), (.call (.c (.fn 64 [])) [(.t 14)]), none, 0⟩, ⟨(some 16), (.un .not (.t 15)), none, 0⟩]) (.cond (.t 16) (.seq (.reg false [⟨(some 2), (.mv (.c (.bool false))), none, 0⟩]) .ret) .skip)) x40_5)
def x40_7 : XCode := (.seq (.seq (.reg false [⟨(some 11), (.mv (.t 9)), none, 0⟩, ⟨(some 12), (.ia 6 (.t 7) (.t 9)), none, 0⟩, ⟨(some 13), (.ld (some 6) (.t 12)), none, 0⟩, ⟨(some 4), (.new 55 [(.int .i64 0), (.int .i64 0), (.bool false), (.int .i64 0), (.int .i64 0), (.int .i64 0)]), none, 0⟩, ⟨(some 3), (.mv (.t 11)), none, 0⟩, ⟨none, (.st 6 (.t 4) (.t 13)), none, 0⟩]) (.frz [4])) x40_6)
def x40_8 : XCode := (.block 0 (.loop [0, 7, 8, 9] (.seq (.reg false [⟨(some 10), (.bin .lss (.t 9) (.t 8)), none, 0⟩]) (.seq (.cond (.t 10) .skip (.exit 0)) (.seq (.block 1 x40_7) (.reg false [⟨(some 45), (.bin .add (.t 9) (.c (.int .i64 1))), none, 0⟩, ⟨(some 9), (.mv (.t 45)), none, 0⟩]))))))
def x40_9 : XCode := x40_8
def x40_10 : XCode := (.seq (.reg false [⟨(some 46), (.mv (.t 0)), none, 0⟩, ⟨(some 47), (.len (.t 46)), none, 0⟩, ⟨(some 48), (.bin .leq (.t 47) (.c (.int .i64 7))), none, 0⟩, ⟨(some 2), (.mv (.t 48)), none, 0⟩]) .ret)
def x40_11 : XCode := (.seq (.seq (.reg false [⟨(some 7), (.mv (.t 0)), none, 0⟩, ⟨(some 8), (.len (.t 7)), none, 0⟩, ⟨(some 9), (.mv (.c (.int .i64 0))), none, 0⟩]) x40_9) x40_10)
def x40 : XFn := ⟨(.seq (.reg false [⟨(some 2), (.mv (.c (.bool false))), none, 0⟩]) x40_11), 49, [(.t 2)]⟩
theorem ok40 : FnOk Try.prog T 40 x40 := ⟨Try.f40, [.loop [0, 7, 8, 9], .frz [], .frz [4], .loop [0, 4, 7, 8, 9, 19, 20, 21], .frz [], .frz [6]], Try.func40, by decide +kernel, by kernel_rfl⟩
/-- spec.l15Before -/
def x53_1 : XCode := (.seq (.reg false [⟨(some 8), (.fa 0 (.t 3)), none, 0⟩, ⟨(some 9), (.ld none (.t 8)), none, 0⟩, ⟨(some 10), (.fa 0 (.t 4)), none, 0⟩, ⟨(some 11), (.ld none (.t 10)), none, 0⟩, ⟨(some 12), (.bin .eql (.t 9) (.t 11)), none, 0⟩, ⟨(some 13), (.mv (.t 12)), none, 0⟩, ⟨(some 14), (.fa 4 (.t 3)), (some (13, true)), 0⟩, ⟨(some 15), (.ld none (.t 14)), (some (13, true)), 0⟩, ⟨(some 16), (.fa 4 (.t 4)), (some (13, true)), 0⟩, ⟨(some 17), (.ld none (.t 16)), (some (13, true)), 0⟩, ⟨(some 18), (.bin .lss (.t 15) (.t 17)), (some (13, true)), 0⟩, ⟨(some 19), (.pick (.t 13) (.t 18) (.c (.bool false))), none, 0⟩, ⟨(some 6), (.mv (.t 19)), none, 0⟩]) .ret)
def x53_2 : XCode := (.cond (.t 7) x53_1 .skip)
def x53_3 : XCode := (.seq (.reg false [⟨(some 20), (.fa 5 (.t 3)), none, 0⟩, ⟨(some 21), (.ld none (.t 20)), none, 0⟩, ⟨(some 22), (.fa 4 (.t 4)), none, 0⟩, ⟨(some 23), (.ld none (.t 22)), none, 0⟩, ⟨(some 24), (.bin .leq (.t 21) (.t 23)), none, 0⟩, ⟨(some 6), (.mv (.t 24)), none, 0⟩]) .ret)
def x53_4 : XCode := (.seq (.seq (.reg false [⟨(some 7), (.mv (.t 2)), none, 0⟩]) x53_2) x53_3)
def x53 : XFn := ⟨(.seq (.seq (.reg false [⟨(some 3), (.box 55 6 (.t 0)), none, 0⟩, ⟨(some 4), (.box 55 6 (.t 1)), none, 0⟩, ⟨(some 6), (.mv (.c (.bool false))), none, 0⟩]) (.frz [3, 4])) x53_4), 25, [(.t 6)]⟩
theorem ok53 : FnOk Try.prog T 53 x53 := ⟨Try.f53, [.frz [3, 4]], Try.func53, by decide +kernel, by kernel_rfl⟩
/-- spec.l15Legal -/
def x57_1 : XCode := (.reg false [⟨(some 22), (.mv (.t 5)), none, 0⟩, ⟨(some 23), (.fa 1 (.t 8)), none, 0⟩, ⟨(some 24), (.ld none (.t 23)), none, 0⟩, ⟨(some 25), (.fa 3 (.t 8)), none, 0⟩, ⟨(some 26), (.ld none (.t 25)), none, 0⟩, ⟨(some 27), (.ia 1 (.t 22) (.t 24)), none, 0⟩, ⟨none, (.st 1 (.t 27) (.t 26)), none, 0⟩])
def x57_2 : XCode := (.seq (.reg true [⟨(some 28), (.mv (.t 5)), none, 4⟩, ⟨(some 29), (.fa 1 (.t 8)), none, 4⟩, ⟨(some 30), (.ld none (.t 29)), none, 4⟩, ⟨(some 31), (.ia 1 (.t 28) (.t 30)), none, 4⟩, ⟨(some 32), (.ld none (.t 31)), none, 4⟩, ⟨(some 33), (.fa 3 (.t 8)), none, 4⟩, ⟨(some 34), (.ld none (.t 33)), none, 4⟩, ⟨(some 35), (.bin .neq (.t 32) (.t 34)), none, 4⟩]) (.cond (.t 35) (.seq (.reg false [⟨(some 4), (.mv (.c (.bool false))), none, 0⟩]) .ret) .skip))
def x57_3 : XCode := (.cond (.t 21) x57_1 x57_2)
def x57_4 : XCode := (.seq (.reg false [⟨(some 20), (.fa 2 (.t 8)), none, 0⟩, ⟨(some 21), (.ld none (.t 20)), none, 0⟩]) x57_3)
def x57_5 : XCode := (.seq (.seq (.reg false [⟨(some 16), (.mv (.t 0)), none, 0⟩, ⟨(some 17), (.mv (.t 7)), none, 0⟩, ⟨(some 18), (.ia 6 (.t 16) (.t 17)), none, 0⟩, ⟨(some 19), (.ld (some 6) (.t 18)), none, 0⟩, ⟨(some 8), (.new 55 [(.int .i64 0), (.int .i64 0), (.bool false), (.int .i64 0), (.int .i64 0), (.int .i64 0)]), none, 0⟩, ⟨none, (.st 6 (.t 8) (.t 19)), none, 0⟩]) (.frz [8])) x57_4)
def x57_6 : XCode := (.seq (.reg false [⟨(some 14), (.ia 1 (.t 10) (.t 12)), none, 0⟩, ⟨(some 15), (.ld none (.t 14)), none, 0⟩, ⟨(some 7), (.mv (.t 15)), none, 0⟩]) x57_5)
def x57_7 : XCode := (.block 0 (.loop [0, 5, 10, 11, 12] (.seq (.reg false [⟨(some 13), (.bin .lss (.t 12) (.t 11)), none, 0⟩]) (.seq (.cond (.t 13) .skip (.exit 0)) (.seq (.block 1 x57_6) (.reg false [⟨(some 36), (.bin .add (.t 12) (.c (.int .i64 1))), none, 0⟩, ⟨(some 12), (.mv (.t 36)), none, 0⟩]))))))
def x57_8 : XCode := x57_7
def x57_9 : XCode := (.seq (.seq (.reg false [⟨(some 10), (.mv (.t 1)), none, 0⟩, ⟨(some 11), (.len (.t 10)), none, 0⟩, ⟨(some 12), (.mv (.c (.int .i64 0))), none, 0⟩]) x57_8) (.seq (.reg false [⟨(some 4), (.mv (.c (.bool true))), none, 0⟩]) .ret))
def x57_10 : XCode := (.seq (.reg false [⟨(some 9), (.mkS 3 1 8 [(.int .i64 0)] (.c (.int .i64 3)) (.c (.int .i64 3))), none, 0⟩, ⟨(some 5), (.mv (.t 9)), none, 0⟩]) x57_9)
def x57 : XFn := ⟨(.seq (.reg false [⟨(some 4), (.mv (.c (.bool false))), none, 0⟩]) x57_10), 37, [(.t 4)]⟩
theorem ok57 : FnOk Try.prog T 57 x57 := ⟨Try.f57, [.loop [0, 5, 10, 11, 12], .frz [], .frz [], .frz [8], .draw [0, 1, 2, 3, 4, 5, 6, 7] [4, 4, 4, 4, 4, 4, 4, 4]], Try.func57, by decide +kernel, by kernel_rfl⟩
/-- spec.l1Has -/
def x66_1 : XCode := (.seq (.reg false [⟨(some 13), (.mv (.t 6)), none, 0⟩, ⟨(some 14), (.mv (.t 1)), none, 0⟩, ⟨(some 15), (.bin .eql (.t 13) (.t 14)), none, 0⟩]) (.cond (.t 15) (.seq (.reg false [⟨(some 4), (.mv (.c (.bool true))), none, 0⟩]) .ret) .skip))
def x66_2 : XCode := (.seq (.reg false [⟨(some 11), (.ia 1 (.t 7) (.t 9)), none, 0⟩, ⟨(some 12), (.ld none (.t 11)), none, 0⟩, ⟨(some 6), (.mv (.t 12)), none, 0⟩]) x66_1)
def x66_3 : XCode := (.block 0 (.loop [1, 7, 8, 9] (.seq (.reg false [⟨(some 10), (.bin .lss (.t 9) (.t 8)), none, 0⟩]) (.seq (.cond (.t 10) .skip (.exit 0)) (.seq (.block 1 x66_2) (.reg false [⟨(some 16), (.bin .add (.t 9) (.c (.int .i64 1))), none, 0⟩, ⟨(some 9), (.mv (.t 16)), none, 0⟩]))))))
def x66_4 : XCode := x66_3
def x66_5 : XCode := (.seq (.seq (.reg false [⟨(some 7), (.mv (.t 0)), none, 0⟩, ⟨(some 8), (.len (.t 7)), none, 0⟩, ⟨(some 9), (.mv (.c (.int .i64 0))), none, 0⟩]) x66_4) (.seq (.reg false [⟨(some 4), (.mv (.c (.bool false))), none, 0⟩]) .ret))
def x66 : XFn := ⟨(.seq (.reg false [⟨(some 4), (.mv (.c (.bool false))), none, 0⟩]) x66_5), 17, [(.t 4)]⟩
theorem ok66 : FnOk Try.prog T 66 x66 := ⟨Try.f66, [.loop [1, 7, 8, 9]], Try.func66, by decide +kernel, by kernel_rfl⟩
/-- spec.l15Find -/
def x48_1 : XCode := (.cond (.t 21) (.seq (.reg false [⟨(some 22), (.mv (.t 1)), none, 0⟩, ⟨(some 6), (.mv (.t 22)), none, 0⟩]) .ret) .skip)
def x48_2 : XCode := (.seq (.reg false [⟨(some 41), (.mv (.t 10)), none, 0⟩, ⟨(some 42), (.mv (.t 7)), none, 0⟩, ⟨(some 43), (.bin .neq (.t 41) (.t 42)), none, 0⟩, ⟨(some 44), (.mv (.t 43)), none, 0⟩, ⟨(some 45), (.mv (.t 1)), (some (44, true)), 0⟩, ⟨(some 46), (.mv (.t 10)), (some (44, true)), 0⟩, ⟨(some 47), (.call (.c (.fn 66 [])) [(.t 45), (.t 46)]), (some (44, true)), 0⟩, ⟨(some 48), (.un .not (.t 47)), (some (44, true)), 0⟩, ⟨(some 49), (.pick (.t 44) (.t 48) (.c (.bool false))), none, 0⟩, ⟨(some 50), (.mv (.t 49)), none, 0⟩, ⟨(some 51), (.ld (some 6) (.t 11)), (some (50, true)), 0⟩, ⟨(some 52), (.ld (some 6) (.t 8)), (some (50, true)), 0⟩, ⟨(some 53), (.mv (.t 2)), (some (50, true)), 0⟩, ⟨(some 54), (.call (.c (.fn 53 [])) [(.t 51), (.t 52), (.t 53)]), (some (50, true)), 0⟩, ⟨(some 55), (.pick (.t 50) (.t 54) (.c (.bool false))), none, 0⟩]) (.cond (.t 55) (.reg false [⟨(some 9), (.mv (.c (.bool false))), none, 0⟩]) .skip))
def x48_3 : XCode := (.seq (.seq (.reg false [⟨(some 38), (.mv (.t 36)), none, 0⟩, ⟨(some 39), (.ia 6 (.t 34) (.t 36)), none, 0⟩, ⟨(some 40), (.ld (some 6) (.t 39)), none, 0⟩, ⟨(some 11), (.new 55 [(.int .i64 0), (.int .i64 0), (.bool false), (.int .i64 0), (.int .i64 0), (.int .i64 0)]), none, 0⟩, ⟨(some 10), (.mv (.t 38)), none, 0⟩, ⟨none, (.st 6 (.t 11) (.t 40)), none, 0⟩]) (.frz [11])) x48_2)
def x48_4 : XCode := (.block 2 (.loop [0, 1, 2, 7, 8, 9, 23, 24, 25, 34, 35, 36] (.seq (.reg false [⟨(some 37), (.bin .lss (.t 36) (.t 35)), none, 0⟩]) (.seq (.cond (.t 37) .skip (.exit 2)) (.seq (.block 3 x48_3) (.reg false [⟨(some 56), (.bin .add (.t 36) (.c (.int .i64 1))), none, 0⟩, ⟨(some 36), (.mv (.t 56)), none, 0⟩]))))))
def x48_5 : XCode := x48_4
def x48_6 : XCode := (.cond (.t 70) (.seq (.reg false [⟨(some 71), (.mv (.t 12)), none, 0⟩, ⟨(some 6), (.mv (.t 71)), none, 0⟩]) .ret) .skip)
def x48_7 : XCode := (.seq (.reg false [⟨(some 68), (.mv (.t 12)), none, 0⟩, ⟨(some 69), (.len (.t 68)), none, 0⟩, ⟨(some 70), (.bin .gtr (.t 69) (.c (.int .i64 0))), none, 0⟩]) x48_6)
def x48_8 : XCode := (.seq (.reg false [⟨(some 59), (.mv (.t 0)), none, 0⟩, ⟨(some 60), (.buildS 3 0 [] []), none, 0⟩, ⟨(some 61), (.mv (.t 1)), none, 0⟩, ⟨(some 62), (.app 3 1 8 (.t 60) (.t 61)), none, 0⟩, ⟨(some 63), (.mv (.t 7)), none, 0⟩, ⟨(some 64), (.buildS 3 1 [(.int .i64 0)] [(0, (1, (.t 63)))]), none, 0⟩, ⟨(some 65), (.app 3 1 8 (.t 62) (.t 64)), none, 0⟩, ⟨(some 66), (.mv (.t 2)), none, 0⟩, ⟨(some 67), (.call (.c (.fn 48 [])) [(.t 59), (.t 65), (.t 66)]), none, 0⟩, ⟨(some 12), (.mv (.t 67)), none, 0⟩]) x48_7)
def x48_9 : XCode := (.seq (.seq (.reg false [⟨(some 57), (.mv (.t 9)), none, 0⟩, ⟨(some 58), (.un .not (.t 57)), none, 0⟩]) (.cond (.t 58) (.exit 1) .skip)) x48_8)
def x48_10 : XCode := (.seq (.seq (.reg false [⟨(some 34), (.mv (.t 0)), none, 0⟩, ⟨(some 35), (.len (.t 34)), none, 0⟩, ⟨(some 36), (.mv (.c (.int .i64 0))), none, 0⟩]) x48_5) x48_9)
def x48_11 : XCode := (.seq (.reg false [⟨(some 30), (.mv (.t 1)), none, 0⟩, ⟨(some 31), (.mv (.t 7)), none, 0⟩, ⟨(some 32), (.call (.c (.fn 66 [])) [(.t 30), (.t 31)]), none, 0⟩, ⟨(some 33), (.un .not (.t 32)), none, 0⟩, ⟨(some 9), (.mv (.t 33)), none, 0⟩]) x48_10)
def x48_12 : XCode := (.seq (.seq (.reg false [⟨(some 27), (.mv (.t 25)), none, 0⟩, ⟨(some 28), (.ia 6 (.t 23) (.t 25)), none, 0⟩, ⟨(some 29), (.ld (some 6) (.t 28)), none, 0⟩, ⟨(some 8), (.new 55 [(.int .i64 0), (.int .i64 0), (.bool false), (.int .i64 0), (.int .i64 0), (.int .i64 0)]), none, 0⟩, ⟨(some 7), (.mv (.t 27)), none, 0⟩, ⟨none, (.st 6 (.t 8) (.t 29)), none, 0⟩]) (.frz [8])) x48_11)
def x48_13 : XCode := (.block 0 (.loop [0, 1, 2, 23, 24, 25] (.seq (.reg false [⟨(some 26), (.bin .lss (.t 25) (.t 24)), none, 0⟩]) (.seq (.cond (.t 26) .skip (.exit 0)) (.seq (.block 1 x48_12) (.reg false [⟨(some 72), (.bin .add (.t 25) (.c (.int .i64 1))), none, 0⟩, ⟨(some 25), (.mv (.t 72)), none, 0⟩]))))))
def x48_14 : XCode := x48_13
def x48_15 : XCode := (.seq (.seq (.reg false [⟨(some 23), (.mv (.t 0)), none, 0⟩, ⟨(some 24), (.len (.t 23)), none, 0⟩, ⟨(some 25), (.mv (.c (.int .i64 0))), none, 0⟩]) x48_14) (.seq (.reg false [⟨(some 6), (.mv (.c .nil)), none, 0⟩]) .ret))
def x48_16 : XCode := (.seq (.seq (.reg false [⟨(some 17), (.mv (.t 1)), none, 0⟩, ⟨(some 18), (.len (.t 17)), none, 0⟩, ⟨(some 19), (.mv (.t 0)), none, 0⟩, ⟨(some 20), (.len (.t 19)), none, 0⟩, ⟨(some 21), (.bin .eql (.t 18) (.t 20)), none, 0⟩]) x48_1) x48_15)
def x48_17 : XCode := (.seq (.seq (.reg false [⟨(some 13), (.mv (.t 0)), none, 0⟩, ⟨(some 14), (.mv (.t 1)), none, 0⟩, ⟨(some 15), (.call (.c (.fn 57 [])) [(.t 13), (.t 14)]), none, 0⟩, ⟨(some 16), (.un .not (.t 15)), none, 0⟩]) (.cond (.t 16) (.seq (.reg false [⟨(some 6), (.mv (.c .nil)), none, 0⟩]) .ret) .skip)) x48_16)
def x48 : XFn := ⟨(.seq (.reg false [⟨(some 6), (.mv (.c .nil)), none, 0⟩]) x48_17), 73, [(.t 6)]⟩
theorem ok48 : FnOk Try.prog T 48 x48 := ⟨Try.f48, [.loop [0, 1, 2, 23, 24, 25], .frz [], .frz [8], .loop [0, 1, 2, 7, 8, 9, 23, 24, 25, 34, 35, 36], .frz [], .frz [11]], Try.func48, by decide +kernel, by kernel_rfl⟩
/-- spec.OrderFor -/
def x22_1 : XCode := (.cond (.t 7) (.seq (.reg false [⟨(some 2), (.mv (.c .nil)), none, 0⟩, ⟨(some 3), (.mv (.c (.bool false))), none, 0⟩]) .ret) .skip)
def x22_2 : XCode := (.cond (.t 14) (.seq (.reg false [⟨(some 2), (.mv (.c .nil)), none, 0⟩, ⟨(some 3), (.mv (.c (.bool false))), none, 0⟩]) .ret) .skip)
def x22_3 : XCode := (.seq (.seq (.reg false [⟨(some 10), (.mv (.t 4)), none, 0⟩, ⟨(some 11), (.len (.t 10)), none, 0⟩, ⟨(some 12), (.mv (.t 0)), none, 0⟩, ⟨(some 13), (.len (.t 12)), none, 0⟩, ⟨(some 14), (.bin .neq (.t 11) (.t 13)), none, 0⟩]) x22_2) (.seq (.reg false [⟨(some 15), (.mv (.t 4)), none, 0⟩, ⟨(some 2), (.mv (.t 15)), none, 0⟩, ⟨(some 3), (.mv (.c (.bool true))), none, 0⟩]) .ret))
def x22_4 : XCode := (.seq (.reg false [⟨(some 8), (.mv (.t 0)), none, 0⟩, ⟨(some 9), (.call (.c (.fn 48 [])) [(.t 8), (.c .nil), (.c (.bool false))]), none, 0⟩, ⟨(some 4), (.mv (.t 9)), none, 0⟩]) x22_3)
def x22_5 : XCode := (.seq (.seq (.reg false [⟨(some 5), (.mv (.t 0)), none, 0⟩, ⟨(some 6), (.call (.c (.fn 40 [])) [(.t 5)]), none, 0⟩, ⟨(some 7), (.un .not (.t 6)), none, 0⟩]) x22_1) x22_4)
def x22 : XFn := ⟨(.seq (.reg false [⟨(some 2), (.mv (.c .nil)), none, 0⟩, ⟨(some 3), (.mv (.c (.bool false))), none, 0⟩]) x22_5), 16, [(.t 2), (.t 3)]⟩
theorem ok22 : FnOk Try.prog T 22 x22 := ⟨Try.f22, [], Try.func22, by decide +kernel, by kernel_rfl⟩
/-- impl.in -/
def x44_1 : XCode := (.seq (.reg false [⟨(some 7), (.mv (.t 0)), none, 0⟩, ⟨(some 8), (.mv (.t 1)), none, 0⟩, ⟨(some 9), (.bin .geq (.t 7) (.t 8)), none, 0⟩, ⟨(some 10), (.mv (.t 9)), none, 0⟩, ⟨(some 11), (.mv (.t 0)), (some (10, true)), 0⟩, ⟨(some 12), (.mv (.t 2)), (some (10, true)), 0⟩, ⟨(some 13), (.bin .leq (.t 11) (.t 12)), (some (10, true)), 0⟩, ⟨(some 14), (.pick (.t 10) (.t 13) (.c (.bool false))), none, 0⟩, ⟨(some 6), (.mv (.t 14)), none, 0⟩]) .ret)
def x44 : XFn := ⟨(.seq (.reg false [⟨(some 6), (.mv (.c (.bool false))), none, 0⟩]) x44_1), 15, [(.t 6)]⟩
theorem ok44 : FnOk Try.prog T 44 x44 := ⟨Try.f44, [], Try.func44, by decide +kernel, by kernel_rfl⟩
/-- impl.areCalls -/
def x43_1 : XCode := (.seq (.reg false [⟨(some 61), (.fa 0 (.t 4)), none, 0⟩, ⟨(some 62), (.ld none (.t 61)), none, 0⟩, ⟨(some 63), (.fa 0 (.t 7)), none, 0⟩, ⟨(some 64), (.ld none (.t 63)), none, 0⟩, ⟨(some 65), (.bin .eql (.t 62) (.t 64)), none, 0⟩, ⟨(some 66), (.mv (.t 65)), none, 0⟩, ⟨(some 67), (.fa 5 (.t 4)), (some (66, true)), 0⟩, ⟨(some 68), (.ld none (.t 67)), (some (66, true)), 0⟩, ⟨(some 69), (.fa 4 (.t 7)), (some (66, true)), 0⟩, ⟨(some 70), (.ld none (.t 69)), (some (66, true)), 0⟩, ⟨(some 71), (.bin .gtr (.t 68) (.t 70)), (some (66, true)), 0⟩, ⟨(some 72), (.pick (.t 66) (.t 71) (.c (.bool false))), none, 0⟩, ⟨(some 73), (.mv (.t 72)), none, 0⟩, ⟨(some 74), (.fa 5 (.t 7)), (some (73, true)), 0⟩, ⟨(some 75), (.ld none (.t 74)), (some (73, true)), 0⟩, ⟨(some 76), (.fa 4 (.t 4)), (some (73, true)), 0⟩, ⟨(some 77), (.ld none (.t 76)), (some (73, true)), 0⟩, ⟨(some 78), (.bin .gtr (.t 75) (.t 77)), (some (73, true)), 0⟩, ⟨(some 79), (.pick (.t 73) (.t 78) (.c (.bool false))), none, 0⟩]) (.cond (.t 79) (.seq (.reg false [⟨(some 2), (.mv (.c (.bool false))), none, 0⟩]) .ret) .skip))
def x43_2 : XCode := (.seq (.seq (.reg false [⟨(some 59), (.ia 6 (.t 55) (.t 57)), none, 0⟩, ⟨(some 60), (.ld (some 6) (.t 59)), none, 0⟩, ⟨(some 7), (.new 55 [(.int .i64 0), (.int .i64 0), (.bool false), (.int .i64 0), (.int .i64 0), (.int .i64 0)]), none, 0⟩, ⟨none, (.st 6 (.t 7) (.t 60)), none, 0⟩]) (.frz [7])) x43_1)
def x43_3 : XCode := (.block 2 (.loop [0, 4, 8, 9, 10, 55, 56, 57] (.seq (.reg false [⟨(some 58), (.bin .lss (.t 57) (.t 56)), none, 0⟩]) (.seq (.cond (.t 58) .skip (.exit 2)) (.seq (.block 3 x43_2) (.reg false [⟨(some 80), (.bin .add (.t 57) (.c (.int .i64 1))), none, 0⟩, ⟨(some 57), (.mv (.t 80)), none, 0⟩]))))))
def x43_4 : XCode := x43_3
def x43_5 : XCode := (.seq (.reg false [⟨(some 53), (.mv (.t 0)), none, 0⟩, ⟨(some 54), (.mv (.t 3)), none, 0⟩, ⟨(some 55), (.slc 55 6 (.t 53) none (some (.t 54)) none), none, 0⟩, ⟨(some 56), (.len (.t 55)), none, 0⟩, ⟨(some 57), (.mv (.c (.int .i64 0))), none, 0⟩]) x43_4)
def x43_6 : XCode := (.seq (.seq (.reg false [⟨(some 17), (.fa 0 (.t 4)), none, 0⟩, ⟨(some 18), (.ld none (.t 17)), none, 0⟩, ⟨(some 19), (.call (.c (.fn 44 [])) [(.t 18), (.c (.int .i64 0)), (.c (.int .i64 3))]), none, 0⟩, ⟨(some 20), (.un .not (.t 19)), none, 0⟩, ⟨(some 21), (.mv (.t 20)), none, 0⟩, ⟨(some 22), (.fa 1 (.t 4)), (some (21, false)), 0⟩, ⟨(some 23), (.ld none (.t 22)), (some (21, false)), 0⟩, ⟨(some 24), (.call (.c (.fn 44 [])) [(.t 23), (.c (.int .i64 0)), (.c (.int .i64 2))]), (some (21, false)), 0⟩, ⟨(some 25), (.un .not (.t 24)), (some (21, false)), 0⟩, ⟨(some 26), (.pick (.t 21) (.c (.bool true)) (.t 25)), none, 0⟩, ⟨(some 27), (.mv (.t 26)), none, 0⟩, ⟨(some 28), (.fa 3 (.t 4)), (some (27, false)), 0⟩, ⟨(some 29), (.ld none (.t 28)), (some (27, false)), 0⟩, ⟨(some 30), (.mv (.t 5)), (some (27, false)), 0⟩, ⟨(some 31), (.call (.c (.fn 44 [])) [(.t 29), (.t 30), (.c (.int .i64 9))]), (some (27, false)), 0⟩, ⟨(some 32), (.un .not (.t 31)), (some (27, false)), 0⟩, ⟨(some 33), (.pick (.t 27) (.c (.bool true)) (.t 32)), none, 0⟩, ⟨(some 34), (.mv (.t 33)), none, 0⟩, ⟨(some 35), (.fa 4 (.t 4)), (some (34, false)), 0⟩, ⟨(some 36), (.ld none (.t 35)), (some (34, false)), 0⟩, ⟨(some 37), (.call (.c (.fn 44 [])) [(.t 36), (.c (.int .i64 0)), (.c (.int .i64 100))]), (some (34, false)), 0⟩, ⟨(some 38), (.un .not (.t 37)), (some (34, false)), 0⟩, ⟨(some 39), (.pick (.t 34) (.c (.bool true)) (.t 38)), none, 0⟩, ⟨(some 40), (.mv (.t 39)), none, 0⟩, ⟨(some 41), (.fa 5 (.t 4)), (some (40, false)), 0⟩, ⟨(some 42), (.ld none (.t 41)), (some (40, false)), 0⟩, ⟨(some 43), (.call (.c (.fn 44 [])) [(.t 42), (.c (.int .i64 0)), (.c (.int .i64 100))]), (some (40, false)), 0⟩, ⟨(some 44), (.un .not (.t 43)), (some (40, false)), 0⟩, ⟨(some 45), (.pick (.t 40) (.c (.bool true)) (.t 44)), none, 0⟩, ⟨(some 46), (.mv (.t 45)), none, 0⟩, ⟨(some 47), (.fa 4 (.t 4)), (some (46, false)), 0⟩, ⟨(some 48), (.ld none (.t 47)), (some (46, false)), 0⟩, ⟨(some 49), (.fa 5 (.t 4)), (some (46, false)), 0⟩, ⟨(some 50), (.ld none (.t 49)), (some (46, false)), 0⟩, ⟨(some 51), (.bin .geq (.t 48) (.t 50)), (some (46, false)), 0⟩, ⟨(some 52), (.pick (.t 46) (.c (.bool true)) (.t 51)), none, 0⟩]) (.cond (.t 52) (.seq (.reg false [⟨(some 2), (.mv (.c (.bool false))), none, 0⟩]) .ret) .skip)) x43_5)
def x43_7 : XCode := (.seq (.seq (.reg false [⟨(some 15), (.fa 2 (.t 4)), none, 0⟩, ⟨(some 16), (.ld none (.t 15)), none, 0⟩]) (.cond (.t 16) (.reg false [⟨(some 5), (.mv (.c (.int .i64 1))), none, 0⟩]) .skip)) x43_6)
def x43_8 : XCode := (.seq (.reg false [⟨(some 5), (.mv (.c (.int .i64 0))), none, 0⟩]) x43_7)
def x43_9 : XCode := (.seq (.seq (.reg false [⟨(some 12), (.mv (.t 10)), none, 0⟩, ⟨(some 13), (.ia 6 (.t 8) (.t 10)), none, 0⟩, ⟨(some 14), (.ld (some 6) (.t 13)), none, 0⟩, ⟨(some 4), (.new 55 [(.int .i64 0), (.int .i64 0), (.bool false), (.int .i64 0), (.int .i64 0), (.int .i64 0)]), none, 0⟩, ⟨(some 3), (.mv (.t 12)), none, 0⟩, ⟨none, (.st 6 (.t 4) (.t 14)), none, 0⟩]) (.frz [4])) x43_8)
def x43_10 : XCode := (.block 0 (.loop [0, 8, 9, 10] (.seq (.reg false [⟨(some 11), (.bin .lss (.t 10) (.t 9)), none, 0⟩]) (.seq (.cond (.t 11) .skip (.exit 0)) (.seq (.block 1 x43_9) (.reg false [⟨(some 81), (.bin .add (.t 10) (.c (.int .i64 1))), none, 0⟩, ⟨(some 10), (.mv (.t 81)), none, 0⟩]))))))
def x43_11 : XCode := x43_10
def x43_12 : XCode := (.seq (.reg false [⟨(some 82), (.mv (.t 0)), none, 0⟩, ⟨(some 83), (.len (.t 82)), none, 0⟩, ⟨(some 84), (.bin .leq (.t 83) (.c (.int .i64 7))), none, 0⟩, ⟨(some 2), (.mv (.t 84)), none, 0⟩]) .ret)
def x43_13 : XCode := (.seq (.seq (.reg false [⟨(some 8), (.mv (.t 0)), none, 0⟩, ⟨(some 9), (.len (.t 8)), none, 0⟩, ⟨(some 10), (.mv (.c (.int .i64 0))), none, 0⟩]) x43_11) x43_12)
def x43 : XFn := ⟨(.seq (.reg false [⟨(some 2), (.mv (.c (.bool false))), none, 0⟩]) x43_13), 85, [(.t 2)]⟩
theorem ok43 : FnOk Try.prog T 43 x43 := ⟨Try.f43, [.loop [0, 8, 9, 10], .frz [], .frz [4], .loop [0, 4, 8, 9, 10, 55, 56, 57], .frz [], .frz [7]], Try.func43, by decide +kernel, by kernel_rfl⟩
/-- impl.inOrder -/
def x55_1 : XCode := (.seq (.reg false [⟨(some 24), (.mv (.t 1)), none, 0⟩, ⟨(some 25), (.mv (.t 8)), none, 0⟩, ⟨(some 26), (.mv (.t 6)), none, 0⟩, ⟨(some 27), (.call (.t 24) [(.t 25), (.t 26)]), none, 0⟩, ⟨(some 28), (.un .not (.t 27)), none, 0⟩]) (.cond (.t 28) (.seq (.reg false [⟨(some 4), (.mv (.c (.bool false))), none, 0⟩]) .ret) .skip))
def x55_2 : XCode := (.seq (.reg false [⟨(some 22), (.ia 1 (.t 18) (.t 20)), none, 0⟩, ⟨(some 23), (.ld none (.t 22)), none, 0⟩, ⟨(some 8), (.mv (.t 23)), none, 0⟩]) x55_1)
def x55_3 : XCode := (.block 2 (.loop [0, 1, 6, 9, 10, 11, 18, 19, 20] (.seq (.reg false [⟨(some 21), (.bin .lss (.t 20) (.t 19)), none, 0⟩]) (.seq (.cond (.t 21) .skip (.exit 2)) (.seq (.block 3 x55_2) (.reg false [⟨(some 29), (.bin .add (.t 20) (.c (.int .i64 1))), none, 0⟩, ⟨(some 20), (.mv (.t 29)), none, 0⟩]))))))
def x55_4 : XCode := x55_3
def x55_5 : XCode := (.seq (.reg false [⟨(some 16), (.mv (.t 0)), none, 0⟩, ⟨(some 17), (.mv (.t 5)), none, 0⟩, ⟨(some 18), (.slc 3 1 (.t 16) none (some (.t 17)) none), none, 0⟩, ⟨(some 19), (.len (.t 18)), none, 0⟩, ⟨(some 20), (.mv (.c (.int .i64 0))), none, 0⟩]) x55_4)
def x55_6 : XCode := (.seq (.reg false [⟨(some 13), (.mv (.t 11)), none, 0⟩, ⟨(some 14), (.ia 1 (.t 9) (.t 11)), none, 0⟩, ⟨(some 15), (.ld none (.t 14)), none, 0⟩, ⟨(some 5), (.mv (.t 13)), none, 0⟩, ⟨(some 6), (.mv (.t 15)), none, 0⟩]) x55_5)
def x55_7 : XCode := (.block 0 (.loop [0, 1, 9, 10, 11] (.seq (.reg false [⟨(some 12), (.bin .lss (.t 11) (.t 10)), none, 0⟩]) (.seq (.cond (.t 12) .skip (.exit 0)) (.seq (.block 1 x55_6) (.reg false [⟨(some 30), (.bin .add (.t 11) (.c (.int .i64 1))), none, 0⟩, ⟨(some 11), (.mv (.t 30)), none, 0⟩]))))))
def x55_8 : XCode := x55_7
def x55_9 : XCode := (.seq (.seq (.reg false [⟨(some 9), (.mv (.t 0)), none, 0⟩, ⟨(some 10), (.len (.t 9)), none, 0⟩, ⟨(some 11), (.mv (.c (.int .i64 0))), none, 0⟩]) x55_8) (.seq (.reg false [⟨(some 4), (.mv (.c (.bool true))), none, 0⟩]) .ret))
def x55 : XFn := ⟨(.seq (.reg false [⟨(some 4), (.mv (.c (.bool false))), none, 0⟩]) x55_9), 31, [(.t 4)]⟩
theorem ok55 : FnOk Try.prog T 55 x55 := ⟨Try.f55, [.loop [0, 1, 9, 10, 11], .loop [0, 1, 6, 9, 10, 11, 18, 19, 20]], Try.func55, by decide +kernel, by kernel_rfl⟩
/-- impl.isLegal -/
def x58_1 : XCode := (.reg false [⟨(some 22), (.fa 1 (.t 8)), none, 0⟩, ⟨(some 23), (.ld none (.t 22)), none, 0⟩, ⟨(some 24), (.fa 3 (.t 8)), none, 0⟩, ⟨(some 25), (.ld none (.t 24)), none, 0⟩, ⟨(some 26), (.iaA 3 1 (.t 5) (.t 23)), none, 0⟩, ⟨none, (.st 1 (.t 26) (.t 25)), none, 0⟩])
def x58_2 : XCode := (.seq (.reg true [⟨(some 27), (.fa 1 (.t 8)), none, 4⟩, ⟨(some 28), (.ld none (.t 27)), none, 4⟩, ⟨(some 29), (.iaA 3 1 (.t 5) (.t 28)), none, 4⟩, ⟨(some 30), (.ld none (.t 29)), none, 4⟩, ⟨(some 31), (.fa 3 (.t 8)), none, 4⟩, ⟨(some 32), (.ld none (.t 31)), none, 4⟩, ⟨(some 33), (.bin .neq (.t 30) (.t 32)), none, 4⟩]) (.cond (.t 33) (.seq (.reg false [⟨(some 4), (.mv (.c (.bool false))), none, 0⟩]) .ret) .skip))
def x58_3 : XCode := (.cond (.t 21) x58_1 x58_2)
def x58_4 : XCode := (.seq (.reg false [⟨(some 20), (.fa 2 (.t 8)), none, 0⟩, ⟨(some 21), (.ld none (.t 20)), none, 0⟩]) x58_3)
def x58_5 : XCode := (.seq (.seq (.reg false [⟨(some 16), (.mv (.t 0)), none, 0⟩, ⟨(some 17), (.mv (.t 7)), none, 0⟩, ⟨(some 18), (.ia 6 (.t 16) (.t 17)), none, 0⟩, ⟨(some 19), (.ld (some 6) (.t 18)), none, 0⟩, ⟨(some 8), (.new 55 [(.int .i64 0), (.int .i64 0), (.bool false), (.int .i64 0), (.int .i64 0), (.int .i64 0)]), none, 0⟩, ⟨none, (.st 6 (.t 8) (.t 19)), none, 0⟩]) (.frz [8])) x58_4)
def x58_6 : XCode := (.seq (.reg false [⟨(some 14), (.ia 1 (.t 10) (.t 12)), none, 0⟩, ⟨(some 15), (.ld none (.t 14)), none, 0⟩, ⟨(some 7), (.mv (.t 15)), none, 0⟩]) x58_5)
def x58_7 : XCode := (.block 0 (.loop [0, 5, 10, 11, 12] (.seq (.reg false [⟨(some 13), (.bin .lss (.t 12) (.t 11)), none, 0⟩]) (.seq (.cond (.t 13) .skip (.exit 0)) (.seq (.block 1 x58_6) (.reg false [⟨(some 34), (.bin .add (.t 12) (.c (.int .i64 1))), none, 0⟩, ⟨(some 12), (.mv (.t 34)), none, 0⟩]))))))
def x58_8 : XCode := x58_7
def x58_9 : XCode := (.seq (.seq (.reg false [⟨(some 10), (.mv (.t 1)), none, 0⟩, ⟨(some 11), (.len (.t 10)), none, 0⟩, ⟨(some 12), (.mv (.c (.int .i64 0))), none, 0⟩]) x58_8) (.seq (.reg false [⟨(some 4), (.mv (.c (.bool true))), none, 0⟩]) .ret))
def x58_10 : XCode := (.seq (.reg false [⟨(some 9), (.build [(.int .i64 0), (.int .i64 0), (.int .i64 0)] []), none, 0⟩, ⟨(some 5), (.new 81 [(.int .i64 0), (.int .i64 0), (.int .i64 0)]), none, 0⟩, ⟨none, (.st 3 (.t 5) (.t 9)), none, 0⟩]) x58_9)
def x58 : XFn := ⟨(.seq (.reg false [⟨(some 4), (.mv (.c (.bool false))), none, 0⟩]) x58_10), 35, [(.t 4)]⟩
theorem ok58 : FnOk Try.prog T 58 x58 := ⟨Try.f58, [.loop [0, 5, 10, 11, 12], .frz [], .frz [], .frz [8], .draw [0, 1, 2, 3, 4, 5, 6] [4, 4, 4, 4, 4, 4, 4]], Try.func58, by decide +kernel, by kernel_rfl⟩
/-- slices.Index[[]int,int] -/
def x74_1 : XCode := (.cond (.t 16) (.seq (.reg false [⟨(some 17), (.mv (.t 5)), none, 0⟩, ⟨(some 4), (.mv (.t 17)), none, 0⟩]) .ret) .skip)
def x74_2 : XCode := (.seq (.reg false [⟨(some 11), (.mv (.t 1)), none, 0⟩, ⟨(some 12), (.mv (.t 0)), none, 0⟩, ⟨(some 13), (.mv (.t 5)), none, 0⟩, ⟨(some 14), (.ia 1 (.t 12) (.t 13)), none, 0⟩, ⟨(some 15), (.ld none (.t 14)), none, 0⟩, ⟨(some 16), (.bin .eql (.t 11) (.t 15)), none, 0⟩]) x74_1)
def x74_3 : XCode := (.seq (.reg false [⟨(some 10), (.mv (.t 8)), none, 0⟩, ⟨(some 5), (.mv (.t 10)), none, 0⟩]) x74_2)
def x74_4 : XCode := (.block 0 (.loop [0, 1, 7, 8] (.seq (.reg false [⟨(some 9), (.bin .lss (.t 8) (.t 7)), none, 0⟩]) (.seq (.cond (.t 9) .skip (.exit 0)) (.seq (.block 1 x74_3) (.reg false [⟨(some 18), (.bin .add (.t 8) (.c (.int .i64 1))), none, 0⟩, ⟨(some 8), (.mv (.t 18)), none, 0⟩]))))))
def x74_5 : XCode := x74_4
def x74_6 : XCode := (.seq (.seq (.reg false [⟨(some 6), (.mv (.t 0)), none, 0⟩, ⟨(some 7), (.len (.t 6)), none, 0⟩, ⟨(some 8), (.mv (.c (.int .i64 0))), none, 0⟩]) x74_5) (.seq (.reg false [⟨(some 4), (.mv (.c (.int .i64 (-1)))), none, 0⟩]) .ret))
def x74 : XFn := ⟨(.seq (.reg false [⟨(some 4), (.mv (.c (.int .i64 0))), none, 0⟩]) x74_6), 19, [(.t 4)]⟩
theorem ok74 : FnOk Try.prog T 74 x74 := ⟨Try.f74, [.loop [0, 1, 7, 8]], Try.func74, by decide +kernel, by kernel_rfl⟩
/-- slices.Contains[[]int,int] -/
def x68_1 : XCode := (.seq (.reg false [⟨(some 5), (.mv (.t 0)), none, 0⟩, ⟨(some 6), (.mv (.t 1)), none, 0⟩, ⟨(some 7), (.call (.c (.fn 74 [])) [(.t 5), (.t 6)]), none, 0⟩, ⟨(some 8), (.bin .geq (.t 7) (.c (.int .i64 0))), none, 0⟩, ⟨(some 4), (.mv (.t 8)), none, 0⟩]) .ret)
def x68 : XFn := ⟨(.seq (.reg false [⟨(some 4), (.mv (.c (.bool false))), none, 0⟩]) x68_1), 9, [(.t 4)]⟩
theorem ok68 : FnOk Try.prog T 68 x68 := ⟨Try.f68, [], Try.func68, by decide +kernel, by kernel_rfl⟩
/-- impl.orderFor$1 -/
def x67_1 : XCode := (.cond (.t 15) (.seq (.reg false [⟨(some 16), (.mv (.t 0)), none, 0⟩, ⟨(some 5), (.mv (.t 16)), none, 0⟩, ⟨(some 6), (.mv (.c (.bool true))), none, 0⟩]) .ret) .skip)
def x67_2 : XCode := (.cond (.t 49) (.seq (.reg false [⟨(some 50), (.mv (.t 9)), none, 0⟩, ⟨(some 5), (.mv (.t 50)), none, 0⟩, ⟨(some 6), (.mv (.c (.bool true))), none, 0⟩]) .ret) .skip)
def x67_3 : XCode := (.seq (.reg false [⟨(some 49), (.mv (.t 10)), none, 0⟩]) x67_2)
def x67_4 : XCode := (.seq (.reg false [⟨(some 44), (.ld none (.t 3)), none, 0⟩, ⟨(some 45), (.mv (.t 8)), none, 0⟩, ⟨(some 46), (.call (.t 44) [(.t 45)]), none, 0⟩, ⟨(some 43), (.mv (.t 46)), none, 0⟩, ⟨(some 47), (.ext (.t 43) 0), none, 0⟩, ⟨(some 48), (.ext (.t 43) 1), none, 0⟩, ⟨(some 9), (.mv (.t 47)), none, 0⟩, ⟨(some 10), (.mv (.t 48)), none, 0⟩]) x67_3)
def x67_5 : XCode := (.seq (.seq (.reg false [⟨(some 28), (.mv (.t 0)), none, 0⟩, ⟨(some 29), (.mv (.t 7)), none, 0⟩, ⟨(some 30), (.call (.c (.fn 68 [])) [(.t 28), (.t 29)]), none, 0⟩, ⟨(some 31), (.mv (.t 30)), none, 0⟩, ⟨(some 32), (.ld none (.t 1)), (some (31, false)), 0⟩, ⟨(some 33), (.mv (.t 8)), (some (31, false)), 0⟩, ⟨(some 34), (.call (.c (.fn 58 [])) [(.t 32), (.t 33)]), (some (31, false)), 0⟩, ⟨(some 35), (.un .not (.t 34)), (some (31, false)), 0⟩, ⟨(some 36), (.pick (.t 31) (.c (.bool true)) (.t 35)), none, 0⟩, ⟨(some 37), (.mv (.t 36)), none, 0⟩, ⟨(some 38), (.mv (.t 8)), (some (37, false)), 0⟩, ⟨(some 39), (.ld none (.t 2)), (some (37, false)), 0⟩, ⟨(some 40), (.call (.c (.fn 55 [])) [(.t 38), (.t 39)]), (some (37, false)), 0⟩, ⟨(some 41), (.un .not (.t 40)), (some (37, false)), 0⟩, ⟨(some 42), (.pick (.t 37) (.c (.bool true)) (.t 41)), none, 0⟩]) (.cond (.t 42) (.exit 1) .skip)) x67_4)
def x67_6 : XCode := (.seq (.reg false [⟨(some 22), (.buildS 3 0 [] []), none, 0⟩, ⟨(some 23), (.mv (.t 0)), none, 0⟩, ⟨(some 24), (.app 3 1 8 (.t 22) (.t 23)), none, 0⟩, ⟨(some 25), (.mv (.t 7)), none, 0⟩, ⟨(some 26), (.buildS 3 1 [(.int .i64 0)] [(0, (1, (.t 25)))]), none, 0⟩, ⟨(some 27), (.app 3 1 8 (.t 24) (.t 26)), none, 0⟩, ⟨(some 8), (.mv (.t 27)), none, 0⟩]) x67_5)
def x67_7 : XCode := (.seq (.reg false [⟨(some 21), (.mv (.t 19)), none, 0⟩, ⟨(some 7), (.mv (.t 21)), none, 0⟩]) x67_6)
def x67_8 : XCode := (.block 0 (.loop [0, 1, 2, 3, 18, 19] (.seq (.reg false [⟨(some 20), (.bin .lss (.t 19) (.t 18)), none, 0⟩]) (.seq (.cond (.t 20) .skip (.exit 0)) (.seq (.block 1 x67_7) (.reg false [⟨(some 51), (.bin .add (.t 19) (.c (.int .i64 1))), none, 0⟩, ⟨(some 19), (.mv (.t 51)), none, 0⟩]))))))
def x67_9 : XCode := x67_8
def x67_10 : XCode := (.seq (.seq (.reg false [⟨(some 17), (.ld none (.t 1)), none, 0⟩, ⟨(some 18), (.len (.t 17)), none, 0⟩, ⟨(some 19), (.mv (.c (.int .i64 0))), none, 0⟩]) x67_9) (.seq (.reg false [⟨(some 5), (.mv (.c .nil)), none, 0⟩, ⟨(some 6), (.mv (.c (.bool false))), none, 0⟩]) .ret))
def x67_11 : XCode := (.seq (.seq (.reg false [⟨(some 11), (.mv (.t 0)), none, 0⟩, ⟨(some 12), (.len (.t 11)), none, 0⟩, ⟨(some 13), (.ld none (.t 1)), none, 0⟩, ⟨(some 14), (.len (.t 13)), none, 0⟩, ⟨(some 15), (.bin .eql (.t 12) (.t 14)), none, 0⟩]) x67_1) x67_10)
def x67 : XFn := ⟨(.seq (.reg false [⟨(some 5), (.mv (.c .nil)), none, 0⟩, ⟨(some 6), (.mv (.c (.bool false))), none, 0⟩]) x67_11), 52, [(.t 5), (.t 6)]⟩
theorem ok67 : FnOk Try.prog T 67 x67 := ⟨Try.f67, [.loop [0, 1, 2, 3, 18, 19]], Try.func67, by decide +kernel, by kernel_rfl⟩
/-- impl.orderFor -/
def x49_1 : XCode := (.seq (.reg false [⟨(some 8), (.ld none (.t 6)), none, 0⟩, ⟨(some 9), (.buildS 3 0 [] []), none, 0⟩, ⟨(some 10), (.call (.t 8) [(.t 9)]), none, 0⟩, ⟨(some 11), (.ext (.t 10) 0), none, 0⟩, ⟨(some 12), (.ext (.t 10) 1), none, 0⟩, ⟨(some 4), (.mv (.t 11)), none, 0⟩, ⟨(some 5), (.mv (.t 12)), none, 0⟩]) .ret)
def x49_2 : XCode := (.seq (.reg false [⟨(some 7), (.mkF 67 [(.t 2), (.t 3), (.t 6)]), none, 0⟩, ⟨none, (.st 1 (.t 6) (.t 7)), none, 0⟩]) x49_1)
def x49_3 : XCode := (.seq (.reg false [⟨(some 6), (.new 79 [.nilfn]), none, 0⟩]) x49_2)
def x49 : XFn := ⟨(.seq (.seq (.reg false [⟨(some 2), (.box 24 1 (.t 0)), none, 0⟩, ⟨(some 3), (.box 63 1 (.t 1)), none, 0⟩, ⟨(some 4), (.mv (.c .nil)), none, 0⟩, ⟨(some 5), (.mv (.c (.bool false))), none, 0⟩]) (.frz [2, 3])) x49_3), 13, [(.t 4), (.t 5)]⟩
theorem ok49 : FnOk Try.prog T 49 x49 := ⟨Try.f49, [.frz [2, 3]], Try.func49, by decide +kernel, by kernel_rfl⟩
/-- impl.byTime$1 -/
def x69_1 : XCode := (.seq (.reg true [⟨(some 6), (.ld none (.t 2)), none, 4⟩, ⟨(some 7), (.mv (.t 1)), none, 4⟩, ⟨(some 8), (.ia 6 (.t 6) (.t 7)), none, 4⟩, ⟨(some 9), (.fa 5 (.t 8)), none, 4⟩, ⟨(some 10), (.ld none (.t 9)), none, 4⟩, ⟨(some 11), (.ld none (.t 2)), none, 4⟩, ⟨(some 12), (.mv (.t 0)), none, 4⟩, ⟨(some 13), (.ia 6 (.t 11) (.t 12)), none, 4⟩, ⟨(some 14), (.fa 4 (.t 13)), none, 4⟩, ⟨(some 15), (.ld none (.t 14)), none, 4⟩, ⟨(some 16), (.bin .gtr (.t 10) (.t 15)), none, 4⟩, ⟨(some 5), (.mv (.t 16)), none, 4⟩]) .ret)
def x69 : XFn := ⟨(.seq (.reg false [⟨(some 5), (.mv (.c (.bool false))), none, 0⟩]) x69_1), 17, [(.t 5)]⟩
theorem ok69 : FnOk Try.prog T 69 x69 := ⟨Try.f69, [.draw [0, 1, 2, 3, 4, 5, 6, 7, 8, 9, 10, 11] [4, 4, 4, 4, 4, 4, 4, 4, 4, 4, 4, 4]], Try.func69, by decide +kernel, by kernel_rfl⟩
/-- impl.byTime -/

def x51 : XFn := ⟨(.seq (.seq (.reg false [⟨(some 1), (.box 24 1 (.t 0)), none, 0⟩, ⟨(some 2), (.mv (.c .nilfn)), none, 0⟩]) (.frz [1])) (.seq (.reg false [⟨(some 3), (.mkF 69 [(.t 1)]), none, 0⟩, ⟨(some 2), (.mv (.t 3)), none, 0⟩]) .ret)), 4, [(.t 2)]⟩
theorem ok51 : FnOk Try.prog T 51 x51 := ⟨Try.f51, [.frz [1]], Try.func51, by decide +kernel, by kernel_rfl⟩
/-- impl.OrderFor -/
def x23_1 : XCode := (.cond (.t 6) (.seq (.reg false [⟨(some 2), (.mv (.c .nil)), none, 0⟩, ⟨(some 3), (.mv (.c (.bool false))), none, 0⟩]) .ret) .skip)
def x23_2 : XCode := (.seq (.reg false [⟨(some 7), (.mv (.t 0)), none, 0⟩, ⟨(some 8), (.mv (.t 0)), none, 0⟩, ⟨(some 9), (.call (.c (.fn 51 [])) [(.t 8)]), none, 0⟩, ⟨(some 10), (.call (.c (.fn 49 [])) [(.t 7), (.t 9)]), none, 0⟩, ⟨(some 11), (.ext (.t 10) 0), none, 0⟩, ⟨(some 12), (.ext (.t 10) 1), none, 0⟩, ⟨(some 2), (.mv (.t 11)), none, 0⟩, ⟨(some 3), (.mv (.t 12)), none, 0⟩]) .ret)
def x23_3 : XCode := (.seq (.seq (.reg false [⟨(some 4), (.mv (.t 0)), none, 0⟩, ⟨(some 5), (.call (.c (.fn 43 [])) [(.t 4)]), none, 0⟩, ⟨(some 6), (.un .not (.t 5)), none, 0⟩]) x23_1) x23_2)
def x23 : XFn := ⟨(.seq (.reg false [⟨(some 2), (.mv (.c .nil)), none, 0⟩, ⟨(some 3), (.mv (.c (.bool false))), none, 0⟩]) x23_3), 13, [(.t 2), (.t 3)]⟩
theorem ok23 : FnOk Try.prog T 23 x23 := ⟨Try.f23, [], Try.func23, by decide +kernel, by kernel_rfl⟩
/-- laws.eqIntS -/
def x24_1 : XCode := (.seq (.reg true [⟨(some 17), (.mv (.t 0)), none, 4⟩, ⟨(some 18), (.mv (.t 5)), none, 4⟩, ⟨(some 19), (.ia 1 (.t 17) (.t 18)), none, 4⟩, ⟨(some 20), (.ld none (.t 19)), none, 4⟩, ⟨(some 21), (.mv (.t 1)), none, 4⟩, ⟨(some 22), (.mv (.t 5)), none, 4⟩, ⟨(some 23), (.ia 1 (.t 21) (.t 22)), none, 4⟩, ⟨(some 24), (.ld none (.t 23)), none, 4⟩, ⟨(some 25), (.bin .neq (.t 20) (.t 24)), none, 4⟩]) (.cond (.t 25) (.seq (.reg false [⟨(some 4), (.mv (.c (.bool false))), none, 0⟩]) .ret) .skip))
def x24_2 : XCode := (.seq (.block 1 x24_1) (.reg false [⟨(some 15), (.mv (.t 5)), none, 0⟩, ⟨(some 16), (.bin .add (.t 15) (.c (.int .i64 1))), none, 0⟩, ⟨(some 5), (.mv (.t 16)), none, 0⟩]))
def x24_3 : XCode := (.seq (.seq (.reg false [⟨(some 11), (.mv (.t 5)), none, 0⟩, ⟨(some 12), (.mv (.t 0)), none, 0⟩, ⟨(some 13), (.len (.t 12)), none, 0⟩, ⟨(some 14), (.bin .lss (.t 11) (.t 13)), none, 0⟩]) (.cond (.t 14) .skip (.exit 0))) x24_2)
def x24_4 : XCode := (.block 0 (.loop [0, 1, 5] x24_3))
def x24_5 : XCode := x24_4
def x24_6 : XCode := (.seq (.seq (.reg false [⟨(some 5), (.mv (.c (.int .i64 0))), none, 0⟩]) x24_5) (.seq (.reg false [⟨(some 4), (.mv (.c (.bool true))), none, 0⟩]) .ret))
def x24_7 : XCode := (.seq (.seq (.reg false [⟨(some 6), (.mv (.t 0)), none, 0⟩, ⟨(some 7), (.len (.t 6)), none, 0⟩, ⟨(some 8), (.mv (.t 1)), none, 0⟩, ⟨(some 9), (.len (.t 8)), none, 0⟩, ⟨(some 10), (.bin .neq (.t 7) (.t 9)), none, 0⟩]) (.cond (.t 10) (.seq (.reg false [⟨(some 4), (.mv (.c (.bool false))), none, 0⟩]) .ret) .skip)) x24_6)
def x24 : XFn := ⟨(.seq (.reg false [⟨(some 4), (.mv (.c (.bool false))), none, 0⟩]) x24_7), 26, [(.t 4)]⟩
theorem ok24 : FnOk Try.prog T 24 x24 := ⟨Try.f24, [.loop [0, 1, 5], .draw [0, 1, 2, 3, 4, 5, 6, 7, 8] [4, 4, 4, 4, 4, 4, 4, 4, 4]], Try.func24, by decide +kernel, by kernel_rfl⟩
/-- laws.markIntS -/
def x25_1 : XCode := (.seq (.reg false [⟨(some 12), (.mv (.t 0)), none, 0⟩, ⟨(some 13), (.mv (.t 5)), none, 0⟩, ⟨(some 14), (.mv (.t 1)), none, 0⟩, ⟨(some 15), (.ia 1 (.t 12) (.t 13)), none, 0⟩, ⟨none, (.st 1 (.t 15) (.t 14)), none, 0⟩]) (.reg false [⟨(some 16), (.mv (.t 1)), none, 0⟩, ⟨(some 17), (.bin .add (.t 16) (.c (.int .i64 1))), none, 0⟩, ⟨(some 1), (.mv (.t 17)), none, 0⟩]))
def x25_2 : XCode := (.seq (.block 1 x25_1) (.reg false [⟨(some 10), (.mv (.t 5)), none, 0⟩, ⟨(some 11), (.bin .add (.t 10) (.c (.int .i64 1))), none, 0⟩, ⟨(some 5), (.mv (.t 11)), none, 0⟩]))
def x25_3 : XCode := (.seq (.seq (.reg false [⟨(some 6), (.mv (.t 5)), none, 0⟩, ⟨(some 7), (.mv (.t 0)), none, 0⟩, ⟨(some 8), (.len (.t 7)), none, 0⟩, ⟨(some 9), (.bin .lss (.t 6) (.t 8)), none, 0⟩]) (.cond (.t 9) .skip (.exit 0))) x25_2)
def x25_4 : XCode := (.block 0 (.loop [0, 1, 5] x25_3))
def x25_5 : XCode := x25_4
def x25_6 : XCode := (.seq (.seq (.reg false [⟨(some 5), (.mv (.c (.int .i64 0))), none, 0⟩]) x25_5) (.seq (.reg false [⟨(some 18), (.mv (.t 1)), none, 0⟩, ⟨(some 4), (.mv (.t 18)), none, 0⟩]) .ret))
def x25 : XFn := ⟨(.seq (.reg false [⟨(some 4), (.mv (.c (.int .i64 0))), none, 0⟩]) x25_6), 19, [(.t 4)]⟩
theorem ok25 : FnOk Try.prog T 25 x25 := ⟨Try.f25, [.loop [0, 1, 5]], Try.func25, by decide +kernel, by kernel_rfl⟩
/-- laws.heldIntS -/
def x26_1 : XCode := (.seq (.seq (.reg false [⟨(some 12), (.mv (.t 0)), none, 0⟩, ⟨(some 13), (.mv (.t 5)), none, 0⟩, ⟨(some 14), (.ia 1 (.t 12) (.t 13)), none, 0⟩, ⟨(some 15), (.ld none (.t 14)), none, 0⟩, ⟨(some 16), (.mv (.t 1)), none, 0⟩, ⟨(some 17), (.bin .neq (.t 15) (.t 16)), none, 0⟩]) (.cond (.t 17) (.seq (.reg false [⟨(some 4), (.mv (.c (.int .i64 (-1)))), none, 0⟩]) .ret) .skip)) (.reg false [⟨(some 18), (.mv (.t 1)), none, 0⟩, ⟨(some 19), (.bin .add (.t 18) (.c (.int .i64 1))), none, 0⟩, ⟨(some 1), (.mv (.t 19)), none, 0⟩]))
def x26_2 : XCode := (.seq (.block 1 x26_1) (.reg false [⟨(some 10), (.mv (.t 5)), none, 0⟩, ⟨(some 11), (.bin .add (.t 10) (.c (.int .i64 1))), none, 0⟩, ⟨(some 5), (.mv (.t 11)), none, 0⟩]))
def x26_3 : XCode := (.seq (.seq (.reg false [⟨(some 6), (.mv (.t 5)), none, 0⟩, ⟨(some 7), (.mv (.t 0)), none, 0⟩, ⟨(some 8), (.len (.t 7)), none, 0⟩, ⟨(some 9), (.bin .lss (.t 6) (.t 8)), none, 0⟩]) (.cond (.t 9) .skip (.exit 0))) x26_2)
def x26_4 : XCode := (.block 0 (.loop [0, 1, 5] x26_3))
def x26_5 : XCode := x26_4
def x26_6 : XCode := (.seq (.seq (.reg false [⟨(some 5), (.mv (.c (.int .i64 0))), none, 0⟩]) x26_5) (.seq (.reg false [⟨(some 20), (.mv (.t 1)), none, 0⟩, ⟨(some 4), (.mv (.t 20)), none, 0⟩]) .ret))
def x26 : XFn := ⟨(.seq (.reg false [⟨(some 4), (.mv (.c (.int .i64 0))), none, 0⟩]) x26_6), 21, [(.t 4)]⟩
theorem ok26 : FnOk Try.prog T 26 x26 := ⟨Try.f26, [.loop [0, 1, 5]], Try.func26, by decide +kernel, by kernel_rfl⟩
/-- laws.FnExactOrderFor -/
def x6_1 : XCode := (.seq (.seq (.reg false [⟨(some 93), (.mv (.t 11)), none, 0⟩, ⟨(some 94), (.mv (.t 10)), none, 0⟩, ⟨(some 95), (.bin .neq (.t 93) (.t 94)), none, 0⟩]) (.cond (.t 95) (.seq (.reg false [⟨(some 2), (.mv (.c (.bool false))), none, 0⟩]) .ret) .skip)) (.seq (.reg false [⟨(some 2), (.mv (.c (.bool true))), none, 0⟩]) .ret))
def x6_2 : XCode := (.seq (.seq (.reg false [⟨(some 91), (.mv (.t 11)), none, 0⟩, ⟨(some 92), (.bin .lss (.t 91) (.c (.int .i64 0))), none, 0⟩]) (.cond (.t 92) (.seq (.reg false [⟨(some 2), (.mv (.c (.bool false))), none, 0⟩]) .ret) .skip)) x6_1)
def x6_3 : XCode := (.seq (.reg false [⟨(some 88), (.mv (.t 7)), none, 0⟩, ⟨(some 89), (.mv (.t 11)), none, 0⟩, ⟨(some 90), (.call (.c (.fn 26 [])) [(.t 88), (.t 89)]), none, 0⟩, ⟨(some 11), (.mv (.t 90)), none, 0⟩]) x6_2)
def x6_4 : XCode := (.seq (.reg false [⟨(some 11), (.mv (.c (.int .i64 1))), none, 0⟩]) x6_3)
def x6_5 : XCode := (.seq (.seq (.reg false [⟨(some 79), (.mv (.t 12)), none, 0⟩, ⟨(some 80), (.mv (.t 4)), none, 0⟩, ⟨(some 81), (.call (.c (.fn 24 [])) [(.t 79), (.t 80)]), none, 0⟩, ⟨(some 82), (.un .not (.t 81)), none, 0⟩, ⟨(some 83), (.mv (.t 82)), none, 0⟩, ⟨(some 84), (.mv (.t 13)), (some (83, false)), 0⟩, ⟨(some 85), (.mv (.t 5)), (some (83, false)), 0⟩, ⟨(some 86), (.eqb true (.t 84) (.t 85)), (some (83, false)), 0⟩, ⟨(some 87), (.pick (.t 83) (.c (.bool true)) (.t 86)), none, 0⟩]) (.cond (.t 87) (.seq (.reg false [⟨(some 2), (.mv (.c (.bool false))), none, 0⟩]) .ret) .skip)) x6_4)
def x6_6 : XCode := (.seq (.reg false [⟨(some 74), (.mv (.t 0)), none, 0⟩, ⟨(some 75), (.call (.c (.fn 13 [])) [(.t 74)]), none, 0⟩, ⟨(some 76), (.call (.c (.fn 23 [])) [(.t 75)]), none, 0⟩, ⟨(some 73), (.mv (.t 76)), none, 0⟩, ⟨(some 77), (.ext (.t 73) 0), none, 0⟩, ⟨(some 78), (.ext (.t 73) 1), none, 0⟩, ⟨(some 12), (.mv (.t 77)), none, 0⟩, ⟨(some 13), (.mv (.t 78)), none, 0⟩]) x6_5)
def x6_7 : XCode := (.seq (.seq (.reg false [⟨(some 70), (.mv (.t 11)), none, 0⟩, ⟨(some 71), (.mv (.t 10)), none, 0⟩, ⟨(some 72), (.bin .neq (.t 70) (.t 71)), none, 0⟩]) (.cond (.t 72) (.seq (.reg false [⟨(some 2), (.mv (.c (.bool false))), none, 0⟩]) .ret) .skip)) x6_6)
def x6_8 : XCode := (.seq (.seq (.reg false [⟨(some 68), (.mv (.t 11)), none, 0⟩, ⟨(some 69), (.bin .lss (.t 68) (.c (.int .i64 0))), none, 0⟩]) (.cond (.t 69) (.seq (.reg false [⟨(some 2), (.mv (.c (.bool false))), none, 0⟩]) .ret) .skip)) x6_7)
def x6_9 : XCode := (.seq (.reg false [⟨(some 65), (.mv (.t 7)), none, 0⟩, ⟨(some 66), (.mv (.t 11)), none, 0⟩, ⟨(some 67), (.call (.c (.fn 26 [])) [(.t 65), (.t 66)]), none, 0⟩, ⟨(some 11), (.mv (.t 67)), none, 0⟩]) x6_8)
def x6_10 : XCode := (.seq (.reg false [⟨(some 11), (.mv (.c (.int .i64 1))), none, 0⟩]) x6_9)
def x6_11 : XCode := (.seq (.reg false [⟨(some 62), (.mv (.t 7)), none, 0⟩, ⟨(some 63), (.mv (.t 10)), none, 0⟩, ⟨(some 64), (.call (.c (.fn 25 [])) [(.t 62), (.t 63)]), none, 0⟩, ⟨(some 10), (.mv (.t 64)), none, 0⟩]) x6_10)
def x6_12 : XCode := (.seq (.reg false [⟨(some 10), (.mv (.c (.int .i64 1))), none, 0⟩]) x6_11)
def x6_13 : XCode := (.seq (.seq (.reg false [⟨(some 49), (.mv (.t 9)), none, 0⟩, ⟨(some 50), (.bin .lss (.t 49) (.c (.int .i64 0))), none, 0⟩, ⟨(some 51), (.mv (.t 50)), none, 0⟩, ⟨(some 52), (.mv (.t 7)), (some (51, false)), 0⟩, ⟨(some 53), (.mv (.t 4)), (some (51, false)), 0⟩, ⟨(some 54), (.call (.c (.fn 24 [])) [(.t 52), (.t 53)]), (some (51, false)), 0⟩, ⟨(some 55), (.un .not (.t 54)), (some (51, false)), 0⟩, ⟨(some 56), (.pick (.t 51) (.c (.bool true)) (.t 55)), none, 0⟩, ⟨(some 57), (.mv (.t 56)), none, 0⟩, ⟨(some 58), (.mv (.t 8)), (some (57, false)), 0⟩, ⟨(some 59), (.mv (.t 5)), (some (57, false)), 0⟩, ⟨(some 60), (.eqb true (.t 58) (.t 59)), (some (57, false)), 0⟩, ⟨(some 61), (.pick (.t 57) (.c (.bool true)) (.t 60)), none, 0⟩]) (.cond (.t 61) (.seq (.reg false [⟨(some 2), (.mv (.c (.bool false))), none, 0⟩]) .ret) .skip)) x6_12)
def x6_14 : XCode := (.seq (.reg false [⟨(some 46), (.mv (.t 6)), none, 0⟩, ⟨(some 47), (.mv (.t 9)), none, 0⟩, ⟨(some 48), (.call (.c (.fn 16 [])) [(.t 46), (.t 47)]), none, 0⟩, ⟨(some 9), (.mv (.t 48)), none, 0⟩]) x6_13)
def x6_15 : XCode := (.seq (.reg false [⟨(some 9), (.mv (.c (.int .i64 1))), none, 0⟩]) x6_14)
def x6_16 : XCode := (.seq (.seq (.reg false [⟨(some 41), (.mv (.t 6)), none, 0⟩, ⟨(some 42), (.mv (.t 0)), none, 0⟩, ⟨(some 43), (.call (.c (.fn 13 [])) [(.t 42)]), none, 0⟩, ⟨(some 44), (.call (.c (.fn 15 [])) [(.t 41), (.t 43)]), none, 0⟩, ⟨(some 45), (.un .not (.t 44)), none, 0⟩]) (.cond (.t 45) (.seq (.reg false [⟨(some 2), (.mv (.c (.bool false))), none, 0⟩]) .ret) .skip)) x6_15)
def x6_17 : XCode := (.seq (.seq (.reg false [⟨(some 32), (.mv (.t 7)), none, 0⟩, ⟨(some 33), (.mv (.t 4)), none, 0⟩, ⟨(some 34), (.call (.c (.fn 24 [])) [(.t 32), (.t 33)]), none, 0⟩, ⟨(some 35), (.un .not (.t 34)), none, 0⟩, ⟨(some 36), (.mv (.t 35)), none, 0⟩, ⟨(some 37), (.mv (.t 8)), (some (36, false)), 0⟩, ⟨(some 38), (.mv (.t 5)), (some (36, false)), 0⟩, ⟨(some 39), (.eqb true (.t 37) (.t 38)), (some (36, false)), 0⟩, ⟨(some 40), (.pick (.t 36) (.c (.bool true)) (.t 39)), none, 0⟩]) (.cond (.t 40) (.seq (.reg false [⟨(some 2), (.mv (.c (.bool false))), none, 0⟩]) .ret) .skip)) x6_16)
def x6_18 : XCode := (.seq (.reg false [⟨(some 28), (.mv (.t 6)), none, 0⟩, ⟨(some 29), (.call (.c (.fn 23 [])) [(.t 28)]), none, 0⟩, ⟨(some 27), (.mv (.t 29)), none, 0⟩, ⟨(some 30), (.ext (.t 27) 0), none, 0⟩, ⟨(some 31), (.ext (.t 27) 1), none, 0⟩, ⟨(some 7), (.mv (.t 30)), none, 0⟩, ⟨(some 8), (.mv (.t 31)), none, 0⟩]) x6_17)
def x6_19 : XCode := (.seq (.reg false [⟨(some 25), (.mv (.t 0)), none, 0⟩, ⟨(some 26), (.call (.c (.fn 13 [])) [(.t 25)]), none, 0⟩, ⟨(some 6), (.mv (.t 26)), none, 0⟩]) x6_18)
def x6_20 : XCode := (.seq (.reg false [⟨(some 20), (.mv (.t 0)), none, 0⟩, ⟨(some 21), (.call (.c (.fn 13 [])) [(.t 20)]), none, 0⟩, ⟨(some 22), (.call (.c (.fn 22 [])) [(.t 21)]), none, 0⟩, ⟨(some 19), (.mv (.t 22)), none, 0⟩, ⟨(some 23), (.ext (.t 19) 0), none, 0⟩, ⟨(some 24), (.ext (.t 19) 1), none, 0⟩, ⟨(some 4), (.mv (.t 23)), none, 0⟩, ⟨(some 5), (.mv (.t 24)), none, 0⟩]) x6_19)
def x6_21 : XCode := (.seq (.seq (.reg false [⟨(some 17), (.mv (.t 3)), none, 0⟩, ⟨(some 18), (.bin .lss (.t 17) (.c (.int .i64 0))), none, 0⟩]) (.cond (.t 18) (.seq (.reg false [⟨(some 2), (.mv (.c (.bool true))), none, 0⟩]) .ret) .skip)) x6_20)
def x6_22 : XCode := (.seq (.reg false [⟨(some 14), (.mv (.t 0)), none, 0⟩, ⟨(some 15), (.mv (.t 3)), none, 0⟩, ⟨(some 16), (.call (.c (.fn 11 [])) [(.t 14), (.t 15)]), none, 0⟩, ⟨(some 3), (.mv (.t 16)), none, 0⟩]) x6_21)
def x6_23 : XCode := (.seq (.reg false [⟨(some 3), (.mv (.c (.int .i64 1048576))), none, 0⟩]) x6_22)
def x6 : XFn := ⟨(.seq (.reg false [⟨(some 2), (.mv (.c (.bool false))), none, 0⟩]) x6_23), 96, [(.t 2)]⟩
theorem ok6 : FnOk Try.prog T 6 x6 := ⟨Try.f6, [], Try.func6, by decide +kernel, by kernel_rfl⟩
def fl : List (Nat × XFn) := [(11, x11), (42, x42), (13, x13), (47, x47), (15, x15), (16, x16), (41, x41), (64, x64), (40, x40), (53, x53), (57, x57), (66, x66), (48, x48), (22, x22), (44, x44), (43, x43), (55, x55), (58, x58), (74, x74), (68, x68), (67, x67), (49, x49), (69, x69), (51, x51), (23, x23), (24, x24), (25, x25), (26, x26), (6, x6)]
theorem fl_ok : ∀ p ∈ fl, FnOk Try.prog T p.1 p.2 := by
  simp only [fl, List.forall_mem_cons]
  exact ⟨ok11, ok42, ok13, ok47, ok15, ok16, ok41, ok64, ok40, ok53, ok57, ok66, ok48, ok22, ok44, ok43, ok55, ok58, ok74, ok68, ok67, ok49, ok69, ok51, ok23, ok24, ok25, ok26, ok6, fun _ h => by cases h⟩
def roL : List Nat := [6, 11, 15, 22, 24, 26, 40, 41, 42, 43, 44, 47, 53, 55, 57, 58, 64, 66, 68, 69, 74]
def mkL : List Nat := [13, 23, 49]
def coL : List Nat := [51]
def modeF (n : Nat) : Nat := if roL.contains n then 1 else if mkL.contains n then 2 else if coL.contains n then 3 else 0
def E : Env := ⟨fnsL fl, modeF, szL tl⟩
end Go.Proofs.Ytddkoiapboeemaa.X
