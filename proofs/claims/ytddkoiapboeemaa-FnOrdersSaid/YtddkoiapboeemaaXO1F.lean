/- The seat's types and functions as X has them; the kernel checks each against the program. -/
import Derived.Test.YtddkoiapboeemaaZSrt
import Derived.Test.YtddkoiapboeemaaZIns
set_option linter.unusedVariables false
set_option linter.unusedSimpArgs false
set_option maxRecDepth 100000
namespace Go.Proofs.Ytddkoiapboeemaa.X
open Go
open Nat (reduceEqDiff)
def tl:List (Nat × TI):=[(1,⟨.other,1,8,[.nilfn]⟩),
 (2,⟨(.int .i64),1,8,[(.int .i64 0)]⟩),
 (3,⟨(.int .i64),1,8,[(.int .i64 0)]⟩),
 (4,⟨.bool,1,1,[(.bool false)]⟩),
 (5,⟨(.int .u8),1,1,[(.int .u8 0)]⟩),
 (6,⟨(.int .u8),1,1,[(.int .u8 0)]⟩),
 (7,⟨(.struct [(0,2),(1,3),(2,4),(3,6)]),4,24,[(.int .i64 0),(.int .i64 0),(.bool false),(.int .u8 0)]⟩),
 (8,⟨(.struct [(0,2),(1,3),(2,4),(3,6)]),4,24,[(.int .i64 0),(.int .i64 0),(.bool false),(.int .u8 0)]⟩),
 (9,⟨.str,1,16,[(.str (ByteArray.mk #[]))]⟩),
 (10,⟨.str,1,16,[(.str (ByteArray.mk #[]))]⟩),
 (11,⟨.str,1,16,[(.str (ByteArray.mk #[]))]⟩),
 (12,⟨(.int .u64),1,8,[(.int .u64 0)]⟩),
 (15,⟨.ptr,1,8,[.nilptr]⟩),
 (16,⟨.ptr,1,8,[.nilptr]⟩),
 (17,⟨.ptr,1,8,[.nilptr]⟩),
 (21,⟨(.int .i32),1,4,[(.int .i32 0)]⟩),
 (22,⟨(.slice 57),1,24,[.nil]⟩),
 (23,⟨.other,1,8,[.nilfn]⟩),
 (24,⟨(.slice 55),1,24,[.nil]⟩),
 (26,⟨.other,1,8,[.nilfn]⟩),
 (27,⟨.other,1,8,[.nilfn]⟩),
 (28,⟨.other,1,8,[.nilfn]⟩),
 (29,⟨.other,1,8,[.nilfn]⟩),
 (30,⟨.other,1,8,[.nilfn]⟩),
 (32,⟨.other,1,8,[.nilfn]⟩),
 (33,⟨.other,1,8,[.nilfn]⟩),
 (34,⟨(.slice 3),1,24,[.nil]⟩),
 (36,⟨.other,1,8,[.nilfn]⟩),
 (37,⟨.other,1,8,[.nilfn]⟩),
 (38,⟨.other,1,8,[.nilfn]⟩),
 (39,⟨.other,1,8,[.nilfn]⟩),
 (40,⟨.other,1,8,[.nilfn]⟩),
 (41,⟨.other,1,8,[.nilfn]⟩),
 (42,⟨(.slice 5),1,24,[.nil]⟩),
 (43,⟨.other,1,8,[.nilfn]⟩),
 (45,⟨.other,1,8,[.nilfn]⟩),
 (46,⟨.other,1,8,[.nilfn]⟩),
 (47,⟨.other,1,8,[.nilfn]⟩),
 (49,⟨.other,1,8,[.nilfn]⟩),
 (51,⟨.other,1,8,[.nilfn]⟩),
 (52,⟨.other,1,8,[.nilfn]⟩),
 (53,⟨.other,1,8,[.nilfn]⟩),
 (54,⟨(.struct [(0,3),(1,3),(2,4),(3,3),(4,3),(5,3)]),6,48,[(.int .i64 0),(.int .i64 0),(.bool false),(.int .i64 0),(.int .i64 0),(.int .i64 0)]⟩),
 (55,⟨(.struct [(0,3),(1,3),(2,4),(3,3),(4,3),(5,3)]),6,48,[(.int .i64 0),(.int .i64 0),(.bool false),(.int .i64 0),(.int .i64 0),(.int .i64 0)]⟩),
 (56,⟨.other,1,8,[.nilfn]⟩),
 (57,⟨(.struct [(0,3),(1,3),(2,4),(3,3),(4,3),(5,3)]),6,48,[(.int .i64 0),(.int .i64 0),(.bool false),(.int .i64 0),(.int .i64 0),(.int .i64 0)]⟩),
 (58,⟨.other,1,8,[.nilfn]⟩),
 (59,⟨.other,1,8,[.nilfn]⟩),
 (60,⟨.other,1,8,[.nilfn]⟩),
 (61,⟨.other,1,8,[.nilfn]⟩),
 (62,⟨.other,1,8,[.nilfn]⟩),
 (63,⟨.other,1,8,[.nilfn]⟩),
 (64,⟨.other,1,8,[.nilfn]⟩),
 (65,⟨.other,1,8,[.nilfn]⟩),
 (66,⟨.other,1,8,[.nilfn]⟩),
 (67,⟨.other,1,8,[.nilfn]⟩),
 (68,⟨.other,1,8,[.nilfn]⟩),
 (69,⟨.ptr,1,8,[.nilptr]⟩),
 (70,⟨(.int .u64),1,8,[(.int .u64 0)]⟩),
 (71,⟨(.struct [(0,42),(1,3),(2,70)]),3,40,[.nil,(.int .i64 0),(.int .u64 0)]⟩),
 (72,⟨(.struct [(0,42),(1,3),(2,70)]),3,40,[.nil,(.int .i64 0),(.int .u64 0)]⟩),
 (73,⟨.other,1,8,[.nilfn]⟩),
 (74,⟨.other,1,8,[.nilfn]⟩),
 (75,⟨.other,1,8,[.nilfn]⟩),
 (76,⟨.other,1,8,[.nilfn]⟩),
 (77,⟨.other,1,8,[.nilfn]⟩),
 (78,⟨.other,1,8,[.nilfn]⟩),
 (79,⟨.other,1,8,[.nilfn]⟩),
 (80,⟨.other,1,8,[.nilfn]⟩),
 (81,⟨(.array 3 3),3,24,[(.int .i64 0),(.int .i64 0),(.int .i64 0)]⟩),
 (82,⟨.other,1,8,[.nilfn]⟩),
 (83,⟨.other,1,8,[.nilfn]⟩),
 (84,⟨.other,1,8,[.nilfn]⟩),
 (85,⟨.other,1,8,[.nilfn]⟩),
 (86,⟨(.int .u64),1,8,[(.int .u64 0)]⟩),
 (87,⟨.other,1,8,[.nilfn]⟩),
 (88,⟨(.int .i64),1,8,[(.int .i64 0)]⟩),
 (90,⟨.other,1,8,[.nilfn]⟩),
 (91,⟨.other,1,8,[.nilfn]⟩),
 (92,⟨.other,1,8,[.nilfn]⟩),
 (93,⟨.other,1,8,[.nilfn]⟩),
 (94,⟨.other,1,8,[.nilfn]⟩),
 (95,⟨(.int .u32),1,4,[(.int .u32 0)]⟩),
 (96,⟨.other,1,8,[.nilfn]⟩),
 (97,⟨(.int .u64),1,8,[(.int .u64 0)]⟩),
 (98,⟨.other,1,8,[.nilfn]⟩),
 (99,⟨.other,1,8,[.nilfn]⟩),
 (100,⟨.other,1,8,[.nilfn]⟩),
 (101,⟨.ptr,1,8,[.nilptr]⟩),
 (102,⟨.other,1,8,[.nilfn]⟩),
 (103,⟨.ptr,1,8,[.nilptr]⟩),
 (105,⟨.other,1,8,[.nilfn]⟩),
 (106,⟨.other,1,8,[.nilfn]⟩),
 (109,⟨(.array 0 16),0,0,[]⟩),
 (112,⟨(.int .u8),1,1,[(.int .u8 0)]⟩),
 (113,⟨(.int .u8),1,1,[(.int .u8 0)]⟩),
 (114,⟨.other,1,8,[.nilfn]⟩),
 (115,⟨.ptr,1,8,[.nilptr]⟩),
 (116,⟨(.int .i32),1,4,[(.int .i32 0)]⟩),
 (117,⟨(.int .i32),1,4,[(.int .i32 0)]⟩)]
abbrev T:Tab:=qht tl
theorem qzl:∀ p∈tl,qid Try.prog p.1=some p.2:=by
 simp only [tl,List.forall_mem_cons]
 exact ⟨by kernel_rfl,by kernel_rfl,by kernel_rfl,by kernel_rfl,by kernel_rfl,by kernel_rfl,by kernel_rfl,by kernel_rfl,by kernel_rfl,by kernel_rfl,by kernel_rfl,by kernel_rfl,by kernel_rfl,by kernel_rfl,by kernel_rfl,by kernel_rfl,by kernel_rfl,by kernel_rfl,by kernel_rfl,by kernel_rfl,by kernel_rfl,by kernel_rfl,by kernel_rfl,by kernel_rfl,by kernel_rfl,by kernel_rfl,by kernel_rfl,by kernel_rfl,by kernel_rfl,by kernel_rfl,by kernel_rfl,by kernel_rfl,by kernel_rfl,by kernel_rfl,by kernel_rfl,by kernel_rfl,by kernel_rfl,by kernel_rfl,by kernel_rfl,by kernel_rfl,by kernel_rfl,by kernel_rfl,by kernel_rfl,by kernel_rfl,by kernel_rfl,by kernel_rfl,by kernel_rfl,by kernel_rfl,by kernel_rfl,by kernel_rfl,by kernel_rfl,by kernel_rfl,by kernel_rfl,by kernel_rfl,by kernel_rfl,by kernel_rfl,by kernel_rfl,by kernel_rfl,by kernel_rfl,by kernel_rfl,by kernel_rfl,by kernel_rfl,by kernel_rfl,by kernel_rfl,by kernel_rfl,by kernel_rfl,by kernel_rfl,by kernel_rfl,by kernel_rfl,by kernel_rfl,by kernel_rfl,by kernel_rfl,by kernel_rfl,by kernel_rfl,by kernel_rfl,by kernel_rfl,by kernel_rfl,by kernel_rfl,by kernel_rfl,by kernel_rfl,by kernel_rfl,by kernel_rfl,by kernel_rfl,by kernel_rfl,by kernel_rfl,by kernel_rfl,by kernel_rfl,by kernel_rfl,by kernel_rfl,by kernel_rfl,by kernel_rfl,by kernel_rfl,by kernel_rfl,by kernel_rfl,by kernel_rfl,by kernel_rfl,by kernel_rfl,by kernel_rfl,by kernel_rfl,by kernel_rfl,fun _ h=>by cases h⟩
def qsj:XCode:=(.seq (.reg false [⟨some 7,.mv (.t 0),none,0⟩,⟨some 8,.mv (.t 1),none,0⟩,⟨some 9,.bin .geq (.t 7) (.t 8),none,0⟩,⟨some 10,.mv (.t 9),none,0⟩,⟨some 11,.mv (.t 0),(some (10,true)),0⟩,⟨some 12,.mv (.t 2),(some (10,true)),0⟩,⟨some 13,.bin .leq (.t 11) (.t 12),(some (10,true)),0⟩,⟨some 14,.pick (.t 10) (.t 13) (.c (.bool false)),none,0⟩,⟨some 6,.mv (.t 14),none,0⟩]) .ret)
def x41:XFn:=⟨(.seq (.reg false [⟨some 6,.mv (.c (.bool false)),none,0⟩]) qsj),15,[(.t 6)]⟩
theorem q0k:FnOk Try.prog T 41 x41:=⟨Try.f41,[],Try.func41,by decide +kernel,by kernel_rfl⟩
def qsc:XCode:=(.seq (.reg false [⟨some 3,.fa 0 (.t 1),none,0⟩,⟨some 4,.ld none (.t 3),none,0⟩,⟨some 5,.call (.c (.fn 41 [])) [(.t 4),(.c (.int .i64 0)),(.c (.int .i64 3))],none,0⟩,⟨some 6,.mv (.t 5),none,0⟩,⟨some 7,.fa 1 (.t 1),(some (6,true)),0⟩,⟨some 8,.ld none (.t 7),(some (6,true)),0⟩,⟨some 9,.call (.c (.fn 41 [])) [(.t 8),(.c (.int .i64 0)),(.c (.int .i64 2))],(some (6,true)),0⟩,⟨some 10,.pick (.t 6) (.t 9) (.c (.bool false)),none,0⟩,⟨some 11,.mv (.t 10),none,0⟩,⟨some 12,.fa 3 (.t 1),(some (11,true)),0⟩,⟨some 13,.ld none (.t 12),(some (11,true)),0⟩,⟨some 14,.call (.c (.fn 41 [])) [(.t 13),(.c (.int .i64 0)),(.c (.int .i64 9))],(some (11,true)),0⟩,⟨some 15,.pick (.t 11) (.t 14) (.c (.bool false)),none,0⟩,⟨some 16,.mv (.t 15),none,0⟩,⟨some 17,.fa 2 (.t 1),(some (16,true)),0⟩,⟨some 18,.ld none (.t 17),(some (16,true)),0⟩,⟨some 19,.un .not (.t 18),(some (16,true)),0⟩,⟨some 20,.mv (.t 19),(some (16,true)),0⟩,⟨some 21,.fa 3 (.t 1),(some (20,false)),0⟩,⟨some 22,.ld none (.t 21),(some (20,false)),0⟩,⟨some 23,.bin .gtr (.t 22) (.c (.int .i64 0)),(some (20,false)),0⟩,⟨some 24,.pick (.t 20) (.c (.bool true)) (.t 23),(some (16,true)),0⟩,⟨some 25,.pick (.t 16) (.t 24) (.c (.bool false)),none,0⟩,⟨some 26,.mv (.t 25),none,0⟩,⟨some 27,.fa 4 (.t 1),(some (26,true)),0⟩,⟨some 28,.ld none (.t 27),(some (26,true)),0⟩,⟨some 29,.call (.c (.fn 41 [])) [(.t 28),(.c (.int .i64 0)),(.c (.int .i64 100))],(some (26,true)),0⟩,⟨some 30,.pick (.t 26) (.t 29) (.c (.bool false)),none,0⟩,⟨some 31,.mv (.t 30),none,0⟩,⟨some 32,.fa 5 (.t 1),(some (31,true)),0⟩,⟨some 33,.ld none (.t 32),(some (31,true)),0⟩,⟨some 34,.call (.c (.fn 41 [])) [(.t 33),(.c (.int .i64 0)),(.c (.int .i64 100))],(some (31,true)),0⟩,⟨some 35,.pick (.t 31) (.t 34) (.c (.bool false)),none,0⟩,⟨some 36,.mv (.t 35),none,0⟩,⟨some 37,.fa 4 (.t 1),(some (36,true)),0⟩,⟨some 38,.ld none (.t 37),(some (36,true)),0⟩,⟨some 39,.fa 5 (.t 1),(some (36,true)),0⟩,⟨some 40,.ld none (.t 39),(some (36,true)),0⟩,⟨some 41,.bin .lss (.t 38) (.t 40),(some (36,true)),0⟩,⟨some 42,.pick (.t 36) (.t 41) (.c (.bool false)),none,0⟩,⟨some 2,.mv (.t 42),none,0⟩]) .ret)
def x64:XFn:=⟨(.seq (.seq (.reg false [⟨some 1,.box 55 6 (.t 0),none,0⟩,⟨some 2,.mv (.c (.bool false)),none,0⟩]) (.frz [1])) qsc),43,[(.t 2)]⟩
theorem qz8:FnOk Try.prog T 64 x64:=⟨Try.f64,[.frz [1]],Try.func64,by decide +kernel,by kernel_rfl⟩
def qrq:XCode:=(.seq (.reg false [⟨some 25,.fa 0 (.t 6),none,0⟩,⟨some 26,.ld none (.t 25),none,0⟩,⟨some 27,.fa 0 (.t 4),none,0⟩,⟨some 28,.ld none (.t 27),none,0⟩,⟨some 29,.bin .eql (.t 26) (.t 28),none,0⟩,⟨some 30,.mv (.t 29),none,0⟩,⟨some 31,.fa 5 (.t 6),(some (30,true)),0⟩,⟨some 32,.ld none (.t 31),(some (30,true)),0⟩,⟨some 33,.fa 4 (.t 4),(some (30,true)),0⟩,⟨some 34,.ld none (.t 33),(some (30,true)),0⟩,⟨some 35,.bin .gtr (.t 32) (.t 34),(some (30,true)),0⟩,⟨some 36,.pick (.t 30) (.t 35) (.c (.bool false)),none,0⟩,⟨some 37,.mv (.t 36),none,0⟩,⟨some 38,.fa 5 (.t 4),(some (37,true)),0⟩,⟨some 39,.ld none (.t 38),(some (37,true)),0⟩,⟨some 40,.fa 4 (.t 6),(some (37,true)),0⟩,⟨some 41,.ld none (.t 40),(some (37,true)),0⟩,⟨some 42,.bin .gtr (.t 39) (.t 41),(some (37,true)),0⟩,⟨some 43,.pick (.t 37) (.t 42) (.c (.bool false)),none,0⟩]) (.cond (.t 43) (.seq (.reg false [⟨some 2,.mv (.c (.bool false)),none,0⟩]) .ret) .skip))
def qvj:XCode:=(.seq (.seq (.reg false [⟨some 23,.ia 6 (.t 19) (.t 21),none,0⟩,⟨some 24,.ld (some 6) (.t 23),none,0⟩,⟨some 6,.new 55 [(.int .i64 0),(.int .i64 0),(.bool false),(.int .i64 0),(.int .i64 0),(.int .i64 0)],none,0⟩,⟨none,.st 6 (.t 6) (.t 24),none,0⟩]) (.frz [6])) qrq)
def qyz:XCode:=(.block 2 (.loop [0,4,7,8,9,19,20,21] (.seq (.reg false [⟨some 22,.bin .lss (.t 21) (.t 20),none,0⟩]) (.seq (.cond (.t 22) .skip (.exit 2)) (.seq (.block 3 qvj) (.reg false [⟨some 44,.bin .add (.t 21) (.c (.int .i64 1)),none,0⟩,⟨some 21,.mv (.t 44),none,0⟩]))))))
def qqx:XCode:=qyz
def qr8:XCode:=(.seq (.reg false [⟨some 17,.mv (.t 0),none,0⟩,⟨some 18,.mv (.t 3),none,0⟩,⟨some 19,.slc 55 6 (.t 17) none (some (.t 18)) none,none,0⟩,⟨some 20,.len (.t 19),none,0⟩,⟨some 21,.mv (.c (.int .i64 0)),none,0⟩]) qqx)
def qu2:XCode:=(.seq (.seq (.reg false [⟨some 14,.ld (some 6) (.t 4),none,0⟩,⟨some 15,.call (.c (.fn 64 [])) [(.t 14)],none,0⟩,⟨some 16,.un .not (.t 15),none,0⟩]) (.cond (.t 16) (.seq (.reg false [⟨some 2,.mv (.c (.bool false)),none,0⟩]) .ret) .skip)) qr8)
def qrt:XCode:=(.seq (.seq (.reg false [⟨some 11,.mv (.t 9),none,0⟩,⟨some 12,.ia 6 (.t 7) (.t 9),none,0⟩,⟨some 13,.ld (some 6) (.t 12),none,0⟩,⟨some 4,.new 55 [(.int .i64 0),(.int .i64 0),(.bool false),(.int .i64 0),(.int .i64 0),(.int .i64 0)],none,0⟩,⟨some 3,.mv (.t 11),none,0⟩,⟨none,.st 6 (.t 4) (.t 13),none,0⟩]) (.frz [4])) qu2)
def qze:XCode:=(.block 0 (.loop [0,7,8,9] (.seq (.reg false [⟨some 10,.bin .lss (.t 9) (.t 8),none,0⟩]) (.seq (.cond (.t 10) .skip (.exit 0)) (.seq (.block 1 qrt) (.reg false [⟨some 45,.bin .add (.t 9) (.c (.int .i64 1)),none,0⟩,⟨some 9,.mv (.t 45),none,0⟩]))))))
def qrw:XCode:=qze
def qo1:XCode:=(.seq (.reg false [⟨some 46,.mv (.t 0),none,0⟩,⟨some 47,.len (.t 46),none,0⟩,⟨some 48,.bin .leq (.t 47) (.c (.int .i64 7)),none,0⟩,⟨some 2,.mv (.t 48),none,0⟩]) .ret)
def qmg:XCode:=(.seq (.seq (.reg false [⟨some 7,.mv (.t 0),none,0⟩,⟨some 8,.len (.t 7),none,0⟩,⟨some 9,.mv (.c (.int .i64 0)),none,0⟩]) qrw) qo1)
def x40:XFn:=⟨(.seq (.reg false [⟨some 2,.mv (.c (.bool false)),none,0⟩]) qmg),49,[(.t 2)]⟩
theorem q0p:FnOk Try.prog T 40 x40:=⟨Try.f40,[.loop [0,7,8,9],.frz [],.frz [4],.loop [0,4,7,8,9,19,20,21],.frz [],.frz [6]],Try.func40,by decide +kernel,by kernel_rfl⟩
def qvy:XCode:=(.cond (.t 16) (.seq (.reg false [⟨some 4,.mv (.c .nil),none,0⟩,⟨some 5,.mv (.c (.bool false)),none,0⟩]) .ret) .skip)
def quz:XCode:=(.reg false [⟨some 27,.mv (.t 6),none,0⟩,⟨some 28,.ld (some 6) (.t 8),none,0⟩,⟨some 29,.buildS 55 1 [(.int .i64 0),(.int .i64 0),(.bool false),(.int .i64 0),(.int .i64 0),(.int .i64 0)] [(0,(6,(.t 28)))],none,0⟩,⟨some 30,.app 55 6 48 (.t 27) (.t 29),none,0⟩,⟨some 6,.mv (.t 30),none,0⟩])
def qun:XCode:=(.cond (.t 26) quz .skip)
def qt8:XCode:=(.seq (.reg false [⟨some 23,.fa 1 (.t 8),none,0⟩,⟨some 24,.ld none (.t 23),none,0⟩,⟨some 25,.mv (.t 1),none,0⟩,⟨some 26,.bin .eql (.t 24) (.t 25),none,0⟩]) qun)
def qrk:XCode:=(.seq (.seq (.reg false [⟨some 21,.ia 6 (.t 17) (.t 19),none,0⟩,⟨some 22,.ld (some 6) (.t 21),none,0⟩,⟨some 8,.new 55 [(.int .i64 0),(.int .i64 0),(.bool false),(.int .i64 0),(.int .i64 0),(.int .i64 0)],none,0⟩,⟨none,.st 6 (.t 8) (.t 22),none,0⟩]) (.frz [8])) qt8)
def qy4:XCode:=(.block 0 (.loop [1,6,17,18,19] (.seq (.reg false [⟨some 20,.bin .lss (.t 19) (.t 18),none,0⟩]) (.seq (.cond (.t 20) .skip (.exit 0)) (.seq (.block 1 qrk) (.reg false [⟨some 31,.bin .add (.t 19) (.c (.int .i64 1)),none,0⟩,⟨some 19,.mv (.t 31),none,0⟩]))))))
def qs6:XCode:=qy4
def qt4:XCode:=(.seq (.seq (.reg false [⟨some 17,.mv (.t 0),none,0⟩,⟨some 18,.len (.t 17),none,0⟩,⟨some 19,.mv (.c (.int .i64 0)),none,0⟩]) qs6) (.seq (.reg false [⟨some 32,.mv (.t 6),none,0⟩,⟨some 4,.mv (.t 32),none,0⟩,⟨some 5,.mv (.c (.bool true)),none,0⟩]) .ret))
def qrn:XCode:=(.seq (.reg false [⟨some 6,.mv (.c .nil),none,0⟩]) qt4)
def qne:XCode:=(.seq (.seq (.reg false [⟨some 9,.mv (.t 0),none,0⟩,⟨some 10,.call (.c (.fn 40 [])) [(.t 9)],none,0⟩,⟨some 11,.un .not (.t 10),none,0⟩,⟨some 12,.mv (.t 11),none,0⟩,⟨some 13,.mv (.t 1),(some (12,false)),0⟩,⟨some 14,.call (.c (.fn 41 [])) [(.t 13),(.c (.int .i64 0)),(.c (.int .i64 2))],(some (12,false)),0⟩,⟨some 15,.un .not (.t 14),(some (12,false)),0⟩,⟨some 16,.pick (.t 12) (.c (.bool true)) (.t 15),none,0⟩]) qvy) qrn)
def x12:XFn:=⟨(.seq (.reg false [⟨some 4,.mv (.c .nil),none,0⟩,⟨some 5,.mv (.c (.bool false)),none,0⟩]) qne),33,[(.t 4),(.t 5)]⟩
theorem q0b:FnOk Try.prog T 12 x12:=⟨Try.f12,[.loop [1,6,17,18,19],.frz [],.frz [8]],Try.func12,by decide +kernel,by kernel_rfl⟩
def qtd:XCode:=(.seq (.reg false [⟨some 7,.mv (.t 0),none,0⟩,⟨some 8,.mv (.t 1),none,0⟩,⟨some 9,.bin .geq (.t 7) (.t 8),none,0⟩,⟨some 10,.mv (.t 9),none,0⟩,⟨some 11,.mv (.t 0),(some (10,true)),0⟩,⟨some 12,.mv (.t 2),(some (10,true)),0⟩,⟨some 13,.bin .leq (.t 11) (.t 12),(some (10,true)),0⟩,⟨some 14,.pick (.t 10) (.t 13) (.c (.bool false)),none,0⟩,⟨some 6,.mv (.t 14),none,0⟩]) .ret)
def x44:XFn:=⟨(.seq (.reg false [⟨some 6,.mv (.c (.bool false)),none,0⟩]) qtd),15,[(.t 6)]⟩
theorem qzq:FnOk Try.prog T 44 x44:=⟨Try.f44,[],Try.func44,by decide +kernel,by kernel_rfl⟩
def qrc:XCode:=(.seq (.reg false [⟨some 61,.fa 0 (.t 4),none,0⟩,⟨some 62,.ld none (.t 61),none,0⟩,⟨some 63,.fa 0 (.t 7),none,0⟩,⟨some 64,.ld none (.t 63),none,0⟩,⟨some 65,.bin .eql (.t 62) (.t 64),none,0⟩,⟨some 66,.mv (.t 65),none,0⟩,⟨some 67,.fa 5 (.t 4),(some (66,true)),0⟩,⟨some 68,.ld none (.t 67),(some (66,true)),0⟩,⟨some 69,.fa 4 (.t 7),(some (66,true)),0⟩,⟨some 70,.ld none (.t 69),(some (66,true)),0⟩,⟨some 71,.bin .gtr (.t 68) (.t 70),(some (66,true)),0⟩,⟨some 72,.pick (.t 66) (.t 71) (.c (.bool false)),none,0⟩,⟨some 73,.mv (.t 72),none,0⟩,⟨some 74,.fa 5 (.t 7),(some (73,true)),0⟩,⟨some 75,.ld none (.t 74),(some (73,true)),0⟩,⟨some 76,.fa 4 (.t 4),(some (73,true)),0⟩,⟨some 77,.ld none (.t 76),(some (73,true)),0⟩,⟨some 78,.bin .gtr (.t 75) (.t 77),(some (73,true)),0⟩,⟨some 79,.pick (.t 73) (.t 78) (.c (.bool false)),none,0⟩]) (.cond (.t 79) (.seq (.reg false [⟨some 2,.mv (.c (.bool false)),none,0⟩]) .ret) .skip))
def qtj:XCode:=(.seq (.seq (.reg false [⟨some 59,.ia 6 (.t 55) (.t 57),none,0⟩,⟨some 60,.ld (some 6) (.t 59),none,0⟩,⟨some 7,.new 55 [(.int .i64 0),(.int .i64 0),(.bool false),(.int .i64 0),(.int .i64 0),(.int .i64 0)],none,0⟩,⟨none,.st 6 (.t 7) (.t 60),none,0⟩]) (.frz [7])) qrc)
def qzj:XCode:=(.block 2 (.loop [0,4,8,9,10,55,56,57] (.seq (.reg false [⟨some 58,.bin .lss (.t 57) (.t 56),none,0⟩]) (.seq (.cond (.t 58) .skip (.exit 2)) (.seq (.block 3 qtj) (.reg false [⟨some 80,.bin .add (.t 57) (.c (.int .i64 1)),none,0⟩,⟨some 57,.mv (.t 80),none,0⟩]))))))
def qvt:XCode:=qzj
def qtb:XCode:=(.seq (.reg false [⟨some 53,.mv (.t 0),none,0⟩,⟨some 54,.mv (.t 3),none,0⟩,⟨some 55,.slc 55 6 (.t 53) none (some (.t 54)) none,none,0⟩,⟨some 56,.len (.t 55),none,0⟩,⟨some 57,.mv (.c (.int .i64 0)),none,0⟩]) qvt)
def qt2:XCode:=(.seq (.seq (.reg false [⟨some 17,.fa 0 (.t 4),none,0⟩,⟨some 18,.ld none (.t 17),none,0⟩,⟨some 19,.call (.c (.fn 44 [])) [(.t 18),(.c (.int .i64 0)),(.c (.int .i64 3))],none,0⟩,⟨some 20,.un .not (.t 19),none,0⟩,⟨some 21,.mv (.t 20),none,0⟩,⟨some 22,.fa 1 (.t 4),(some (21,false)),0⟩,⟨some 23,.ld none (.t 22),(some (21,false)),0⟩,⟨some 24,.call (.c (.fn 44 [])) [(.t 23),(.c (.int .i64 0)),(.c (.int .i64 2))],(some (21,false)),0⟩,⟨some 25,.un .not (.t 24),(some (21,false)),0⟩,⟨some 26,.pick (.t 21) (.c (.bool true)) (.t 25),none,0⟩,⟨some 27,.mv (.t 26),none,0⟩,⟨some 28,.fa 3 (.t 4),(some (27,false)),0⟩,⟨some 29,.ld none (.t 28),(some (27,false)),0⟩,⟨some 30,.mv (.t 5),(some (27,false)),0⟩,⟨some 31,.call (.c (.fn 44 [])) [(.t 29),(.t 30),(.c (.int .i64 9))],(some (27,false)),0⟩,⟨some 32,.un .not (.t 31),(some (27,false)),0⟩,⟨some 33,.pick (.t 27) (.c (.bool true)) (.t 32),none,0⟩,⟨some 34,.mv (.t 33),none,0⟩,⟨some 35,.fa 4 (.t 4),(some (34,false)),0⟩,⟨some 36,.ld none (.t 35),(some (34,false)),0⟩,⟨some 37,.call (.c (.fn 44 [])) [(.t 36),(.c (.int .i64 0)),(.c (.int .i64 100))],(some (34,false)),0⟩,⟨some 38,.un .not (.t 37),(some (34,false)),0⟩,⟨some 39,.pick (.t 34) (.c (.bool true)) (.t 38),none,0⟩,⟨some 40,.mv (.t 39),none,0⟩,⟨some 41,.fa 5 (.t 4),(some (40,false)),0⟩,⟨some 42,.ld none (.t 41),(some (40,false)),0⟩,⟨some 43,.call (.c (.fn 44 [])) [(.t 42),(.c (.int .i64 0)),(.c (.int .i64 100))],(some (40,false)),0⟩,⟨some 44,.un .not (.t 43),(some (40,false)),0⟩,⟨some 45,.pick (.t 40) (.c (.bool true)) (.t 44),none,0⟩,⟨some 46,.mv (.t 45),none,0⟩,⟨some 47,.fa 4 (.t 4),(some (46,false)),0⟩,⟨some 48,.ld none (.t 47),(some (46,false)),0⟩,⟨some 49,.fa 5 (.t 4),(some (46,false)),0⟩,⟨some 50,.ld none (.t 49),(some (46,false)),0⟩,⟨some 51,.bin .geq (.t 48) (.t 50),(some (46,false)),0⟩,⟨some 52,.pick (.t 46) (.c (.bool true)) (.t 51),none,0⟩]) (.cond (.t 52) (.seq (.reg false [⟨some 2,.mv (.c (.bool false)),none,0⟩]) .ret) .skip)) qtb)
def qv0:XCode:=(.seq (.seq (.reg false [⟨some 15,.fa 2 (.t 4),none,0⟩,⟨some 16,.ld none (.t 15),none,0⟩]) (.cond (.t 16) (.reg false [⟨some 5,.mv (.c (.int .i64 1)),none,0⟩]) .skip)) qt2)
def qv7:XCode:=(.seq (.reg false [⟨some 5,.mv (.c (.int .i64 0)),none,0⟩]) qv0)
def qsv:XCode:=(.seq (.seq (.reg false [⟨some 12,.mv (.t 10),none,0⟩,⟨some 13,.ia 6 (.t 8) (.t 10),none,0⟩,⟨some 14,.ld (some 6) (.t 13),none,0⟩,⟨some 4,.new 55 [(.int .i64 0),(.int .i64 0),(.bool false),(.int .i64 0),(.int .i64 0),(.int .i64 0)],none,0⟩,⟨some 3,.mv (.t 12),none,0⟩,⟨none,.st 6 (.t 4) (.t 14),none,0⟩]) (.frz [4])) qv7)
def qya:XCode:=(.block 0 (.loop [0,8,9,10] (.seq (.reg false [⟨some 11,.bin .lss (.t 10) (.t 9),none,0⟩]) (.seq (.cond (.t 11) .skip (.exit 0)) (.seq (.block 1 qsv) (.reg false [⟨some 81,.bin .add (.t 10) (.c (.int .i64 1)),none,0⟩,⟨some 10,.mv (.t 81),none,0⟩]))))))
def qnj:XCode:=qya
def qlx:XCode:=(.seq (.reg false [⟨some 82,.mv (.t 0),none,0⟩,⟨some 83,.len (.t 82),none,0⟩,⟨some 84,.bin .leq (.t 83) (.c (.int .i64 7)),none,0⟩,⟨some 2,.mv (.t 84),none,0⟩]) .ret)
def qln:XCode:=(.seq (.seq (.reg false [⟨some 8,.mv (.t 0),none,0⟩,⟨some 9,.len (.t 8),none,0⟩,⟨some 10,.mv (.c (.int .i64 0)),none,0⟩]) qnj) qlx)
def x43:XFn:=⟨(.seq (.reg false [⟨some 2,.mv (.c (.bool false)),none,0⟩]) qln),85,[(.t 2)]⟩
theorem q0e:FnOk Try.prog T 43 x43:=⟨Try.f43,[.loop [0,8,9,10],.frz [],.frz [4],.loop [0,4,8,9,10,55,56,57],.frz [],.frz [7]],Try.func43,by decide +kernel,by kernel_rfl⟩
def qsn:XCode:=(.cond (.t 16) (.seq (.reg false [⟨some 17,.mv (.t 5),none,0⟩,⟨some 4,.mv (.t 17),none,0⟩]) .ret) .skip)
def quf:XCode:=(.seq (.reg false [⟨some 11,.mv (.t 1),none,0⟩,⟨some 12,.mv (.t 0),none,0⟩,⟨some 13,.mv (.t 5),none,0⟩,⟨some 14,.ia 6 (.t 12) (.t 13),none,0⟩,⟨some 15,.ld (some 6) (.t 14),none,0⟩,⟨some 16,.call (.t 11) [(.t 15)],none,0⟩]) qsn)
def qrs:XCode:=(.seq (.reg false [⟨some 10,.mv (.t 8),none,0⟩,⟨some 5,.mv (.t 10),none,0⟩]) quf)
def qy1:XCode:=(.block 0 (.loop [0,1,7,8] (.seq (.reg false [⟨some 9,.bin .lss (.t 8) (.t 7),none,0⟩]) (.seq (.cond (.t 9) .skip (.exit 0)) (.seq (.block 1 qrs) (.reg false [⟨some 18,.bin .add (.t 8) (.c (.int .i64 1)),none,0⟩,⟨some 8,.mv (.t 18),none,0⟩]))))))
def qu6:XCode:=qy1
def qtz:XCode:=(.seq (.seq (.reg false [⟨some 6,.mv (.t 0),none,0⟩,⟨some 7,.len (.t 6),none,0⟩,⟨some 8,.mv (.c (.int .i64 0)),none,0⟩]) qu6) (.seq (.reg false [⟨some 4,.mv (.c (.int .i64 (-1))),none,0⟩]) .ret))
def x65:XFn:=⟨(.seq (.reg false [⟨some 4,.mv (.c (.int .i64 0)),none,0⟩]) qtz),19,[(.t 4)]⟩
theorem qzt:FnOk Try.prog T 65 x65:=⟨Try.f65,[.loop [0,1,7,8]],Try.func65,by decide +kernel,by kernel_rfl⟩
def qrm:XCode:=(.cond (.t 12) (.seq (.reg false [⟨some 13,.mv (.t 0),none,0⟩,⟨some 4,.mv (.t 13),none,0⟩]) .ret) .skip)
def qtg:XCode:=(.seq (.reg false [⟨some 30,.mv (.t 0),none,0⟩,⟨some 31,.mv (.t 5),none,0⟩,⟨some 32,.ld (some 6) (.t 7),none,0⟩,⟨some 33,.ia 6 (.t 30) (.t 31),none,0⟩,⟨none,.st 6 (.t 33) (.t 32),none,0⟩]) (.reg false [⟨some 34,.mv (.t 5),none,0⟩,⟨some 35,.bin .add (.t 34) (.c (.int .i64 1)),none,0⟩,⟨some 5,.mv (.t 35),none,0⟩]))
def qs9:XCode:=(.cond (.t 29) qtg .skip)
def qqv:XCode:=(.seq (.reg false [⟨some 26,.mv (.t 1),none,0⟩,⟨some 27,.ld (some 6) (.t 7),none,0⟩,⟨some 28,.call (.t 26) [(.t 27)],none,0⟩,⟨some 29,.un .not (.t 28),none,0⟩]) qs9)
def qua:XCode:=(.seq (.seq (.reg false [⟨some 22,.mv (.t 0),none,0⟩,⟨some 23,.mv (.t 6),none,0⟩,⟨some 24,.ia 6 (.t 22) (.t 23),none,0⟩,⟨some 25,.ld (some 6) (.t 24),none,0⟩,⟨some 7,.new 55 [(.int .i64 0),(.int .i64 0),(.bool false),(.int .i64 0),(.int .i64 0),(.int .i64 0)],none,0⟩,⟨none,.st 6 (.t 7) (.t 25),none,0⟩]) (.frz [7])) qqv)
def qt3:XCode:=(.seq (.block 1 qua) (.reg false [⟨some 20,.mv (.t 6),none,0⟩,⟨some 21,.bin .add (.t 20) (.c (.int .i64 1)),none,0⟩,⟨some 6,.mv (.t 21),none,0⟩]))
def qra:XCode:=(.seq (.seq (.reg false [⟨some 16,.mv (.t 6),none,0⟩,⟨some 17,.mv (.t 0),none,0⟩,⟨some 18,.len (.t 17),none,0⟩,⟨some 19,.bin .lss (.t 16) (.t 18),none,0⟩]) (.cond (.t 19) .skip (.exit 0))) qt3)
def qy5:XCode:=(.block 0 (.loop [0,1,5,6] qra))
def qwc:XCode:=qy5
def qn7:XCode:=(.seq (.reg false [⟨some 39,.mv (.t 0),none,0⟩,⟨some 40,.mv (.t 5),none,0⟩,⟨some 41,.slc 55 6 (.t 39) none (some (.t 40)) none,none,0⟩,⟨some 4,.mv (.t 41),none,0⟩]) .ret)
def qlk:XCode:=(.seq (.reg false [⟨some 36,.mv (.t 0),none,0⟩,⟨some 37,.mv (.t 5),none,0⟩,⟨some 38,.slc 55 6 (.t 36) (some (.t 37)) none none,none,0⟩,⟨none,.clr 55 [(.int .i64 0),(.int .i64 0),(.bool false),(.int .i64 0),(.int .i64 0),(.int .i64 0)] (.t 38),none,0⟩]) qn7)
def ql7:XCode:=(.seq (.seq (.reg false [⟨some 14,.mv (.t 5),none,0⟩,⟨some 15,.bin .add (.t 14) (.c (.int .i64 1)),none,0⟩,⟨some 6,.mv (.t 15),none,0⟩]) qwc) qlk)
def qm0:XCode:=(.seq (.seq (.reg false [⟨some 11,.mv (.t 5),none,0⟩,⟨some 12,.bin .eql (.t 11) (.c (.int .i64 (-1))),none,0⟩]) qrm) ql7)
def qpa:XCode:=(.seq (.reg false [⟨some 8,.mv (.t 0),none,0⟩,⟨some 9,.mv (.t 1),none,0⟩,⟨some 10,.call (.c (.fn 65 [])) [(.t 8),(.t 9)],none,0⟩,⟨some 5,.mv (.t 10),none,0⟩]) qm0)
def x45:XFn:=⟨(.seq (.reg false [⟨some 4,.mv (.c .nil),none,0⟩]) qpa),42,[(.t 4)]⟩
theorem qz1:FnOk Try.prog T 45 x45:=⟨Try.f45,[.loop [0,1,5,6],.frz [],.frz [7]],Try.func45,by decide +kernel,by kernel_rfl⟩
def qrv:XCode:=(.seq (.reg false [⟨some 4,.fa 1 (.t 2),none,0⟩,⟨some 5,.ld none (.t 4),none,0⟩,⟨some 6,.ld none (.t 1),none,0⟩,⟨some 7,.bin .neq (.t 5) (.t 6),none,0⟩,⟨some 3,.mv (.t 7),none,0⟩]) .ret)
def x46:XFn:=⟨(.seq (.seq (.reg false [⟨some 2,.box 55 6 (.t 0),none,0⟩,⟨some 3,.mv (.c (.bool false)),none,0⟩]) (.frz [2])) qrv),8,[(.t 3)]⟩
theorem q0r:FnOk Try.prog T 46 x46:=⟨Try.f46,[.frz [2]],Try.func46,by decide +kernel,by kernel_rfl⟩
def qsr:XCode:=(.cond (.t 13) (.seq (.reg false [⟨some 4,.mv (.c .nil),none,0⟩,⟨some 5,.mv (.c (.bool false)),none,0⟩]) .ret) .skip)
def qr6:XCode:=(.seq (.reg false [⟨some 14,.buildS 55 0 [] [],none,0⟩,⟨some 15,.mv (.t 0),none,0⟩,⟨some 16,.app 55 6 48 (.t 14) (.t 15),none,0⟩,⟨some 17,.mkF 46 [(.t 3)],none,0⟩,⟨some 18,.call (.c (.fn 45 [])) [(.t 16),(.t 17)],none,0⟩,⟨some 4,.mv (.t 18),none,0⟩,⟨some 5,.mv (.c (.bool true)),none,0⟩]) .ret)
def quu:XCode:=(.seq (.seq (.reg false [⟨some 6,.mv (.t 0),none,0⟩,⟨some 7,.call (.c (.fn 43 [])) [(.t 6)],none,0⟩,⟨some 8,.un .not (.t 7),none,0⟩,⟨some 9,.mv (.t 8),none,0⟩,⟨some 10,.ld none (.t 3),(some (9,false)),0⟩,⟨some 11,.call (.c (.fn 44 [])) [(.t 10),(.c (.int .i64 0)),(.c (.int .i64 2))],(some (9,false)),0⟩,⟨some 12,.un .not (.t 11),(some (9,false)),0⟩,⟨some 13,.pick (.t 9) (.c (.bool true)) (.t 12),none,0⟩]) qsr) qr6)
def x14:XFn:=⟨(.seq (.seq (.reg false [⟨some 3,.box 3 1 (.t 1),none,0⟩,⟨some 4,.mv (.c .nil),none,0⟩,⟨some 5,.mv (.c (.bool false)),none,0⟩]) (.frz [3])) quu),19,[(.t 4),(.t 5)]⟩
theorem qzv:FnOk Try.prog T 14 x14:=⟨Try.f14,[.frz [3]],Try.func14,by decide +kernel,by kernel_rfl⟩
def qq1:XCode:=(.seq (.reg false [⟨some 24,.mv (.t 1),none,0⟩,⟨some 25,.mv (.t 8),none,0⟩,⟨some 26,.mv (.t 6),none,0⟩,⟨some 27,.call (.t 24) [(.t 25),(.t 26)],none,0⟩,⟨some 28,.un .not (.t 27),none,0⟩]) (.cond (.t 28) (.seq (.reg false [⟨some 4,.mv (.c (.bool false)),none,0⟩]) .ret) .skip))
def qry:XCode:=(.seq (.reg false [⟨some 22,.ia 1 (.t 18) (.t 20),none,0⟩,⟨some 23,.ld none (.t 22),none,0⟩,⟨some 8,.mv (.t 23),none,0⟩]) qq1)
def qzm:XCode:=(.block 2 (.loop [0,1,6,9,10,11,18,19,20] (.seq (.reg false [⟨some 21,.bin .lss (.t 20) (.t 19),none,0⟩]) (.seq (.cond (.t 21) .skip (.exit 2)) (.seq (.block 3 qry) (.reg false [⟨some 29,.bin .add (.t 20) (.c (.int .i64 1)),none,0⟩,⟨some 20,.mv (.t 29),none,0⟩]))))))
def qtv:XCode:=qzm
def qsz:XCode:=(.seq (.reg false [⟨some 16,.mv (.t 0),none,0⟩,⟨some 17,.mv (.t 5),none,0⟩,⟨some 18,.slc 3 1 (.t 16) none (some (.t 17)) none,none,0⟩,⟨some 19,.len (.t 18),none,0⟩,⟨some 20,.mv (.c (.int .i64 0)),none,0⟩]) qtv)
def qus:XCode:=(.seq (.reg false [⟨some 13,.mv (.t 11),none,0⟩,⟨some 14,.ia 1 (.t 9) (.t 11),none,0⟩,⟨some 15,.ld none (.t 14),none,0⟩,⟨some 5,.mv (.t 13),none,0⟩,⟨some 6,.mv (.t 15),none,0⟩]) qsz)
def qy3:XCode:=(.block 0 (.loop [0,1,9,10,11] (.seq (.reg false [⟨some 12,.bin .lss (.t 11) (.t 10),none,0⟩]) (.seq (.cond (.t 12) .skip (.exit 0)) (.seq (.block 1 qus) (.reg false [⟨some 30,.bin .add (.t 11) (.c (.int .i64 1)),none,0⟩,⟨some 11,.mv (.t 30),none,0⟩]))))))
def qv6:XCode:=qy3
def qs3:XCode:=(.seq (.seq (.reg false [⟨some 9,.mv (.t 0),none,0⟩,⟨some 10,.len (.t 9),none,0⟩,⟨some 11,.mv (.c (.int .i64 0)),none,0⟩]) qv6) (.seq (.reg false [⟨some 4,.mv (.c (.bool true)),none,0⟩]) .ret))
def x55:XFn:=⟨(.seq (.reg false [⟨some 4,.mv (.c (.bool false)),none,0⟩]) qs3),31,[(.t 4)]⟩
theorem qzx:FnOk Try.prog T 55 x55:=⟨Try.f55,[.loop [0,1,9,10,11],.loop [0,1,6,9,10,11,18,19,20]],Try.func55,by decide +kernel,by kernel_rfl⟩
def qul:XCode:=(.reg false [⟨some 22,.fa 1 (.t 8),none,0⟩,⟨some 23,.ld none (.t 22),none,0⟩,⟨some 24,.fa 3 (.t 8),none,0⟩,⟨some 25,.ld none (.t 24),none,0⟩,⟨some 26,.iaA 3 1 (.t 5) (.t 23),none,0⟩,⟨none,.st 1 (.t 26) (.t 25),none,0⟩])
def qv5:XCode:=(.seq (.reg true [⟨some 27,.fa 1 (.t 8),none,4⟩,⟨some 28,.ld none (.t 27),none,4⟩,⟨some 29,.iaA 3 1 (.t 5) (.t 28),none,4⟩,⟨some 30,.ld none (.t 29),none,4⟩,⟨some 31,.fa 3 (.t 8),none,4⟩,⟨some 32,.ld none (.t 31),none,4⟩,⟨some 33,.bin .neq (.t 30) (.t 32),none,4⟩]) (.cond (.t 33) (.seq (.reg false [⟨some 4,.mv (.c (.bool false)),none,0⟩]) .ret) .skip))
def qu8:XCode:=(.cond (.t 21) qul qv5)
def qqz:XCode:=(.seq (.reg false [⟨some 20,.fa 2 (.t 8),none,0⟩,⟨some 21,.ld none (.t 20),none,0⟩]) qu8)
def qwb:XCode:=(.seq (.seq (.reg false [⟨some 16,.mv (.t 0),none,0⟩,⟨some 17,.mv (.t 7),none,0⟩,⟨some 18,.ia 6 (.t 16) (.t 17),none,0⟩,⟨some 19,.ld (some 6) (.t 18),none,0⟩,⟨some 8,.new 55 [(.int .i64 0),(.int .i64 0),(.bool false),(.int .i64 0),(.int .i64 0),(.int .i64 0)],none,0⟩,⟨none,.st 6 (.t 8) (.t 19),none,0⟩]) (.frz [8])) qqz)
def qvh:XCode:=(.seq (.reg false [⟨some 14,.ia 1 (.t 10) (.t 12),none,0⟩,⟨some 15,.ld none (.t 14),none,0⟩,⟨some 7,.mv (.t 15),none,0⟩]) qwb)
def qy2:XCode:=(.block 0 (.loop [0,5,10,11,12] (.seq (.reg false [⟨some 13,.bin .lss (.t 12) (.t 11),none,0⟩]) (.seq (.cond (.t 13) .skip (.exit 0)) (.seq (.block 1 qvh) (.reg false [⟨some 34,.bin .add (.t 12) (.c (.int .i64 1)),none,0⟩,⟨some 12,.mv (.t 34),none,0⟩]))))))
def qwh:XCode:=qy2
def qt6:XCode:=(.seq (.seq (.reg false [⟨some 10,.mv (.t 1),none,0⟩,⟨some 11,.len (.t 10),none,0⟩,⟨some 12,.mv (.c (.int .i64 0)),none,0⟩]) qwh) (.seq (.reg false [⟨some 4,.mv (.c (.bool true)),none,0⟩]) .ret))
def ql9:XCode:=(.seq (.reg false [⟨some 9,.build [(.int .i64 0),(.int .i64 0),(.int .i64 0)] [],none,0⟩,⟨some 5,.new 81 [(.int .i64 0),(.int .i64 0),(.int .i64 0)],none,0⟩,⟨none,.st 3 (.t 5) (.t 9),none,0⟩]) qt6)
def x58:XFn:=⟨(.seq (.reg false [⟨some 4,.mv (.c (.bool false)),none,0⟩]) ql9),35,[(.t 4)]⟩
theorem q0n:FnOk Try.prog T 58 x58:=⟨Try.f58,[.loop [0,5,10,11,12],.frz [],.frz [],.frz [8],.draw [0,1,2,3,4,5,6] [4,4,4,4,4,4,4]],Try.func58,by decide +kernel,by kernel_rfl⟩
def qsp:XCode:=(.cond (.t 16) (.seq (.reg false [⟨some 17,.mv (.t 5),none,0⟩,⟨some 4,.mv (.t 17),none,0⟩]) .ret) .skip)
def qtc:XCode:=(.seq (.reg false [⟨some 11,.mv (.t 1),none,0⟩,⟨some 12,.mv (.t 0),none,0⟩,⟨some 13,.mv (.t 5),none,0⟩,⟨some 14,.ia 1 (.t 12) (.t 13),none,0⟩,⟨some 15,.ld none (.t 14),none,0⟩,⟨some 16,.bin .eql (.t 11) (.t 15),none,0⟩]) qsp)
def qru:XCode:=(.seq (.reg false [⟨some 10,.mv (.t 8),none,0⟩,⟨some 5,.mv (.t 10),none,0⟩]) qtc)
def qzd:XCode:=(.block 0 (.loop [0,1,7,8] (.seq (.reg false [⟨some 9,.bin .lss (.t 8) (.t 7),none,0⟩]) (.seq (.cond (.t 9) .skip (.exit 0)) (.seq (.block 1 qru) (.reg false [⟨some 18,.bin .add (.t 8) (.c (.int .i64 1)),none,0⟩,⟨some 8,.mv (.t 18),none,0⟩]))))))
def qup:XCode:=qzd
def qss:XCode:=(.seq (.seq (.reg false [⟨some 6,.mv (.t 0),none,0⟩,⟨some 7,.len (.t 6),none,0⟩,⟨some 8,.mv (.c (.int .i64 0)),none,0⟩]) qup) (.seq (.reg false [⟨some 4,.mv (.c (.int .i64 (-1))),none,0⟩]) .ret))
def x74:XFn:=⟨(.seq (.reg false [⟨some 4,.mv (.c (.int .i64 0)),none,0⟩]) qss),19,[(.t 4)]⟩
theorem q0d:FnOk Try.prog T 74 x74:=⟨Try.f74,[.loop [0,1,7,8]],Try.func74,by decide +kernel,by kernel_rfl⟩
def qr3:XCode:=(.seq (.reg false [⟨some 5,.mv (.t 0),none,0⟩,⟨some 6,.mv (.t 1),none,0⟩,⟨some 7,.call (.c (.fn 74 [])) [(.t 5),(.t 6)],none,0⟩,⟨some 8,.bin .geq (.t 7) (.c (.int .i64 0)),none,0⟩,⟨some 4,.mv (.t 8),none,0⟩]) .ret)
def x68:XFn:=⟨(.seq (.reg false [⟨some 4,.mv (.c (.bool false)),none,0⟩]) qr3),9,[(.t 4)]⟩
theorem qzs:FnOk Try.prog T 68 x68:=⟨Try.f68,[],Try.func68,by decide +kernel,by kernel_rfl⟩
def qq6:XCode:=(.cond (.t 15) (.seq (.reg false [⟨some 16,.mv (.t 0),none,0⟩,⟨some 5,.mv (.t 16),none,0⟩,⟨some 6,.mv (.c (.bool true)),none,0⟩]) .ret) .skip)
def qq4:XCode:=(.cond (.t 49) (.seq (.reg false [⟨some 50,.mv (.t 9),none,0⟩,⟨some 5,.mv (.t 50),none,0⟩,⟨some 6,.mv (.c (.bool true)),none,0⟩]) .ret) .skip)
def qrd:XCode:=(.seq (.reg false [⟨some 49,.mv (.t 10),none,0⟩]) qq4)
def qwe:XCode:=(.seq (.reg false [⟨some 44,.ld none (.t 3),none,0⟩,⟨some 45,.mv (.t 8),none,0⟩,⟨some 46,.call (.t 44) [(.t 45)],none,0⟩,⟨some 43,.mv (.t 46),none,0⟩,⟨some 47,.ext (.t 43) 0,none,0⟩,⟨some 48,.ext (.t 43) 1,none,0⟩,⟨some 9,.mv (.t 47),none,0⟩,⟨some 10,.mv (.t 48),none,0⟩]) qrd)
def qvn:XCode:=(.seq (.seq (.reg false [⟨some 28,.mv (.t 0),none,0⟩,⟨some 29,.mv (.t 7),none,0⟩,⟨some 30,.call (.c (.fn 68 [])) [(.t 28),(.t 29)],none,0⟩,⟨some 31,.mv (.t 30),none,0⟩,⟨some 32,.ld none (.t 1),(some (31,false)),0⟩,⟨some 33,.mv (.t 8),(some (31,false)),0⟩,⟨some 34,.call (.c (.fn 58 [])) [(.t 32),(.t 33)],(some (31,false)),0⟩,⟨some 35,.un .not (.t 34),(some (31,false)),0⟩,⟨some 36,.pick (.t 31) (.c (.bool true)) (.t 35),none,0⟩,⟨some 37,.mv (.t 36),none,0⟩,⟨some 38,.mv (.t 8),(some (37,false)),0⟩,⟨some 39,.ld none (.t 2),(some (37,false)),0⟩,⟨some 40,.call (.c (.fn 55 [])) [(.t 38),(.t 39)],(some (37,false)),0⟩,⟨some 41,.un .not (.t 40),(some (37,false)),0⟩,⟨some 42,.pick (.t 37) (.c (.bool true)) (.t 41),none,0⟩]) (.cond (.t 42) (.exit 1) .skip)) qwe)
def qtr:XCode:=(.seq (.reg false [⟨some 22,.buildS 3 0 [] [],none,0⟩,⟨some 23,.mv (.t 0),none,0⟩,⟨some 24,.app 3 1 8 (.t 22) (.t 23),none,0⟩,⟨some 25,.mv (.t 7),none,0⟩,⟨some 26,.buildS 3 1 [(.int .i64 0)] [(0,(1,(.t 25)))],none,0⟩,⟨some 27,.app 3 1 8 (.t 24) (.t 26),none,0⟩,⟨some 8,.mv (.t 27),none,0⟩]) qvn)
def qu1:XCode:=(.seq (.reg false [⟨some 21,.mv (.t 19),none,0⟩,⟨some 7,.mv (.t 21),none,0⟩]) qtr)
def qzp:XCode:=(.block 0 (.loop [0,1,2,3,18,19] (.seq (.reg false [⟨some 20,.bin .lss (.t 19) (.t 18),none,0⟩]) (.seq (.cond (.t 20) .skip (.exit 0)) (.seq (.block 1 qu1) (.reg false [⟨some 51,.bin .add (.t 19) (.c (.int .i64 1)),none,0⟩,⟨some 19,.mv (.t 51),none,0⟩]))))))
def qve:XCode:=qzp
def qn4:XCode:=(.seq (.seq (.reg false [⟨some 17,.ld none (.t 1),none,0⟩,⟨some 18,.len (.t 17),none,0⟩,⟨some 19,.mv (.c (.int .i64 0)),none,0⟩]) qve) (.seq (.reg false [⟨some 5,.mv (.c .nil),none,0⟩,⟨some 6,.mv (.c (.bool false)),none,0⟩]) .ret))
def qnr:XCode:=(.seq (.seq (.reg false [⟨some 11,.mv (.t 0),none,0⟩,⟨some 12,.len (.t 11),none,0⟩,⟨some 13,.ld none (.t 1),none,0⟩,⟨some 14,.len (.t 13),none,0⟩,⟨some 15,.bin .eql (.t 12) (.t 14),none,0⟩]) qq6) qn4)
def x67:XFn:=⟨(.seq (.reg false [⟨some 5,.mv (.c .nil),none,0⟩,⟨some 6,.mv (.c (.bool false)),none,0⟩]) qnr),52,[(.t 5),(.t 6)]⟩
theorem q0w:FnOk Try.prog T 67 x67:=⟨Try.f67,[.loop [0,1,2,3,18,19]],Try.func67,by decide +kernel,by kernel_rfl⟩
def qwa:XCode:=(.seq (.reg false [⟨some 8,.ld none (.t 6),none,0⟩,⟨some 9,.buildS 3 0 [] [],none,0⟩,⟨some 10,.call (.t 8) [(.t 9)],none,0⟩,⟨some 11,.ext (.t 10) 0,none,0⟩,⟨some 12,.ext (.t 10) 1,none,0⟩,⟨some 4,.mv (.t 11),none,0⟩,⟨some 5,.mv (.t 12),none,0⟩]) .ret)
def qu3:XCode:=(.seq (.reg false [⟨some 7,.mkF 67 [(.t 2),(.t 3),(.t 6)],none,0⟩,⟨none,.st 1 (.t 6) (.t 7),none,0⟩]) qwa)
def qtk:XCode:=(.seq (.reg false [⟨some 6,.new 79 [.nilfn],none,0⟩]) qu3)
def x49:XFn:=⟨(.seq (.seq (.reg false [⟨some 2,.box 24 1 (.t 0),none,0⟩,⟨some 3,.box 63 1 (.t 1),none,0⟩,⟨some 4,.mv (.c .nil),none,0⟩,⟨some 5,.mv (.c (.bool false)),none,0⟩]) (.frz [2,3])) qtk),13,[(.t 4),(.t 5)]⟩
theorem qz9:FnOk Try.prog T 49 x49:=⟨Try.f49,[.frz [2,3]],Try.func49,by decide +kernel,by kernel_rfl⟩
def qwi:XCode:=(.seq (.reg true [⟨some 6,.ld none (.t 2),none,4⟩,⟨some 7,.mv (.t 1),none,4⟩,⟨some 8,.ia 6 (.t 6) (.t 7),none,4⟩,⟨some 9,.fa 5 (.t 8),none,4⟩,⟨some 10,.ld none (.t 9),none,4⟩,⟨some 11,.ld none (.t 2),none,4⟩,⟨some 12,.mv (.t 0),none,4⟩,⟨some 13,.ia 6 (.t 11) (.t 12),none,4⟩,⟨some 14,.fa 4 (.t 13),none,4⟩,⟨some 15,.ld none (.t 14),none,4⟩,⟨some 16,.bin .gtr (.t 10) (.t 15),none,4⟩,⟨some 5,.mv (.t 16),none,4⟩]) .ret)
def x69:XFn:=⟨(.seq (.reg false [⟨some 5,.mv (.c (.bool false)),none,0⟩]) qwi),17,[(.t 5)]⟩
theorem qz2:FnOk Try.prog T 69 x69:=⟨Try.f69,[.draw [0,1,2,3,4,5,6,7,8,9,10,11] [4,4,4,4,4,4,4,4,4,4,4,4]],Try.func69,by decide +kernel,by kernel_rfl⟩

def x51:XFn:=⟨(.seq (.seq (.reg false [⟨some 1,.box 24 1 (.t 0),none,0⟩,⟨some 2,.mv (.c .nilfn),none,0⟩]) (.frz [1])) (.seq (.reg false [⟨some 3,.mkF 69 [(.t 1)],none,0⟩,⟨some 2,.mv (.t 3),none,0⟩]) .ret)),4,[(.t 2)]⟩
theorem q0q:FnOk Try.prog T 51 x51:=⟨Try.f51,[.frz [1]],Try.func51,by decide +kernel,by kernel_rfl⟩
def qsq:XCode:=(.cond (.t 6) (.seq (.reg false [⟨some 2,.mv (.c .nil),none,0⟩,⟨some 3,.mv (.c (.bool false)),none,0⟩]) .ret) .skip)
def qu0:XCode:=(.seq (.reg false [⟨some 7,.mv (.t 0),none,0⟩,⟨some 8,.mv (.t 0),none,0⟩,⟨some 9,.call (.c (.fn 51 [])) [(.t 8)],none,0⟩,⟨some 10,.call (.c (.fn 49 [])) [(.t 7),(.t 9)],none,0⟩,⟨some 11,.ext (.t 10) 0,none,0⟩,⟨some 12,.ext (.t 10) 1,none,0⟩,⟨some 2,.mv (.t 11),none,0⟩,⟨some 3,.mv (.t 12),none,0⟩]) .ret)
def qq0:XCode:=(.seq (.seq (.reg false [⟨some 4,.mv (.t 0),none,0⟩,⟨some 5,.call (.c (.fn 43 [])) [(.t 4)],none,0⟩,⟨some 6,.un .not (.t 5),none,0⟩]) qsq) qu0)
def x23:XFn:=⟨(.seq (.reg false [⟨some 2,.mv (.c .nil),none,0⟩,⟨some 3,.mv (.c (.bool false)),none,0⟩]) qq0),13,[(.t 2),(.t 3)]⟩
theorem q0l:FnOk Try.prog T 23 x23:=⟨Try.f23,[],Try.func23,by decide +kernel,by kernel_rfl⟩
def qvf:XCode:=(.seq (.reg false [⟨some 13,.mv (.t 6),none,0⟩,⟨some 14,.mv (.t 1),none,0⟩,⟨some 15,.bin .eql (.t 13) (.t 14),none,0⟩]) (.cond (.t 15) (.seq (.reg false [⟨some 4,.mv (.c (.bool true)),none,0⟩]) .ret) .skip))
def qu4:XCode:=(.seq (.reg false [⟨some 11,.ia 1 (.t 7) (.t 9),none,0⟩,⟨some 12,.ld none (.t 11),none,0⟩,⟨some 6,.mv (.t 12),none,0⟩]) qvf)
def qyx:XCode:=(.block 0 (.loop [1,7,8,9] (.seq (.reg false [⟨some 10,.bin .lss (.t 9) (.t 8),none,0⟩]) (.seq (.cond (.t 10) .skip (.exit 0)) (.seq (.block 1 qu4) (.reg false [⟨some 16,.bin .add (.t 9) (.c (.int .i64 1)),none,0⟩,⟨some 9,.mv (.t 16),none,0⟩]))))))
def que:XCode:=qyx
def qs4:XCode:=(.seq (.seq (.reg false [⟨some 7,.mv (.t 0),none,0⟩,⟨some 8,.len (.t 7),none,0⟩,⟨some 9,.mv (.c (.int .i64 0)),none,0⟩]) que) (.seq (.reg false [⟨some 4,.mv (.c (.bool false)),none,0⟩]) .ret))
def x66:XFn:=⟨(.seq (.reg false [⟨some 4,.mv (.c (.bool false)),none,0⟩]) qs4),17,[(.t 4)]⟩
theorem qz3:FnOk Try.prog T 66 x66:=⟨Try.f66,[.loop [1,7,8,9]],Try.func66,by decide +kernel,by kernel_rfl⟩
def qwg:XCode:=(.seq (.reg false [⟨some 14,.mv (.t 6),none,0⟩,⟨some 15,.bin .lss (.t 14) (.c (.int .i64 0)),none,0⟩,⟨some 16,.mv (.t 15),none,0⟩,⟨some 17,.mv (.t 6),(some (16,false)),0⟩,⟨some 18,.mv (.t 0),(some (16,false)),0⟩,⟨some 19,.bin .geq (.t 17) (.t 18),(some (16,false)),0⟩,⟨some 20,.pick (.t 16) (.c (.bool true)) (.t 19),none,0⟩,⟨some 21,.mv (.t 20),none,0⟩,⟨some 22,.mv (.t 1),(some (21,false)),0⟩,⟨some 23,.mv (.t 5),(some (21,false)),0⟩,⟨some 24,.slc 3 1 (.t 22) none (some (.t 23)) none,(some (21,false)),0⟩,⟨some 25,.mv (.t 6),(some (21,false)),0⟩,⟨some 26,.call (.c (.fn 66 [])) [(.t 24),(.t 25)],(some (21,false)),0⟩,⟨some 27,.pick (.t 21) (.c (.bool true)) (.t 26),none,0⟩]) (.cond (.t 27) (.seq (.reg false [⟨some 4,.mv (.c (.bool false)),none,0⟩]) .ret) .skip))
def qvr:XCode:=(.seq (.reg false [⟨some 11,.mv (.t 9),none,0⟩,⟨some 12,.ia 1 (.t 7) (.t 9),none,0⟩,⟨some 13,.ld none (.t 12),none,0⟩,⟨some 5,.mv (.t 11),none,0⟩,⟨some 6,.mv (.t 13),none,0⟩]) qwg)
def qyy:XCode:=(.block 0 (.loop [0,1,7,8,9] (.seq (.reg false [⟨some 10,.bin .lss (.t 9) (.t 8),none,0⟩]) (.seq (.cond (.t 10) .skip (.exit 0)) (.seq (.block 1 qvr) (.reg false [⟨some 28,.bin .add (.t 9) (.c (.int .i64 1)),none,0⟩,⟨some 9,.mv (.t 28),none,0⟩]))))))
def qr7:XCode:=qyy
def qrx:XCode:=(.seq (.reg false [⟨some 29,.mv (.t 1),none,0⟩,⟨some 30,.len (.t 29),none,0⟩,⟨some 31,.mv (.t 0),none,0⟩,⟨some 32,.bin .eql (.t 30) (.t 31),none,0⟩,⟨some 4,.mv (.t 32),none,0⟩]) .ret)
def qs0:XCode:=(.seq (.seq (.reg false [⟨some 7,.mv (.t 1),none,0⟩,⟨some 8,.len (.t 7),none,0⟩,⟨some 9,.mv (.c (.int .i64 0)),none,0⟩]) qr7) qrx)
def x52:XFn:=⟨(.seq (.reg false [⟨some 4,.mv (.c (.bool false)),none,0⟩]) qs0),33,[(.t 4)]⟩
theorem q0i:FnOk Try.prog T 52 x52:=⟨Try.f52,[.loop [0,1,7,8,9]],Try.func52,by decide +kernel,by kernel_rfl⟩
def qrp:XCode:=(.seq (.reg false [⟨some 8,.fa 0 (.t 3),none,0⟩,⟨some 9,.ld none (.t 8),none,0⟩,⟨some 10,.fa 0 (.t 4),none,0⟩,⟨some 11,.ld none (.t 10),none,0⟩,⟨some 12,.bin .eql (.t 9) (.t 11),none,0⟩,⟨some 13,.mv (.t 12),none,0⟩,⟨some 14,.fa 4 (.t 3),(some (13,true)),0⟩,⟨some 15,.ld none (.t 14),(some (13,true)),0⟩,⟨some 16,.fa 4 (.t 4),(some (13,true)),0⟩,⟨some 17,.ld none (.t 16),(some (13,true)),0⟩,⟨some 18,.bin .lss (.t 15) (.t 17),(some (13,true)),0⟩,⟨some 19,.pick (.t 13) (.t 18) (.c (.bool false)),none,0⟩,⟨some 6,.mv (.t 19),none,0⟩]) .ret)
def qub:XCode:=(.cond (.t 7) qrp .skip)
def qrb:XCode:=(.seq (.reg false [⟨some 20,.fa 5 (.t 3),none,0⟩,⟨some 21,.ld none (.t 20),none,0⟩,⟨some 22,.fa 4 (.t 4),none,0⟩,⟨some 23,.ld none (.t 22),none,0⟩,⟨some 24,.bin .leq (.t 21) (.t 23),none,0⟩,⟨some 6,.mv (.t 24),none,0⟩]) .ret)
def qud:XCode:=(.seq (.seq (.reg false [⟨some 7,.mv (.t 2),none,0⟩]) qub) qrb)
def x53:XFn:=⟨(.seq (.seq (.reg false [⟨some 3,.box 55 6 (.t 0),none,0⟩,⟨some 4,.box 55 6 (.t 1),none,0⟩,⟨some 6,.mv (.c (.bool false)),none,0⟩]) (.frz [3,4])) qud),25,[(.t 6)]⟩
theorem q0v:FnOk Try.prog T 53 x53:=⟨Try.f53,[.frz [3,4]],Try.func53,by decide +kernel,by kernel_rfl⟩
def qvq:XCode:=(.cond (.t 19) (.seq (.reg false [⟨some 4,.mv (.c (.bool false)),none,0⟩,⟨some 5,.mv (.c (.bool false)),none,0⟩]) .ret) .skip)
def qs5:XCode:=(.cond (.t 44) (.seq (.reg false [⟨some 4,.mv (.c (.bool false)),none,0⟩,⟨some 5,.mv (.c (.bool true)),none,0⟩]) .ret) .skip)
def qtt:XCode:=(.seq (.reg true [⟨some 36,.mv (.t 0),none,4⟩,⟨some 37,.mv (.t 9),none,4⟩,⟨some 38,.ia 6 (.t 36) (.t 37),none,4⟩,⟨some 39,.ld (some 6) (.t 38),none,4⟩,⟨some 40,.mv (.t 0),none,4⟩,⟨some 41,.mv (.t 7),none,4⟩,⟨some 42,.ia 6 (.t 40) (.t 41),none,4⟩,⟨some 43,.ld (some 6) (.t 42),none,4⟩,⟨some 44,.call (.c (.fn 53 [])) [(.t 39),(.t 43),(.c (.bool false))],none,3⟩]) qs5)
def qtq:XCode:=(.seq (.reg false [⟨some 34,.ia 1 (.t 30) (.t 32),none,0⟩,⟨some 35,.ld none (.t 34),none,0⟩,⟨some 9,.mv (.t 35),none,0⟩]) qtt)
def qyq:XCode:=(.block 2 (.loop [0,1,7,20,21,22,30,31,32] (.seq (.reg false [⟨some 33,.bin .lss (.t 32) (.t 31),none,0⟩]) (.seq (.cond (.t 33) .skip (.exit 2)) (.seq (.block 3 qtq) (.reg false [⟨some 45,.bin .add (.t 32) (.c (.int .i64 1)),none,0⟩,⟨some 32,.mv (.t 45),none,0⟩]))))))
def qrj:XCode:=qyq
def qt0:XCode:=(.seq (.reg false [⟨some 27,.mv (.t 1),none,0⟩,⟨some 28,.mv (.t 6),none,0⟩,⟨some 29,.bin .add (.t 28) (.c (.int .i64 1)),none,0⟩,⟨some 30,.slc 3 1 (.t 27) (some (.t 29)) none none,none,0⟩,⟨some 31,.len (.t 30),none,0⟩,⟨some 32,.mv (.c (.int .i64 0)),none,0⟩]) qrj)
def qsf:XCode:=(.seq (.reg false [⟨some 24,.mv (.t 22),none,0⟩,⟨some 25,.ia 1 (.t 20) (.t 22),none,0⟩,⟨some 26,.ld none (.t 25),none,0⟩,⟨some 6,.mv (.t 24),none,0⟩,⟨some 7,.mv (.t 26),none,0⟩]) qt0)
def qy9:XCode:=(.block 0 (.loop [0,1,20,21,22] (.seq (.reg false [⟨some 23,.bin .lss (.t 22) (.t 21),none,0⟩]) (.seq (.cond (.t 23) .skip (.exit 0)) (.seq (.block 1 qsf) (.reg false [⟨some 46,.bin .add (.t 22) (.c (.int .i64 1)),none,0⟩,⟨some 22,.mv (.t 46),none,0⟩]))))))
def qon:XCode:=qy9
def qnu:XCode:=(.seq (.seq (.reg false [⟨some 20,.mv (.t 1),none,0⟩,⟨some 21,.len (.t 20),none,0⟩,⟨some 22,.mv (.c (.int .i64 0)),none,0⟩]) qon) (.seq (.reg false [⟨some 4,.mv (.c (.bool true)),none,0⟩,⟨some 5,.mv (.c (.bool true)),none,0⟩]) .ret))
def qn2:XCode:=(.seq (.seq (.reg false [⟨some 10,.mv (.t 0),none,0⟩,⟨some 11,.call (.c (.fn 40 [])) [(.t 10)],none,0⟩,⟨some 12,.un .not (.t 11),none,0⟩,⟨some 13,.mv (.t 12),none,0⟩,⟨some 14,.mv (.t 0),(some (13,false)),0⟩,⟨some 15,.len (.t 14),(some (13,false)),0⟩,⟨some 16,.mv (.t 1),(some (13,false)),0⟩,⟨some 17,.call (.c (.fn 52 [])) [(.t 15),(.t 16)],(some (13,false)),0⟩,⟨some 18,.un .not (.t 17),(some (13,false)),0⟩,⟨some 19,.pick (.t 13) (.c (.bool true)) (.t 18),none,0⟩]) qvq) qnu)
def x27:XFn:=⟨(.seq (.reg false [⟨some 4,.mv (.c (.bool false)),none,0⟩,⟨some 5,.mv (.c (.bool false)),none,0⟩]) qn2),47,[(.t 4),(.t 5)]⟩
theorem q0g:FnOk Try.prog T 27 x27:=⟨Try.f27,[.loop [0,1,20,21,22],.loop [0,1,7,20,21,22,30,31,32],.draw [0,1,2,3,4,5,6,7,8] [4,4,4,4,4,4,4,4,3]],Try.func27,by decide +kernel,by kernel_rfl⟩
def qvo:XCode:=(.seq (.reg false [⟨some 14,.mv (.t 6),none,0⟩,⟨some 15,.mv (.t 1),none,0⟩,⟨some 16,.bin .sub (.t 15) (.c (.int .i64 1)),none,0⟩,⟨some 17,.call (.c (.fn 44 [])) [(.t 14),(.c (.int .i64 0)),(.t 16)],none,0⟩,⟨some 18,.un .not (.t 17),none,0⟩,⟨some 19,.mv (.t 18),none,0⟩,⟨some 20,.mv (.t 5),(some (19,false)),0⟩,⟨some 21,.bin .gtr (.t 20) (.c (.int .i64 0)),(some (19,false)),0⟩,⟨some 22,.mv (.t 21),(some (19,false)),0⟩,⟨some 23,.mv (.t 0),(some (22,true)),0⟩,⟨some 24,.mv (.t 5),(some (22,true)),0⟩,⟨some 25,.bin .sub (.t 24) (.c (.int .i64 1)),(some (22,true)),0⟩,⟨some 26,.ia 1 (.t 23) (.t 25),(some (22,true)),0⟩,⟨some 27,.ld none (.t 26),(some (22,true)),0⟩,⟨some 28,.mv (.t 6),(some (22,true)),0⟩,⟨some 29,.bin .geq (.t 27) (.t 28),(some (22,true)),0⟩,⟨some 30,.pick (.t 22) (.t 29) (.c (.bool false)),(some (19,false)),0⟩,⟨some 31,.pick (.t 19) (.c (.bool true)) (.t 30),none,0⟩]) (.cond (.t 31) (.seq (.reg false [⟨some 4,.mv (.c (.bool false)),none,0⟩]) .ret) .skip))
def qvs:XCode:=(.seq (.reg false [⟨some 11,.mv (.t 9),none,0⟩,⟨some 12,.ia 1 (.t 7) (.t 9),none,0⟩,⟨some 13,.ld none (.t 12),none,0⟩,⟨some 5,.mv (.t 11),none,0⟩,⟨some 6,.mv (.t 13),none,0⟩]) qvo)
def qzg:XCode:=(.block 0 (.loop [0,1,7,8,9] (.seq (.reg false [⟨some 10,.bin .lss (.t 9) (.t 8),none,0⟩]) (.seq (.cond (.t 10) .skip (.exit 0)) (.seq (.block 1 qvs) (.reg false [⟨some 32,.bin .add (.t 9) (.c (.int .i64 1)),none,0⟩,⟨some 9,.mv (.t 32),none,0⟩]))))))
def qtn:XCode:=qzg
def qt1:XCode:=(.seq (.seq (.reg false [⟨some 7,.mv (.t 0),none,0⟩,⟨some 8,.len (.t 7),none,0⟩,⟨some 9,.mv (.c (.int .i64 0)),none,0⟩]) qtn) (.seq (.reg false [⟨some 4,.mv (.c (.bool true)),none,0⟩]) .ret))
def x71:XFn:=⟨(.seq (.reg false [⟨some 4,.mv (.c (.bool false)),none,0⟩]) qt1),33,[(.t 4)]⟩
theorem qz0:FnOk Try.prog T 71 x71:=⟨Try.f71,[.loop [0,1,7,8,9]],Try.func71,by decide +kernel,by kernel_rfl⟩
def qsm:XCode:=(.seq (.reg false [⟨some 11,.mv (.t 1),none,0⟩,⟨some 12,.len (.t 11),none,0⟩,⟨some 13,.mv (.t 0),none,0⟩,⟨some 14,.len (.t 13),none,0⟩,⟨some 15,.bin .eql (.t 12) (.t 14),none,0⟩,⟨some 16,.mv (.t 15),none,0⟩,⟨some 17,.mv (.t 5),(some (16,true)),0⟩,⟨some 18,.mv (.t 0),(some (16,true)),0⟩,⟨some 19,.len (.t 18),(some (16,true)),0⟩,⟨some 20,.call (.c (.fn 71 [])) [(.t 17),(.t 19)],(some (16,true)),0⟩,⟨some 21,.pick (.t 16) (.t 20) (.c (.bool false)),none,0⟩,⟨some 4,.mv (.t 21),none,0⟩]) .ret)
def qsx:XCode:=(.seq (.reg false [⟨some 9,.mv (.t 5),none,0⟩,⟨some 10,.call (.c (.fn 70 [])) [(.t 9)],none,0⟩]) qsm)
def qv1:XCode:=(.seq (.reg false [⟨some 6,.buildS 3 0 [] [],none,0⟩,⟨some 7,.mv (.t 1),none,0⟩,⟨some 8,.app 3 1 8 (.t 6) (.t 7),none,0⟩,⟨some 5,.mv (.t 8),none,0⟩]) qsx)
def x54:XFn:=⟨(.seq (.reg false [⟨some 4,.mv (.c (.bool false)),none,0⟩]) qv1),22,[(.t 4)]⟩
theorem q0s:FnOk Try.prog T 54 x54:=⟨Try.f54,[],Try.func54,by decide +kernel,by kernel_rfl⟩
def qr9:XCode:=(.seq (.reg true [⟨some 6,.ld none (.t 2),none,4⟩,⟨some 7,.mv (.t 1),none,4⟩,⟨some 8,.ia 6 (.t 6) (.t 7),none,4⟩,⟨some 9,.fa 5 (.t 8),none,4⟩,⟨some 10,.ld none (.t 9),none,4⟩,⟨some 11,.ld none (.t 2),none,4⟩,⟨some 12,.mv (.t 0),none,4⟩,⟨some 13,.ia 6 (.t 11) (.t 12),none,4⟩,⟨some 14,.fa 4 (.t 13),none,4⟩,⟨some 15,.ld none (.t 14),none,4⟩,⟨some 16,.bin .gtr (.t 10) (.t 15),none,4⟩,⟨some 5,.mv (.t 16),none,4⟩]) .ret)
def x56:XFn:=⟨(.seq (.reg false [⟨some 5,.mv (.c (.bool false)),none,0⟩]) qr9),17,[(.t 5)]⟩
theorem qz7:FnOk Try.prog T 56 x56:=⟨Try.f56,[.draw [0,1,2,3,4,5,6,7,8,9,10,11] [4,4,4,4,4,4,4,4,4,4,4,4]],Try.func56,by decide +kernel,by kernel_rfl⟩
def qvl:XCode:=(.cond (.t 14) (.seq (.reg false [⟨some 4,.mv (.c (.bool false)),none,0⟩,⟨some 5,.mv (.c (.bool false)),none,0⟩]) .ret) .skip)
def qwd:XCode:=(.seq (.reg false [⟨some 15,.mv (.t 1),none,0⟩,⟨some 16,.mkF 56 [(.t 2)],none,0⟩,⟨some 17,.call (.c (.fn 55 [])) [(.t 15),(.t 16)],none,0⟩,⟨some 4,.mv (.t 17),none,0⟩,⟨some 5,.mv (.c (.bool true)),none,0⟩]) .ret)
def qvk:XCode:=(.seq (.seq (.reg false [⟨some 6,.ld none (.t 2),none,0⟩,⟨some 7,.call (.c (.fn 43 [])) [(.t 6)],none,0⟩,⟨some 8,.un .not (.t 7),none,0⟩,⟨some 9,.mv (.t 8),none,0⟩,⟨some 10,.ld none (.t 2),(some (9,false)),0⟩,⟨some 11,.mv (.t 1),(some (9,false)),0⟩,⟨some 12,.call (.c (.fn 54 [])) [(.t 10),(.t 11)],(some (9,false)),0⟩,⟨some 13,.un .not (.t 12),(some (9,false)),0⟩,⟨some 14,.pick (.t 9) (.c (.bool true)) (.t 13),none,0⟩]) qvl) qwd)
def x29:XFn:=⟨(.seq (.seq (.reg false [⟨some 2,.box 24 1 (.t 0),none,0⟩,⟨some 4,.mv (.c (.bool false)),none,0⟩,⟨some 5,.mv (.c (.bool false)),none,0⟩]) (.frz [2])) qvk),18,[(.t 4),(.t 5)]⟩
theorem q0a:FnOk Try.prog T 29 x29:=⟨Try.f29,[.frz [2]],Try.func29,by decide +kernel,by kernel_rfl⟩
def qq5:XCode:=(.reg false [⟨some 22,.mv (.t 5),none,0⟩,⟨some 23,.fa 1 (.t 8),none,0⟩,⟨some 24,.ld none (.t 23),none,0⟩,⟨some 25,.fa 3 (.t 8),none,0⟩,⟨some 26,.ld none (.t 25),none,0⟩,⟨some 27,.ia 1 (.t 22) (.t 24),none,0⟩,⟨none,.st 1 (.t 27) (.t 26),none,0⟩])
def qvb:XCode:=(.seq (.reg true [⟨some 28,.mv (.t 5),none,4⟩,⟨some 29,.fa 1 (.t 8),none,4⟩,⟨some 30,.ld none (.t 29),none,4⟩,⟨some 31,.ia 1 (.t 28) (.t 30),none,4⟩,⟨some 32,.ld none (.t 31),none,4⟩,⟨some 33,.fa 3 (.t 8),none,4⟩,⟨some 34,.ld none (.t 33),none,4⟩,⟨some 35,.bin .neq (.t 32) (.t 34),none,4⟩]) (.cond (.t 35) (.seq (.reg false [⟨some 4,.mv (.c (.bool false)),none,0⟩]) .ret) .skip))
def qvi:XCode:=(.cond (.t 21) qq5 qvb)
def qu7:XCode:=(.seq (.reg false [⟨some 20,.fa 2 (.t 8),none,0⟩,⟨some 21,.ld none (.t 20),none,0⟩]) qvi)
def qvu:XCode:=(.seq (.seq (.reg false [⟨some 16,.mv (.t 0),none,0⟩,⟨some 17,.mv (.t 7),none,0⟩,⟨some 18,.ia 6 (.t 16) (.t 17),none,0⟩,⟨some 19,.ld (some 6) (.t 18),none,0⟩,⟨some 8,.new 55 [(.int .i64 0),(.int .i64 0),(.bool false),(.int .i64 0),(.int .i64 0),(.int .i64 0)],none,0⟩,⟨none,.st 6 (.t 8) (.t 19),none,0⟩]) (.frz [8])) qu7)
def qur:XCode:=(.seq (.reg false [⟨some 14,.ia 1 (.t 10) (.t 12),none,0⟩,⟨some 15,.ld none (.t 14),none,0⟩,⟨some 7,.mv (.t 15),none,0⟩]) qvu)
def qzn:XCode:=(.block 0 (.loop [0,5,10,11,12] (.seq (.reg false [⟨some 13,.bin .lss (.t 12) (.t 11),none,0⟩]) (.seq (.cond (.t 13) .skip (.exit 0)) (.seq (.block 1 qur) (.reg false [⟨some 36,.bin .add (.t 12) (.c (.int .i64 1)),none,0⟩,⟨some 12,.mv (.t 36),none,0⟩]))))))
def qwf:XCode:=qzn
def qt7:XCode:=(.seq (.seq (.reg false [⟨some 10,.mv (.t 1),none,0⟩,⟨some 11,.len (.t 10),none,0⟩,⟨some 12,.mv (.c (.int .i64 0)),none,0⟩]) qwf) (.seq (.reg false [⟨some 4,.mv (.c (.bool true)),none,0⟩]) .ret))
def qog:XCode:=(.seq (.reg false [⟨some 9,.mkS 3 1 8 [(.int .i64 0)] (.c (.int .i64 3)) (.c (.int .i64 3)),none,0⟩,⟨some 5,.mv (.t 9),none,0⟩]) qt7)
def x57:XFn:=⟨(.seq (.reg false [⟨some 4,.mv (.c (.bool false)),none,0⟩]) qog),37,[(.t 4)]⟩
theorem q0c:FnOk Try.prog T 57 x57:=⟨Try.f57,[.loop [0,5,10,11,12],.frz [],.frz [],.frz [8],.draw [0,1,2,3,4,5,6,7] [4,4,4,4,4,4,4,4]],Try.func57,by decide +kernel,by kernel_rfl⟩
def qvz:XCode:=(.cond (.t 15) (.seq (.reg false [⟨some 4,.mv (.c (.bool false)),none,0⟩,⟨some 5,.mv (.c (.bool false)),none,0⟩]) .ret) .skip)
def qrg:XCode:=(.seq (.reg false [⟨some 16,.mv (.t 0),none,0⟩,⟨some 17,.mv (.t 1),none,0⟩,⟨some 18,.call (.c (.fn 57 [])) [(.t 16),(.t 17)],none,0⟩,⟨some 4,.mv (.t 18),none,0⟩,⟨some 5,.mv (.c (.bool true)),none,0⟩]) .ret)
def qv9:XCode:=(.seq (.seq (.reg false [⟨some 6,.mv (.t 0),none,0⟩,⟨some 7,.call (.c (.fn 40 [])) [(.t 6)],none,0⟩,⟨some 8,.un .not (.t 7),none,0⟩,⟨some 9,.mv (.t 8),none,0⟩,⟨some 10,.mv (.t 0),(some (9,false)),0⟩,⟨some 11,.len (.t 10),(some (9,false)),0⟩,⟨some 12,.mv (.t 1),(some (9,false)),0⟩,⟨some 13,.call (.c (.fn 52 [])) [(.t 11),(.t 12)],(some (9,false)),0⟩,⟨some 14,.un .not (.t 13),(some (9,false)),0⟩,⟨some 15,.pick (.t 9) (.c (.bool true)) (.t 14),none,0⟩]) qvz) qrg)
def x30:XFn:=⟨(.seq (.reg false [⟨some 4,.mv (.c (.bool false)),none,0⟩,⟨some 5,.mv (.c (.bool false)),none,0⟩]) qv9),19,[(.t 4),(.t 5)]⟩
theorem qz6:FnOk Try.prog T 30 x30:=⟨Try.f30,[],Try.func30,by decide +kernel,by kernel_rfl⟩
def quc:XCode:=(.cond (.t 14) (.seq (.reg false [⟨some 4,.mv (.c (.bool false)),none,0⟩,⟨some 5,.mv (.c (.bool false)),none,0⟩]) .ret) .skip)
def qta:XCode:=(.seq (.reg false [⟨some 15,.mv (.t 0),none,0⟩,⟨some 16,.mv (.t 1),none,0⟩,⟨some 17,.call (.c (.fn 58 [])) [(.t 15),(.t 16)],none,0⟩,⟨some 4,.mv (.t 17),none,0⟩,⟨some 5,.mv (.c (.bool true)),none,0⟩]) .ret)
def quk:XCode:=(.seq (.seq (.reg false [⟨some 6,.mv (.t 0),none,0⟩,⟨some 7,.call (.c (.fn 43 [])) [(.t 6)],none,0⟩,⟨some 8,.un .not (.t 7),none,0⟩,⟨some 9,.mv (.t 8),none,0⟩,⟨some 10,.mv (.t 0),(some (9,false)),0⟩,⟨some 11,.mv (.t 1),(some (9,false)),0⟩,⟨some 12,.call (.c (.fn 54 [])) [(.t 10),(.t 11)],(some (9,false)),0⟩,⟨some 13,.un .not (.t 12),(some (9,false)),0⟩,⟨some 14,.pick (.t 9) (.c (.bool true)) (.t 13),none,0⟩]) quc) qta)
def x31:XFn:=⟨(.seq (.reg false [⟨some 4,.mv (.c (.bool false)),none,0⟩,⟨some 5,.mv (.c (.bool false)),none,0⟩]) quk),18,[(.t 4),(.t 5)]⟩
theorem q0h:FnOk Try.prog T 31 x31:=⟨Try.f31,[],Try.func31,by decide +kernel,by kernel_rfl⟩
def qtw:XCode:=(.cond (.t 11) (.seq (.reg false [⟨some 2,.mv (.c (.int .i64 0)),none,0⟩,⟨some 3,.mv (.c (.bool false)),none,0⟩]) .ret) .skip)
def qq3:XCode:=(.cond (.t 38) (.reg false [⟨some 39,.mv (.t 4),none,0⟩,⟨some 40,.bin .add (.t 39) (.c (.int .i64 1)),none,0⟩,⟨some 4,.mv (.t 40),none,0⟩]) .skip)
def qvg:XCode:=(.seq (.reg false [⟨some 27,.fa 4 (.t 6),none,0⟩,⟨some 28,.ld none (.t 27),none,0⟩,⟨some 29,.fa 5 (.t 8),none,0⟩,⟨some 30,.ld none (.t 29),none,0⟩,⟨some 31,.bin .lss (.t 28) (.t 30),none,0⟩,⟨some 32,.mv (.t 31),none,0⟩,⟨some 33,.fa 4 (.t 8),(some (32,true)),0⟩,⟨some 34,.ld none (.t 33),(some (32,true)),0⟩,⟨some 35,.fa 5 (.t 6),(some (32,true)),0⟩,⟨some 36,.ld none (.t 35),(some (32,true)),0⟩,⟨some 37,.bin .lss (.t 34) (.t 36),(some (32,true)),0⟩,⟨some 38,.pick (.t 32) (.t 37) (.c (.bool false)),none,0⟩]) qq3)
def qto:XCode:=(.seq (.seq (.reg false [⟨some 25,.ia 6 (.t 21) (.t 23),none,0⟩,⟨some 26,.ld (some 6) (.t 25),none,0⟩,⟨some 8,.new 55 [(.int .i64 0),(.int .i64 0),(.bool false),(.int .i64 0),(.int .i64 0),(.int .i64 0)],none,0⟩,⟨none,.st 6 (.t 8) (.t 26),none,0⟩]) (.frz [8])) qvg)
def qzc:XCode:=(.block 2 (.loop [0,4,6,12,13,14,21,22,23] (.seq (.reg false [⟨some 24,.bin .lss (.t 23) (.t 22),none,0⟩]) (.seq (.cond (.t 24) .skip (.exit 2)) (.seq (.block 3 qto) (.reg false [⟨some 41,.bin .add (.t 23) (.c (.int .i64 1)),none,0⟩,⟨some 23,.mv (.t 41),none,0⟩]))))))
def quq:XCode:=qzc
def qsy:XCode:=(.seq (.reg false [⟨some 19,.mv (.t 0),none,0⟩,⟨some 20,.mv (.t 5),none,0⟩,⟨some 21,.slc 55 6 (.t 19) none (some (.t 20)) none,none,0⟩,⟨some 22,.len (.t 21),none,0⟩,⟨some 23,.mv (.c (.int .i64 0)),none,0⟩]) quq)
def qst:XCode:=(.seq (.seq (.reg false [⟨some 16,.mv (.t 14),none,0⟩,⟨some 17,.ia 6 (.t 12) (.t 14),none,0⟩,⟨some 18,.ld (some 6) (.t 17),none,0⟩,⟨some 6,.new 55 [(.int .i64 0),(.int .i64 0),(.bool false),(.int .i64 0),(.int .i64 0),(.int .i64 0)],none,0⟩,⟨some 5,.mv (.t 16),none,0⟩,⟨none,.st 6 (.t 6) (.t 18),none,0⟩]) (.frz [6])) qsy)
def qzb:XCode:=(.block 0 (.loop [0,4,12,13,14] (.seq (.reg false [⟨some 15,.bin .lss (.t 14) (.t 13),none,0⟩]) (.seq (.cond (.t 15) .skip (.exit 0)) (.seq (.block 1 qst) (.reg false [⟨some 42,.bin .add (.t 14) (.c (.int .i64 1)),none,0⟩,⟨some 14,.mv (.t 42),none,0⟩]))))))
def qm3:XCode:=qzb
def qop:XCode:=(.seq (.seq (.reg false [⟨some 12,.mv (.t 0),none,0⟩,⟨some 13,.len (.t 12),none,0⟩,⟨some 14,.mv (.c (.int .i64 0)),none,0⟩]) qm3) (.seq (.reg false [⟨some 43,.mv (.t 4),none,0⟩,⟨some 2,.mv (.t 43),none,0⟩,⟨some 3,.mv (.c (.bool true)),none,0⟩]) .ret))
def qn3:XCode:=(.seq (.reg false [⟨some 4,.mv (.c (.int .i64 0)),none,0⟩]) qop)
def qlm:XCode:=(.seq (.seq (.reg false [⟨some 9,.mv (.t 0),none,0⟩,⟨some 10,.call (.c (.fn 43 [])) [(.t 9)],none,0⟩,⟨some 11,.un .not (.t 10),none,0⟩]) qtw) qn3)
def x33:XFn:=⟨(.seq (.reg false [⟨some 2,.mv (.c (.int .i64 0)),none,0⟩,⟨some 3,.mv (.c (.bool false)),none,0⟩]) qlm),44,[(.t 2),(.t 3)]⟩
theorem q0j:FnOk Try.prog T 33 x33:=⟨Try.f33,[.loop [0,4,12,13,14],.frz [],.frz [6],.loop [0,4,6,12,13,14,21,22,23],.frz [],.frz [8]],Try.func33,by decide +kernel,by kernel_rfl⟩
def qvm:XCode:=(.cond (.t 21) (.seq (.reg false [⟨some 22,.mv (.t 1),none,0⟩,⟨some 6,.mv (.t 22),none,0⟩]) .ret) .skip)
def qt9:XCode:=(.seq (.reg false [⟨some 41,.mv (.t 10),none,0⟩,⟨some 42,.mv (.t 7),none,0⟩,⟨some 43,.bin .neq (.t 41) (.t 42),none,0⟩,⟨some 44,.mv (.t 43),none,0⟩,⟨some 45,.mv (.t 1),(some (44,true)),0⟩,⟨some 46,.mv (.t 10),(some (44,true)),0⟩,⟨some 47,.call (.c (.fn 66 [])) [(.t 45),(.t 46)],(some (44,true)),0⟩,⟨some 48,.un .not (.t 47),(some (44,true)),0⟩,⟨some 49,.pick (.t 44) (.t 48) (.c (.bool false)),none,0⟩,⟨some 50,.mv (.t 49),none,0⟩,⟨some 51,.ld (some 6) (.t 11),(some (50,true)),0⟩,⟨some 52,.ld (some 6) (.t 8),(some (50,true)),0⟩,⟨some 53,.mv (.t 2),(some (50,true)),0⟩,⟨some 54,.call (.c (.fn 53 [])) [(.t 51),(.t 52),(.t 53)],(some (50,true)),0⟩,⟨some 55,.pick (.t 50) (.t 54) (.c (.bool false)),none,0⟩]) (.cond (.t 55) (.reg false [⟨some 9,.mv (.c (.bool false)),none,0⟩]) .skip))
def qr2:XCode:=(.seq (.seq (.reg false [⟨some 38,.mv (.t 36),none,0⟩,⟨some 39,.ia 6 (.t 34) (.t 36),none,0⟩,⟨some 40,.ld (some 6) (.t 39),none,0⟩,⟨some 11,.new 55 [(.int .i64 0),(.int .i64 0),(.bool false),(.int .i64 0),(.int .i64 0),(.int .i64 0)],none,0⟩,⟨some 10,.mv (.t 38),none,0⟩,⟨none,.st 6 (.t 11) (.t 40),none,0⟩]) (.frz [11])) qt9)
def qy0:XCode:=(.block 2 (.loop [0,1,2,7,8,9,23,24,25,34,35,36] (.seq (.reg false [⟨some 37,.bin .lss (.t 36) (.t 35),none,0⟩]) (.seq (.cond (.t 37) .skip (.exit 2)) (.seq (.block 3 qr2) (.reg false [⟨some 56,.bin .add (.t 36) (.c (.int .i64 1)),none,0⟩,⟨some 36,.mv (.t 56),none,0⟩]))))))
def qsg:XCode:=qy0
def qrh:XCode:=(.cond (.t 70) (.seq (.reg false [⟨some 71,.mv (.t 12),none,0⟩,⟨some 6,.mv (.t 71),none,0⟩]) .ret) .skip)
def qvc:XCode:=(.seq (.reg false [⟨some 68,.mv (.t 12),none,0⟩,⟨some 69,.len (.t 68),none,0⟩,⟨some 70,.bin .gtr (.t 69) (.c (.int .i64 0)),none,0⟩]) qrh)
def qrz:XCode:=(.seq (.reg false [⟨some 59,.mv (.t 0),none,0⟩,⟨some 60,.buildS 3 0 [] [],none,0⟩,⟨some 61,.mv (.t 1),none,0⟩,⟨some 62,.app 3 1 8 (.t 60) (.t 61),none,0⟩,⟨some 63,.mv (.t 7),none,0⟩,⟨some 64,.buildS 3 1 [(.int .i64 0)] [(0,(1,(.t 63)))],none,0⟩,⟨some 65,.app 3 1 8 (.t 62) (.t 64),none,0⟩,⟨some 66,.mv (.t 2),none,0⟩,⟨some 67,.call (.c (.fn 48 [])) [(.t 59),(.t 65),(.t 66)],none,0⟩,⟨some 12,.mv (.t 67),none,0⟩]) qvc)
def qt5:XCode:=(.seq (.seq (.reg false [⟨some 57,.mv (.t 9),none,0⟩,⟨some 58,.un .not (.t 57),none,0⟩]) (.cond (.t 58) (.exit 1) .skip)) qrz)
def qo0:XCode:=(.seq (.seq (.reg false [⟨some 34,.mv (.t 0),none,0⟩,⟨some 35,.len (.t 34),none,0⟩,⟨some 36,.mv (.c (.int .i64 0)),none,0⟩]) qsg) qt5)
def qmr:XCode:=(.seq (.reg false [⟨some 30,.mv (.t 1),none,0⟩,⟨some 31,.mv (.t 7),none,0⟩,⟨some 32,.call (.c (.fn 66 [])) [(.t 30),(.t 31)],none,0⟩,⟨some 33,.un .not (.t 32),none,0⟩,⟨some 9,.mv (.t 33),none,0⟩]) qo0)
def qou:XCode:=(.seq (.seq (.reg false [⟨some 27,.mv (.t 25),none,0⟩,⟨some 28,.ia 6 (.t 23) (.t 25),none,0⟩,⟨some 29,.ld (some 6) (.t 28),none,0⟩,⟨some 8,.new 55 [(.int .i64 0),(.int .i64 0),(.bool false),(.int .i64 0),(.int .i64 0),(.int .i64 0)],none,0⟩,⟨some 7,.mv (.t 27),none,0⟩,⟨none,.st 6 (.t 8) (.t 29),none,0⟩]) (.frz [8])) qmr)
def qxn:XCode:=(.block 0 (.loop [0,1,2,23,24,25] (.seq (.reg false [⟨some 26,.bin .lss (.t 25) (.t 24),none,0⟩]) (.seq (.cond (.t 26) .skip (.exit 0)) (.seq (.block 1 qou) (.reg false [⟨some 72,.bin .add (.t 25) (.c (.int .i64 1)),none,0⟩,⟨some 25,.mv (.t 72),none,0⟩]))))))
def ql0:XCode:=qxn
def qoe:XCode:=(.seq (.seq (.reg false [⟨some 23,.mv (.t 0),none,0⟩,⟨some 24,.len (.t 23),none,0⟩,⟨some 25,.mv (.c (.int .i64 0)),none,0⟩]) ql0) (.seq (.reg false [⟨some 6,.mv (.c .nil),none,0⟩]) .ret))
def qm5:XCode:=(.seq (.seq (.reg false [⟨some 17,.mv (.t 1),none,0⟩,⟨some 18,.len (.t 17),none,0⟩,⟨some 19,.mv (.t 0),none,0⟩,⟨some 20,.len (.t 19),none,0⟩,⟨some 21,.bin .eql (.t 18) (.t 20),none,0⟩]) qvm) qoe)
def ql4:XCode:=(.seq (.seq (.reg false [⟨some 13,.mv (.t 0),none,0⟩,⟨some 14,.mv (.t 1),none,0⟩,⟨some 15,.call (.c (.fn 57 [])) [(.t 13),(.t 14)],none,0⟩,⟨some 16,.un .not (.t 15),none,0⟩]) (.cond (.t 16) (.seq (.reg false [⟨some 6,.mv (.c .nil),none,0⟩]) .ret) .skip)) qm5)
def x48:XFn:=⟨(.seq (.reg false [⟨some 6,.mv (.c .nil),none,0⟩]) ql4),73,[(.t 6)]⟩
theorem qz5:FnOk Try.prog T 48 x48:=⟨Try.f48,[.loop [0,1,2,23,24,25],.frz [],.frz [8],.loop [0,1,2,7,8,9,23,24,25,34,35,36],.frz [],.frz [11]],Try.func48,by decide +kernel,by kernel_rfl⟩
def qrr:XCode:=(.cond (.t 7) (.seq (.reg false [⟨some 2,.mv (.c .nil),none,0⟩,⟨some 3,.mv (.c (.bool false)),none,0⟩]) .ret) .skip)
def qri:XCode:=(.cond (.t 14) (.seq (.reg false [⟨some 2,.mv (.c .nil),none,0⟩,⟨some 3,.mv (.c (.bool false)),none,0⟩]) .ret) .skip)
def qu9:XCode:=(.seq (.seq (.reg false [⟨some 10,.mv (.t 4),none,0⟩,⟨some 11,.len (.t 10),none,0⟩,⟨some 12,.mv (.t 0),none,0⟩,⟨some 13,.len (.t 12),none,0⟩,⟨some 14,.bin .neq (.t 11) (.t 13),none,0⟩]) qri) (.seq (.reg false [⟨some 15,.mv (.t 4),none,0⟩,⟨some 2,.mv (.t 15),none,0⟩,⟨some 3,.mv (.c (.bool true)),none,0⟩]) .ret))
def qsb:XCode:=(.seq (.reg false [⟨some 8,.mv (.t 0),none,0⟩,⟨some 9,.call (.c (.fn 48 [])) [(.t 8),(.c .nil),(.c (.bool false))],none,0⟩,⟨some 4,.mv (.t 9),none,0⟩]) qu9)
def qu5:XCode:=(.seq (.seq (.reg false [⟨some 5,.mv (.t 0),none,0⟩,⟨some 6,.call (.c (.fn 40 [])) [(.t 5)],none,0⟩,⟨some 7,.un .not (.t 6),none,0⟩]) qrr) qsb)
def x22:XFn:=⟨(.seq (.reg false [⟨some 2,.mv (.c .nil),none,0⟩,⟨some 3,.mv (.c (.bool false)),none,0⟩]) qu5),16,[(.t 2),(.t 3)]⟩
theorem qzw:FnOk Try.prog T 22 x22:=⟨Try.f22,[],Try.func22,by decide +kernel,by kernel_rfl⟩
def qrf:XCode:=(.reg true [⟨some 14,.mv (.t 0),none,4⟩,⟨some 15,.chk (.t 14),none,4⟩,⟨some 16,.fa 0 (.t 15),none,4⟩,⟨some 17,.ld none (.t 16),none,4⟩,⟨some 18,.mv (.t 0),none,4⟩,⟨some 19,.chk (.t 18),none,4⟩,⟨some 20,.fa 1 (.t 19),none,4⟩,⟨some 21,.ld none (.t 20),none,4⟩,⟨some 22,.ia 1 (.t 17) (.t 21),none,4⟩,⟨some 23,.ld none (.t 22),none,4⟩,⟨some 24,.cvt .i64 (.t 23),none,4⟩,⟨some 3,.mv (.t 24),none,4⟩])
def quw:XCode:=(.cond (.t 13) qrf .skip)
def qvx:XCode:=(.cond (.t 53) (.seq (.reg false [⟨some 54,.mv (.t 3),none,0⟩,⟨some 2,.mv (.t 54),none,0⟩]) .ret) .skip)
def qq9:XCode:=(.seq (.reg false [⟨some 55,.mv (.t 0),none,0⟩,⟨some 56,.chk (.t 55),none,0⟩,⟨some 57,.fa 2 (.t 56),none,0⟩,⟨some 58,.ld none (.t 57),none,0⟩,⟨some 59,.bin .shr (.t 58) (.c (.int .u64 40)),none,0⟩,⟨some 60,.bin .and (.t 59) (.c (.int .u64 255)),none,0⟩,⟨some 61,.cvt .i64 (.t 60),none,0⟩,⟨some 2,.mv (.t 61),none,0⟩]) .ret)
def qs1:XCode:=(.seq (.seq (.reg true [⟨some 44,.mv (.t 0),none,4⟩,⟨some 45,.chk (.t 44),none,4⟩,⟨some 46,.fa 1 (.t 45),none,4⟩,⟨some 47,.ld none (.t 46),none,4⟩,⟨some 48,.mv (.t 0),none,4⟩,⟨some 49,.chk (.t 48),none,4⟩,⟨some 50,.fa 0 (.t 49),none,4⟩,⟨some 51,.ld none (.t 50),none,4⟩,⟨some 52,.len (.t 51),none,4⟩,⟨some 53,.bin .leq (.t 47) (.t 52),none,4⟩]) qvx) qq9)
def qte:XCode:=(.seq (.reg false [⟨some 32,.mv (.t 0),none,0⟩,⟨some 33,.mv (.t 0),none,0⟩,⟨some 34,.chk (.t 33),none,0⟩,⟨some 35,.fa 2 (.t 34),none,0⟩,⟨some 36,.ld none (.t 35),none,0⟩,⟨some 37,.bin .mul (.t 36) (.c (.int .u64 6364136223846793005)),none,0⟩,⟨some 38,.mv (.t 3),none,0⟩,⟨some 39,.cvt .u64 (.t 38),none,0⟩,⟨some 40,.bin .add (.t 37) (.t 39),none,0⟩,⟨some 41,.bin .add (.t 40) (.c (.int .u64 1442695040888963407)),none,0⟩,⟨some 42,.chk (.t 32),none,0⟩,⟨some 43,.fa 2 (.t 42),none,0⟩,⟨none,.st 1 (.t 43) (.t 41),none,0⟩]) qs1)
def qti:XCode:=(.seq (.reg false [⟨some 25,.mv (.t 0),none,0⟩,⟨some 26,.chk (.t 25),none,0⟩,⟨some 27,.fa 1 (.t 26),none,0⟩,⟨some 28,.ld none (.t 27),none,0⟩,⟨some 29,.bin .add (.t 28) (.c (.int .i64 1)),none,0⟩,⟨some 30,.chk (.t 25),none,0⟩,⟨some 31,.fa 1 (.t 30),none,0⟩,⟨none,.st 1 (.t 31) (.t 29),none,0⟩]) qte)
def qts:XCode:=(.seq (.seq (.reg true [⟨some 4,.mv (.t 0),none,4⟩,⟨some 5,.chk (.t 4),none,4⟩,⟨some 6,.fa 1 (.t 5),none,4⟩,⟨some 7,.ld none (.t 6),none,4⟩,⟨some 8,.mv (.t 0),none,4⟩,⟨some 9,.chk (.t 8),none,4⟩,⟨some 10,.fa 0 (.t 9),none,4⟩,⟨some 11,.ld none (.t 10),none,4⟩,⟨some 12,.len (.t 11),none,4⟩,⟨some 13,.bin .lss (.t 7) (.t 12),none,4⟩]) quw) qti)
def qtx:XCode:=(.seq (.reg false [⟨some 3,.mv (.c (.int .i64 0)),none,0⟩]) qts)
def x73:XFn:=⟨(.seq (.reg false [⟨some 2,.mv (.c (.int .i64 0)),none,0⟩]) qtx),62,[(.t 2)]⟩
theorem q0u:FnOk Try.prog T 73 x73:=⟨Try.f73,[.draw [0,1,2,3,4,5,6,7,8,9] [4,4,4,4,4,4,4,4,4,4],.draw [0,1,2,3,4,5,6,7,8,9,10,11] [4,4,4,4,4,4,4,4,4,4,4,4],.draw [0,1,2,3,4,5,6,7,8,9] [4,4,4,4,4,4,4,4,4,4]],Try.func73,by decide +kernel,by kernel_rfl⟩
def quv:XCode:=(.reg false [⟨some 12,.mv (.t 5),none,0⟩,⟨some 13,.bin .mul (.t 12) (.c (.int .i64 256)),none,0⟩,⟨some 14,.mv (.t 0),none,0⟩,⟨some 15,.call (.c (.fn 73 [])) [(.t 14)],none,0⟩,⟨some 16,.bin .add (.t 13) (.t 15),none,0⟩,⟨some 5,.mv (.t 16),none,0⟩])
def quy:XCode:=(.cond (.t 11) quv .skip)
def qlg:XCode:=(.seq (.reg false [⟨some 17,.mv (.t 5),none,0⟩,⟨some 18,.mv (.t 1),none,0⟩,⟨some 19,.bin .rem (.t 17) (.t 18),none,0⟩,⟨some 4,.mv (.t 19),none,0⟩]) .ret)
def qr5:XCode:=(.seq (.seq (.reg false [⟨some 10,.mv (.t 1),none,0⟩,⟨some 11,.bin .gtr (.t 10) (.c (.int .i64 200)),none,0⟩]) quy) qlg)
def qui:XCode:=(.seq (.reg false [⟨some 8,.mv (.t 0),none,0⟩,⟨some 9,.call (.c (.fn 73 [])) [(.t 8)],none,0⟩,⟨some 5,.mv (.t 9),none,0⟩]) qr5)
def qtp:XCode:=(.seq (.seq (.reg false [⟨some 6,.mv (.t 1),none,0⟩,⟨some 7,.bin .leq (.t 6) (.c (.int .i64 1)),none,0⟩]) (.cond (.t 7) (.seq (.reg false [⟨some 4,.mv (.c (.int .i64 0)),none,0⟩]) .ret) .skip)) qui)
def x63:XFn:=⟨(.seq (.reg false [⟨some 4,.mv (.c (.int .i64 0)),none,0⟩]) qtp),20,[(.t 4)]⟩
theorem q0x:FnOk Try.prog T 63 x63:=⟨Try.f63,[],Try.func63,by decide +kernel,by kernel_rfl⟩
def quj:XCode:=(.seq (.reg false [⟨some 5,.mv (.t 0),none,0⟩,⟨some 6,.mv (.t 1),none,0⟩,⟨some 7,.call (.c (.fn 63 [])) [(.t 5),(.t 6)],none,0⟩,⟨some 8,.bin .eql (.t 7) (.c (.int .i64 0)),none,0⟩,⟨some 4,.mv (.t 8),none,0⟩]) .ret)
def x61:XFn:=⟨(.seq (.reg false [⟨some 4,.mv (.c (.bool false)),none,0⟩]) quj),9,[(.t 4)]⟩
theorem q0m:FnOk Try.prog T 61 x61:=⟨Try.f61,[],Try.func61,by decide +kernel,by kernel_rfl⟩
def qth:XCode:=(.seq (.reg false [⟨some 5,.mv (.t 1),none,0⟩,⟨some 6,.mv (.t 0),none,0⟩,⟨some 7,.mv (.t 1),none,0⟩,⟨some 8,.len (.t 7),none,0⟩,⟨some 9,.call (.c (.fn 63 [])) [(.t 6),(.t 8)],none,0⟩,⟨some 10,.ia 1 (.t 5) (.t 9),none,0⟩,⟨some 11,.ld none (.t 10),none,0⟩,⟨some 4,.mv (.t 11),none,0⟩]) .ret)
def x72:XFn:=⟨(.seq (.reg false [⟨some 4,.mv (.c (.int .i64 0)),none,0⟩]) qth),12,[(.t 4)]⟩
theorem qzz:FnOk Try.prog T 72 x72:=⟨Try.f72,[],Try.func72,by decide +kernel,by kernel_rfl⟩
def qqw:XCode:=(.reg false [⟨some 15,.mv (.t 0),none,0⟩,⟨some 16,.call (.c (.fn 63 [])) [(.t 15),(.c (.int .i64 2))],none,0⟩,⟨some 17,.bin .add (.c (.int .i64 7)) (.t 16),none,0⟩,⟨some 7,.mv (.t 17),none,0⟩])
def quh:XCode:=(.cond (.t 14) qqw .skip)
def qv8:XCode:=(.reg false [⟨some 47,.mv (.t 4),none,0⟩,⟨some 48,.fa 0 (.t 8),none,0⟩,⟨some 49,.ld none (.t 48),none,0⟩,⟨some 50,.ia 1 (.t 47) (.t 49),none,0⟩,⟨some 51,.ld none (.t 50),none,0⟩,⟨some 52,.fa 4 (.t 8),none,0⟩,⟨none,.st 1 (.t 52) (.t 51),none,0⟩])
def qq2:XCode:=(.cond (.t 46) qv8 .skip)
def qsk:XCode:=(.reg false [⟨some 65,.mv (.t 6),none,0⟩,⟨some 66,.bin .add (.t 65) (.c (.int .i64 1)),none,0⟩,⟨some 67,.fa 5 (.t 8),none,0⟩,⟨none,.st 1 (.t 67) (.t 66),none,0⟩])
def qs8:XCode:=(.seq (.reg false [⟨some 63,.fa 4 (.t 8),none,0⟩,⟨some 64,.ld none (.t 63),none,0⟩,⟨some 6,.mv (.t 64),none,0⟩]) qsk)
def qsl:XCode:=(.cond (.t 62) qs8 .skip)
def qva:XCode:=(.reg false [⟨some 80,.mv (.t 5),none,0⟩,⟨some 81,.fa 1 (.t 8),none,0⟩,⟨some 82,.ld none (.t 81),none,0⟩,⟨some 83,.fa 3 (.t 8),none,0⟩,⟨some 84,.ld none (.t 83),none,0⟩,⟨some 85,.ia 1 (.t 80) (.t 82),none,0⟩,⟨none,.st 1 (.t 85) (.t 84),none,0⟩])
def qqy:XCode:=(.seq (.reg false [⟨some 76,.mv (.t 0),none,0⟩,⟨some 77,.call (.c (.fn 63 [])) [(.t 76),(.c (.int .i64 4))],none,0⟩,⟨some 78,.bin .add (.c (.int .i64 1)) (.t 77),none,0⟩,⟨some 79,.fa 3 (.t 8),none,0⟩,⟨none,.st 1 (.t 79) (.t 78),none,0⟩]) qva)
def qom:XCode:=(.reg false [⟨some 86,.mv (.t 5),none,0⟩,⟨some 87,.fa 1 (.t 8),none,0⟩,⟨some 88,.ld none (.t 87),none,0⟩,⟨some 89,.ia 1 (.t 86) (.t 88),none,0⟩,⟨some 90,.ld none (.t 89),none,0⟩,⟨some 91,.fa 3 (.t 8),none,0⟩,⟨none,.st 1 (.t 91) (.t 90),none,0⟩])
def qor:XCode:=(.cond (.t 75) qqy qom)
def qo7:XCode:=(.reg false [⟨some 99,.fa 3 (.t 8),none,0⟩,⟨some 100,.ld none (.t 99),none,0⟩,⟨some 101,.bin .add (.t 100) (.c (.int .i64 1)),none,0⟩,⟨some 102,.fa 3 (.t 8),none,0⟩,⟨none,.st 1 (.t 102) (.t 101),none,0⟩])
def qn9:XCode:=(.cond (.t 98) qo7 .skip)
def qmb:XCode:=(.seq (.reg false [⟨some 97,.fa 2 (.t 8),none,0⟩,⟨some 98,.ld none (.t 97),none,0⟩]) qn9)
def qlq:XCode:=(.seq (.reg false [⟨some 94,.mv (.t 0),none,0⟩,⟨some 95,.call (.c (.fn 63 [])) [(.t 94),(.c (.int .i64 5))],none,0⟩,⟨some 96,.fa 3 (.t 8),none,0⟩,⟨none,.st 1 (.t 96) (.t 95),none,0⟩]) qmb)
def qnf:XCode:=(.cond (.t 93) qlq .skip)
def qly:XCode:=(.reg false [⟨some 103,.mv (.t 3),none,0⟩,⟨some 104,.ld (some 6) (.t 8),none,0⟩,⟨some 105,.buildS 55 1 [(.int .i64 0),(.int .i64 0),(.bool false),(.int .i64 0),(.int .i64 0),(.int .i64 0)] [(0,(6,(.t 104)))],none,0⟩,⟨some 106,.app 55 6 48 (.t 103) (.t 105),none,0⟩,⟨some 3,.mv (.t 106),none,0⟩])
def qoj:XCode:=(.seq (.seq (.reg false [⟨some 92,.mv (.t 0),none,0⟩,⟨some 93,.call (.c (.fn 61 [])) [(.t 92),(.c (.int .i64 8))],none,0⟩]) qnf) qly)
def qpb:XCode:=(.seq (.seq (.reg false [⟨some 74,.fa 2 (.t 8),none,0⟩,⟨some 75,.ld none (.t 74),none,0⟩]) qor) qoj)
def qot:XCode:=(.seq (.reg false [⟨some 68,.mv (.t 4),none,0⟩,⟨some 69,.fa 0 (.t 8),none,0⟩,⟨some 70,.ld none (.t 69),none,0⟩,⟨some 71,.fa 5 (.t 8),none,0⟩,⟨some 72,.ld none (.t 71),none,0⟩,⟨some 73,.ia 1 (.t 68) (.t 70),none,0⟩,⟨none,.st 1 (.t 73) (.t 72),none,0⟩]) qpb)
def qoz:XCode:=(.seq (.seq (.reg false [⟨some 59,.fa 4 (.t 8),none,0⟩,⟨some 60,.ld none (.t 59),none,0⟩,⟨some 61,.mv (.t 6),none,0⟩,⟨some 62,.bin .gtr (.t 60) (.t 61),none,0⟩]) qsl) qot)
def qnt:XCode:=(.seq (.reg false [⟨some 53,.mv (.t 6),none,0⟩,⟨some 54,.bin .add (.t 53) (.c (.int .i64 1)),none,0⟩,⟨some 55,.mv (.t 0),none,0⟩,⟨some 56,.call (.c (.fn 63 [])) [(.t 55),(.c (.int .i64 5))],none,0⟩,⟨some 57,.bin .add (.t 54) (.t 56),none,0⟩,⟨some 58,.fa 5 (.t 8),none,0⟩,⟨none,.st 1 (.t 58) (.t 57),none,0⟩]) qoz)
def qn8:XCode:=(.seq (.seq (.reg true [⟨some 39,.fa 4 (.t 8),none,4⟩,⟨some 40,.ld none (.t 39),none,4⟩,⟨some 41,.mv (.t 4),none,4⟩,⟨some 42,.fa 0 (.t 8),none,4⟩,⟨some 43,.ld none (.t 42),none,4⟩,⟨some 44,.ia 1 (.t 41) (.t 43),none,4⟩,⟨some 45,.ld none (.t 44),none,4⟩,⟨some 46,.bin .lss (.t 40) (.t 45),none,4⟩]) qq2) qnt)
def qmn:XCode:=(.seq (.reg false [⟨some 34,.mv (.t 6),none,0⟩,⟨some 35,.mv (.t 0),none,0⟩,⟨some 36,.call (.c (.fn 63 [])) [(.t 35),(.c (.int .i64 4))],none,0⟩,⟨some 37,.bin .sub (.t 34) (.t 36),none,0⟩,⟨some 38,.fa 4 (.t 8),none,0⟩,⟨none,.st 1 (.t 38) (.t 37),none,0⟩]) qn8)
def qnm:XCode:=(.seq (.reg false [⟨some 27,.mv (.t 0),none,0⟩,⟨some 28,.call (.c (.fn 63 [])) [(.t 27),(.c (.int .i64 4))],none,0⟩,⟨some 29,.mv (.t 0),none,0⟩,⟨some 30,.call (.c (.fn 63 [])) [(.t 29),(.c (.int .i64 2))],none,0⟩,⟨some 31,.mv (.t 0),none,0⟩,⟨some 32,.call (.c (.fn 61 [])) [(.t 31),(.c (.int .i64 2))],none,0⟩,⟨some 33,.build [(.int .i64 0),(.int .i64 0),(.bool false),(.int .i64 0),(.int .i64 0),(.int .i64 0)] [(0,(1,(.t 28))),(1,(1,(.t 30))),(2,(1,(.t 32)))],none,0⟩,⟨some 8,.new 55 [(.int .i64 0),(.int .i64 0),(.bool false),(.int .i64 0),(.int .i64 0),(.int .i64 0)],none,0⟩,⟨none,.st 6 (.t 8) (.t 33),none,0⟩]) qmn)
def qox:XCode:=(.seq (.reg false [⟨some 22,.mv (.t 6),none,0⟩,⟨some 23,.mv (.t 0),none,0⟩,⟨some 24,.call (.c (.fn 63 [])) [(.t 23),(.c (.int .i64 4))],none,0⟩,⟨some 25,.bin .add (.c (.int .i64 1)) (.t 24),none,0⟩,⟨some 26,.bin .add (.t 22) (.t 25),none,0⟩,⟨some 6,.mv (.t 26),none,0⟩]) qnm)
def qm7:XCode:=(.seq (.block 1 qox) (.reg false [⟨some 20,.mv (.t 7),none,0⟩,⟨some 21,.bin .sub (.t 20) (.c (.int .i64 1)),none,0⟩,⟨some 7,.mv (.t 21),none,0⟩]))
def qny:XCode:=(.seq (.seq (.reg false [⟨some 18,.mv (.t 7),none,0⟩,⟨some 19,.bin .gtr (.t 18) (.c (.int .i64 0)),none,0⟩]) (.cond (.t 19) .skip (.exit 0))) qm7)
def qmf:XCode:=(.block 0 (.loop [0,3,4,5,6,7] qny))
def qms:XCode:=(.reg false [⟨some 114,.mv (.t 3),none,0⟩,⟨some 115,.mv (.t 0),none,0⟩,⟨some 116,.buildS 3 3 [(.int .i64 0),(.int .i64 0),(.int .i64 0)] [(0,(1,(.c (.int .i64 0)))),(1,(1,(.c (.int .i64 100)))),(2,(1,(.c (.int .i64 101))))],none,0⟩,⟨some 117,.call (.c (.fn 72 [])) [(.t 115),(.t 116)],none,0⟩,⟨some 118,.ia 6 (.t 114) (.c (.int .i64 0)),none,0⟩,⟨some 119,.fa 5 (.t 118),none,0⟩,⟨none,.st 1 (.t 119) (.t 117),none,0⟩])
def qlz:XCode:=(.cond (.t 113) qms .skip)
def qma:XCode:=(.seq (.seq (.reg false [⟨some 107,.mv (.t 3),none,0⟩,⟨some 108,.len (.t 107),none,0⟩,⟨some 109,.bin .gtr (.t 108) (.c (.int .i64 0)),none,0⟩,⟨some 110,.mv (.t 109),none,0⟩,⟨some 111,.mv (.t 0),(some (110,true)),0⟩,⟨some 112,.call (.c (.fn 61 [])) [(.t 111),(.c (.int .i64 30))],(some (110,true)),0⟩,⟨some 113,.pick (.t 110) (.t 112) (.c (.bool false)),none,0⟩]) qlz) (.seq (.reg false [⟨some 120,.mv (.t 3),none,0⟩,⟨some 2,.mv (.t 120),none,0⟩]) .ret))
def qoi:XCode:=(.seq qmf qma)
def qn0:XCode:=(.seq (.seq (.reg false [⟨some 13,.mv (.t 0),none,0⟩,⟨some 14,.call (.c (.fn 61 [])) [(.t 13),(.c (.int .i64 20))],none,0⟩]) quh) qoi)
def ql8:XCode:=(.seq (.reg false [⟨some 11,.mv (.t 0),none,0⟩,⟨some 12,.call (.c (.fn 63 [])) [(.t 11),(.c (.int .i64 8))],none,0⟩,⟨some 7,.mv (.t 12),none,0⟩]) qn0)
def qme:XCode:=(.seq (.reg false [⟨some 6,.mv (.c (.int .i64 0)),none,0⟩]) ql8)
def qni:XCode:=(.seq (.reg false [⟨some 10,.mkS 3 1 8 [(.int .i64 0)] (.c (.int .i64 3)) (.c (.int .i64 3)),none,0⟩,⟨some 5,.mv (.t 10),none,0⟩]) qme)
def qlu:XCode:=(.seq (.reg false [⟨some 9,.mkS 3 1 8 [(.int .i64 0)] (.c (.int .i64 4)) (.c (.int .i64 4)),none,0⟩,⟨some 4,.mv (.t 9),none,0⟩]) qni)
def qmy:XCode:=(.seq (.reg false [⟨some 3,.mv (.c .nil),none,0⟩]) qlu)
def x60:XFn:=⟨(.seq (.reg false [⟨some 2,.mv (.c .nil),none,0⟩]) qmy),121,[(.t 2)]⟩
theorem q0o:FnOk Try.prog T 60 x60:=⟨Try.f60,[.loop [0,3,4,5,6,7],.draw [0,1,2,3,4,5,6,7] [4,4,4,4,4,4,4,4]],Try.func60,by decide +kernel,by kernel_rfl⟩
def qvv:XCode:=(.reg false [⟨some 14,.mv (.t 5),none,0⟩,⟨some 15,.mv (.t 7),none,0⟩,⟨some 16,.buildS 3 1 [(.int .i64 0)] [(0,(1,(.t 15)))],none,0⟩,⟨some 17,.app 3 1 8 (.t 14) (.t 16),none,0⟩,⟨some 5,.mv (.t 17),none,0⟩])
def qr0:XCode:=(.seq (.block 1 qvv) (.reg false [⟨some 12,.mv (.t 7),none,0⟩,⟨some 13,.bin .add (.t 12) (.c (.int .i64 1)),none,0⟩,⟨some 7,.mv (.t 13),none,0⟩]))
def qq8:XCode:=(.seq (.seq (.reg false [⟨some 9,.mv (.t 7),none,0⟩,⟨some 10,.mv (.t 1),none,0⟩,⟨some 11,.bin .lss (.t 9) (.t 10),none,0⟩]) (.cond (.t 11) .skip (.exit 0))) qr0)
def qyw:XCode:=(.block 0 (.loop [0,1,5,6,7] qq8))
def qv2:XCode:=qyw
def qq7:XCode:=(.reg true [⟨some 32,.buildS 3 0 [] [],none,4⟩,⟨some 33,.mv (.t 5),none,4⟩,⟨some 34,.mv (.t 8),none,4⟩,⟨some 35,.slc 3 1 (.t 33) none (some (.t 34)) none,none,4⟩,⟨some 36,.app 3 1 8 (.t 32) (.t 35),none,3⟩,⟨some 37,.mv (.t 5),none,1⟩,⟨some 38,.mv (.t 8),none,1⟩,⟨some 39,.bin .add (.t 38) (.c (.int .i64 1)),none,1⟩,⟨some 40,.slc 3 1 (.t 37) (some (.t 39)) none none,none,1⟩,⟨some 41,.app 3 1 8 (.t 36) (.t 40),none,3⟩,⟨some 5,.mv (.t 41),none,4⟩])
def qum:XCode:=(.seq (.reg false [⟨some 25,.mv (.t 6),none,0⟩,⟨some 26,.mv (.t 5),none,0⟩,⟨some 27,.mv (.t 8),none,0⟩,⟨some 28,.ia 1 (.t 26) (.t 27),none,0⟩,⟨some 29,.ld none (.t 28),none,0⟩,⟨some 30,.buildS 3 1 [(.int .i64 0)] [(0,(1,(.t 29)))],none,0⟩,⟨some 31,.app 3 1 8 (.t 25) (.t 30),none,0⟩,⟨some 6,.mv (.t 31),none,0⟩]) qq7)
def qux:XCode:=(.seq (.reg false [⟨some 21,.mv (.t 0),none,0⟩,⟨some 22,.mv (.t 5),none,0⟩,⟨some 23,.len (.t 22),none,0⟩,⟨some 24,.call (.c (.fn 63 [])) [(.t 21),(.t 23)],none,0⟩,⟨some 8,.mv (.t 24),none,0⟩]) qum)
def qs2:XCode:=(.block 3 qux)
def qmi:XCode:=(.seq (.seq (.reg false [⟨some 18,.mv (.t 5),none,0⟩,⟨some 19,.len (.t 18),none,0⟩,⟨some 20,.bin .gtr (.t 19) (.c (.int .i64 0)),none,0⟩]) (.cond (.t 20) .skip (.exit 2))) qs2)
def qof:XCode:=(.block 2 (.loop [0,1,5,6] qmi))
def qo4:XCode:=(.reg false [⟨some 48,.mv (.t 6),none,0⟩,⟨some 49,.mv (.t 0),none,0⟩,⟨some 50,.mv (.t 1),none,0⟩,⟨some 51,.bin .add (.t 50) (.c (.int .i64 1)),none,0⟩,⟨some 52,.call (.c (.fn 63 [])) [(.t 49),(.t 51)],none,0⟩,⟨some 53,.ia 1 (.t 48) (.c (.int .i64 0)),none,0⟩,⟨none,.st 1 (.t 53) (.t 52),none,0⟩])
def qol:XCode:=(.cond (.t 47) qo4 .skip)
def ql6:XCode:=(.seq (.seq (.reg false [⟨some 42,.mv (.t 1),none,0⟩,⟨some 43,.bin .gtr (.t 42) (.c (.int .i64 0)),none,0⟩,⟨some 44,.mv (.t 43),none,0⟩,⟨some 45,.mv (.t 0),(some (44,true)),0⟩,⟨some 46,.call (.c (.fn 61 [])) [(.t 45),(.c (.int .i64 30))],(some (44,true)),0⟩,⟨some 47,.pick (.t 44) (.t 46) (.c (.bool false)),none,0⟩]) qol) (.seq (.reg false [⟨some 54,.mv (.t 6),none,0⟩,⟨some 4,.mv (.t 54),none,0⟩]) .ret))
def qo2:XCode:=(.seq qof ql6)
def qmw:XCode:=(.seq (.seq (.reg false [⟨some 7,.mv (.c (.int .i64 0)),none,0⟩]) qv2) qo2)
def ql1:XCode:=(.seq (.reg false [⟨some 5,.mv (.c .nil),none,0⟩,⟨some 6,.mv (.c .nil),none,0⟩]) qmw)
def x62:XFn:=⟨(.seq (.reg false [⟨some 4,.mv (.c .nil),none,0⟩]) ql1),55,[(.t 4)]⟩
theorem q0f:FnOk Try.prog T 62 x62:=⟨Try.f62,[.loop [0,1,5,6,7],.loop [0,1,5,6],.draw [0,1,2,3,4,5,6,7,8,9,10] [4,4,4,4,3,1,1,1,1,3,4]],Try.func62,by decide +kernel,by kernel_rfl⟩
def qsu:XCode:=(.seq (.reg false [⟨some 23,.mv (.t 5),none,0⟩,⟨some 24,.mv (.t 6),none,0⟩,⟨some 2,.mv (.t 23),none,0⟩,⟨some 3,.mv (.t 24),none,0⟩]) .ret)
def qug:XCode:=(.cond (.t 22) qsu .skip)
def qso:XCode:=(.seq (.reg false [⟨some 18,.mv (.t 7),none,0⟩,⟨some 19,.mv (.t 18),none,0⟩,⟨some 20,.mv (.t 4),(some (19,true)),0⟩,⟨some 21,.call (.c (.fn 61 [])) [(.t 20),(.c (.int .i64 2))],(some (19,true)),0⟩,⟨some 22,.pick (.t 19) (.t 21) (.c (.bool false)),none,0⟩]) qug)
def qut:XCode:=(.seq (.reg false [⟨some 25,.mv (.t 5),none,0⟩,⟨some 26,.mv (.t 4),none,0⟩,⟨some 27,.mv (.t 5),none,0⟩,⟨some 28,.len (.t 27),none,0⟩,⟨some 29,.call (.c (.fn 62 [])) [(.t 26),(.t 28)],none,0⟩,⟨some 2,.mv (.t 25),none,0⟩,⟨some 3,.mv (.t 29),none,0⟩]) .ret)
def qtl:XCode:=(.seq (.seq (.reg false [⟨some 14,.mv (.t 5),none,0⟩,⟨some 15,.call (.c (.fn 22 [])) [(.t 14)],none,0⟩,⟨some 13,.mv (.t 15),none,0⟩,⟨some 16,.ext (.t 13) 0,none,0⟩,⟨some 17,.ext (.t 13) 1,none,0⟩,⟨some 6,.mv (.t 16),none,0⟩,⟨some 7,.mv (.t 17),none,0⟩]) qso) qut)
def qv3:XCode:=(.seq (.reg false [⟨some 11,.mv (.t 4),none,0⟩,⟨some 12,.call (.c (.fn 60 [])) [(.t 11)],none,0⟩,⟨some 5,.mv (.t 12),none,0⟩]) qtl)
def qsa:XCode:=(.seq (.reg false [⟨some 8,.mv (.t 0),none,0⟩,⟨some 9,.build [.nil,(.int .i64 0),(.int .u64 0)] [(0,(1,(.t 8)))],none,0⟩,⟨some 10,.box 72 3 (.t 9),none,0⟩,⟨some 4,.mv (.t 10),none,0⟩]) qv3)
def x37:XFn:=⟨(.seq (.reg false [⟨some 2,.mv (.c .nil),none,0⟩,⟨some 3,.mv (.c .nil),none,0⟩]) qsa),30,[(.t 2),(.t 3)]⟩
theorem qz4:FnOk Try.prog T 37 x37:=⟨Try.f37,[],Try.func37,by decide +kernel,by kernel_rfl⟩
def qtm:XCode:=(.seq (.reg false [⟨some 8,.mv (.t 4),none,0⟩,⟨some 9,.call (.c (.fn 60 [])) [(.t 8)],none,0⟩,⟨some 10,.mv (.t 4),none,0⟩,⟨some 11,.call (.c (.fn 63 [])) [(.t 10),(.c (.int .i64 5))],none,0⟩,⟨some 12,.bin .sub (.t 11) (.c (.int .i64 1)),none,0⟩,⟨some 2,.mv (.t 9),none,0⟩,⟨some 3,.mv (.t 12),none,0⟩]) .ret)
def qsi:XCode:=(.seq (.reg false [⟨some 5,.mv (.t 0),none,0⟩,⟨some 6,.build [.nil,(.int .i64 0),(.int .u64 0)] [(0,(1,(.t 5)))],none,0⟩,⟨some 7,.box 72 3 (.t 6),none,0⟩,⟨some 4,.mv (.t 7),none,0⟩]) qtm)
def x38:XFn:=⟨(.seq (.reg false [⟨some 2,.mv (.c .nil),none,0⟩,⟨some 3,.mv (.c (.int .i64 0)),none,0⟩]) qsi),13,[(.t 2),(.t 3)]⟩
theorem qzr:FnOk Try.prog T 38 x38:=⟨Try.f38,[],Try.func38,by decide +kernel,by kernel_rfl⟩
def qsh:XCode:=(.seq (.reg true [⟨some 16,.mv (.t 0),none,4⟩,⟨some 17,.mv (.t 5),none,4⟩,⟨some 18,.ia 6 (.t 16) (.t 17),none,4⟩,⟨some 19,.ld (some 6) (.t 18),none,4⟩,⟨some 20,.mv (.t 1),none,4⟩,⟨some 21,.mv (.t 5),none,4⟩,⟨some 22,.ia 6 (.t 20) (.t 21),none,4⟩,⟨some 23,.ld (some 6) (.t 22),none,4⟩,⟨some 24,.eqs true [(.int .i64),(.int .i64),.bool,(.int .i64),(.int .i64),(.int .i64)] (.t 19) (.t 23),none,4⟩]) (.cond (.t 24) (.seq (.reg false [⟨some 4,.mv (.c (.bool false)),none,0⟩]) .ret) .skip))
def qrl:XCode:=(.seq (.reg false [⟨some 15,.mv (.t 13),none,0⟩,⟨some 5,.mv (.t 15),none,0⟩]) qsh)
def qzh:XCode:=(.block 0 (.loop [0,1,12,13] (.seq (.reg false [⟨some 14,.bin .lss (.t 13) (.t 12),none,0⟩]) (.seq (.cond (.t 14) .skip (.exit 0)) (.seq (.block 1 qrl) (.reg false [⟨some 25,.bin .add (.t 13) (.c (.int .i64 1)),none,0⟩,⟨some 13,.mv (.t 25),none,0⟩]))))))
def qtu:XCode:=qzh
def qtf:XCode:=(.seq (.seq (.reg false [⟨some 11,.mv (.t 0),none,0⟩,⟨some 12,.len (.t 11),none,0⟩,⟨some 13,.mv (.c (.int .i64 0)),none,0⟩]) qtu) (.seq (.reg false [⟨some 4,.mv (.c (.bool true)),none,0⟩]) .ret))
def qse:XCode:=(.seq (.seq (.reg false [⟨some 6,.mv (.t 0),none,0⟩,⟨some 7,.len (.t 6),none,0⟩,⟨some 8,.mv (.t 1),none,0⟩,⟨some 9,.len (.t 8),none,0⟩,⟨some 10,.bin .neq (.t 7) (.t 9),none,0⟩]) (.cond (.t 10) (.seq (.reg false [⟨some 4,.mv (.c (.bool false)),none,0⟩]) .ret) .skip)) qtf)
def x39:XFn:=⟨(.seq (.reg false [⟨some 4,.mv (.c (.bool false)),none,0⟩]) qse),26,[(.t 4)]⟩
theorem q0t:FnOk Try.prog T 39 x39:=⟨Try.f39,[.loop [0,1,12,13],.draw [0,1,2,3,4,5,6,7,8] [4,4,4,4,4,4,4,4,4]],Try.func39,by decide +kernel,by kernel_rfl⟩
def qr1:XCode:=(.seq (.seq (.reg true [⟨some 114,.mv (.t 15),none,4⟩,⟨some 115,.mv (.t 17),none,4⟩,⟨some 116,.ia 1 (.t 114) (.t 115),none,4⟩,⟨some 117,.ld none (.t 116),none,4⟩,⟨some 118,.mv (.t 6),none,4⟩,⟨some 119,.mv (.t 17),none,4⟩,⟨some 120,.ia 1 (.t 118) (.t 119),none,4⟩,⟨some 121,.ld none (.t 120),none,4⟩,⟨some 122,.bin .gtr (.t 117) (.t 121),none,4⟩]) (.cond (.t 122) (.seq (.reg false [⟨some 4,.mv (.c (.bool false)),none,0⟩]) .ret) .skip)) (.exit 0))
def qsd:XCode:=(.cond (.t 113) qr1 .skip)
def qs7:XCode:=(.seq (.reg true [⟨some 105,.mv (.t 15),none,4⟩,⟨some 106,.mv (.t 17),none,4⟩,⟨some 107,.ia 1 (.t 105) (.t 106),none,4⟩,⟨some 108,.ld none (.t 107),none,4⟩,⟨some 109,.mv (.t 6),none,4⟩,⟨some 110,.mv (.t 17),none,4⟩,⟨some 111,.ia 1 (.t 109) (.t 110),none,4⟩,⟨some 112,.ld none (.t 111),none,4⟩,⟨some 113,.bin .neq (.t 108) (.t 112),none,4⟩]) qsd)
def qty:XCode:=(.seq (.reg false [⟨some 104,.mv (.t 102),none,0⟩,⟨some 17,.mv (.t 104),none,0⟩]) qs7)
def qzf:XCode:=(.block 0 (.loop [1,5,6,11,12,15,101,102] (.seq (.reg false [⟨some 103,.bin .lss (.t 102) (.t 101),none,0⟩]) (.seq (.cond (.t 103) .skip (.exit 0)) (.seq (.block 1 qty) (.reg false [⟨some 123,.bin .add (.t 102) (.c (.int .i64 1)),none,0⟩,⟨some 102,.mv (.t 123),none,0⟩]))))))
def qvp:XCode:=qzf
def qr4:XCode:=(.seq (.reg false [⟨some 100,.mv (.t 15),none,0⟩,⟨some 101,.len (.t 100),none,0⟩,⟨some 102,.mv (.c (.int .i64 0)),none,0⟩]) qvp)
def qvd:XCode:=(.seq (.seq (.reg false [⟨some 91,.mv (.t 16),none,0⟩,⟨some 92,.un .not (.t 91),none,0⟩,⟨some 93,.mv (.t 92),none,0⟩,⟨some 94,.mv (.t 15),(some (93,false)),0⟩,⟨some 95,.len (.t 94),(some (93,false)),0⟩,⟨some 96,.mv (.t 6),(some (93,false)),0⟩,⟨some 97,.len (.t 96),(some (93,false)),0⟩,⟨some 98,.bin .neq (.t 95) (.t 97),(some (93,false)),0⟩,⟨some 99,.pick (.t 93) (.c (.bool true)) (.t 98),none,0⟩]) (.cond (.t 99) (.seq (.reg false [⟨some 4,.mv (.c (.bool false)),none,0⟩]) .ret) .skip)) qr4)
def qv4:XCode:=(.seq (.reg false [⟨some 87,.mv (.t 5),none,0⟩,⟨some 88,.call (.c (.fn 23 [])) [(.t 87)],none,0⟩,⟨some 86,.mv (.t 88),none,0⟩,⟨some 89,.ext (.t 86) 0,none,0⟩,⟨some 90,.ext (.t 86) 1,none,0⟩,⟨some 15,.mv (.t 89),none,0⟩,⟨some 16,.mv (.t 90),none,0⟩]) qvd)
def qmu:XCode:=(.cond (.t 85) qv4 .skip)
def qoc:XCode:=(.seq (.reg false [⟨some 134,.mv (.t 19),none,0⟩,⟨some 135,.un .not (.t 134),none,0⟩,⟨some 136,.mv (.t 135),none,0⟩,⟨some 137,.mv (.t 5),(some (136,false)),0⟩,⟨some 138,.len (.t 137),(some (136,false)),0⟩,⟨some 139,.bin .gtr (.t 138) (.c (.int .i64 1)),(some (136,false)),0⟩,⟨some 140,.mv (.t 139),(some (136,false)),0⟩,⟨some 141,.mv (.t 18),(some (140,true)),0⟩,⟨some 142,.mv (.t 5),(some (140,true)),0⟩,⟨some 143,.len (.t 142),(some (140,true)),0⟩,⟨some 144,.mv (.t 5),(some (140,true)),0⟩,⟨some 145,.len (.t 144),(some (140,true)),0⟩,⟨some 146,.bin .sub (.t 145) (.c (.int .i64 1)),(some (140,true)),0⟩,⟨some 147,.bin .mul (.t 143) (.t 146),(some (140,true)),0⟩,⟨some 148,.bin .quo (.t 147) (.c (.int .i64 2)),(some (140,true)),0⟩,⟨some 149,.bin .eql (.t 141) (.t 148),(some (140,true)),0⟩,⟨some 150,.pick (.t 140) (.t 149) (.c (.bool false)),(some (136,false)),0⟩,⟨some 151,.pick (.t 136) (.c (.bool true)) (.t 150),none,0⟩]) (.cond (.t 151) (.seq (.reg false [⟨some 4,.mv (.c (.bool false)),none,0⟩]) .ret) .skip))
def qmp:XCode:=(.seq (.reg false [⟨some 130,.mv (.t 5),none,0⟩,⟨some 131,.call (.c (.fn 33 [])) [(.t 130)],none,0⟩,⟨some 129,.mv (.t 131),none,0⟩,⟨some 132,.ext (.t 129) 0,none,0⟩,⟨some 133,.ext (.t 129) 1,none,0⟩,⟨some 18,.mv (.t 132),none,0⟩,⟨some 19,.mv (.t 133),none,0⟩]) qoc)
def qo8:XCode:=(.cond (.t 128) qmp .skip)
def qo3:XCode:=(.seq (.reg false [⟨some 169,.mv (.t 23),none,0⟩,⟨some 170,.mv (.t 25),none,0⟩,⟨some 171,.eqb false (.t 169) (.t 170),none,0⟩,⟨some 172,.mv (.t 171),none,0⟩,⟨some 173,.mv (.t 22),(some (172,true)),0⟩,⟨some 174,.mv (.t 24),(some (172,true)),0⟩,⟨some 175,.call (.c (.fn 39 [])) [(.t 173),(.t 174)],(some (172,true)),0⟩,⟨some 176,.pick (.t 172) (.t 175) (.c (.bool false)),none,0⟩,⟨some 4,.mv (.t 176),none,0⟩]) .ret)
def qmm:XCode:=(.seq (.reg false [⟨some 164,.mv (.t 20),none,0⟩,⟨some 165,.mv (.t 21),none,0⟩,⟨some 166,.call (.c (.fn 12 [])) [(.t 164),(.t 165)],none,0⟩,⟨some 163,.mv (.t 166),none,0⟩,⟨some 167,.ext (.t 163) 0,none,0⟩,⟨some 168,.ext (.t 163) 1,none,0⟩,⟨some 24,.mv (.t 167),none,0⟩,⟨some 25,.mv (.t 168),none,0⟩]) qo3)
def qnx:XCode:=(.seq (.reg false [⟨some 158,.mv (.t 20),none,0⟩,⟨some 159,.mv (.t 21),none,0⟩,⟨some 160,.call (.c (.fn 14 [])) [(.t 158),(.t 159)],none,0⟩,⟨some 157,.mv (.t 160),none,0⟩,⟨some 161,.ext (.t 157) 0,none,0⟩,⟨some 162,.ext (.t 157) 1,none,0⟩,⟨some 22,.mv (.t 161),none,0⟩,⟨some 23,.mv (.t 162),none,0⟩]) qmm)
def qlr:XCode:=(.seq (.reg false [⟨some 153,.mv (.t 1),none,0⟩,⟨some 154,.call (.c (.fn 38 [])) [(.t 153)],none,0⟩,⟨some 152,.mv (.t 154),none,0⟩,⟨some 155,.ext (.t 152) 0,none,0⟩,⟨some 156,.ext (.t 152) 1,none,0⟩,⟨some 20,.mv (.t 155),none,0⟩,⟨some 21,.mv (.t 156),none,0⟩]) qnx)
def ql2:XCode:=(.seq (.seq (.reg false [⟨some 124,.mv (.t 12),none,0⟩,⟨some 125,.mv (.t 124),none,0⟩,⟨some 126,.mv (.t 11),(some (125,true)),0⟩,⟨some 127,.un .not (.t 126),(some (125,true)),0⟩,⟨some 128,.pick (.t 125) (.t 127) (.c (.bool false)),none,0⟩]) qo8) qlr)
def qn1:XCode:=(.seq (.seq (.reg false [⟨some 79,.mv (.t 8),none,0⟩,⟨some 80,.mv (.t 79),none,0⟩,⟨some 81,.mv (.t 7),(some (80,true)),0⟩,⟨some 82,.pick (.t 80) (.t 81) (.c (.bool false)),none,0⟩,⟨some 83,.mv (.t 82),none,0⟩,⟨some 84,.mv (.t 11),(some (83,true)),0⟩,⟨some 85,.pick (.t 83) (.t 84) (.c (.bool false)),none,0⟩]) qmu) ql2)
def qm9:XCode:=(.seq (.seq (.reg false [⟨some 61,.mv (.t 8),none,0⟩,⟨some 62,.mv (.t 10),none,0⟩,⟨some 63,.eqb true (.t 61) (.t 62),none,0⟩,⟨some 64,.mv (.t 63),none,0⟩,⟨some 65,.mv (.t 7),(some (64,false)),0⟩,⟨some 66,.mv (.t 9),(some (64,false)),0⟩,⟨some 67,.eqb true (.t 65) (.t 66),(some (64,false)),0⟩,⟨some 68,.pick (.t 64) (.c (.bool true)) (.t 67),none,0⟩,⟨some 69,.mv (.t 68),none,0⟩,⟨some 70,.mv (.t 12),(some (69,false)),0⟩,⟨some 71,.mv (.t 14),(some (69,false)),0⟩,⟨some 72,.eqb true (.t 70) (.t 71),(some (69,false)),0⟩,⟨some 73,.pick (.t 69) (.c (.bool true)) (.t 72),none,0⟩,⟨some 74,.mv (.t 73),none,0⟩,⟨some 75,.mv (.t 11),(some (74,false)),0⟩,⟨some 76,.mv (.t 13),(some (74,false)),0⟩,⟨some 77,.eqb true (.t 75) (.t 76),(some (74,false)),0⟩,⟨some 78,.pick (.t 74) (.c (.bool true)) (.t 77),none,0⟩]) (.cond (.t 78) (.seq (.reg false [⟨some 4,.mv (.c (.bool false)),none,0⟩]) .ret) .skip)) qn1)
def qll:XCode:=(.seq (.reg false [⟨some 56,.mv (.t 5),none,0⟩,⟨some 57,.mv (.t 6),none,0⟩,⟨some 58,.call (.c (.fn 27 [])) [(.t 56),(.t 57)],none,0⟩,⟨some 55,.mv (.t 58),none,0⟩,⟨some 59,.ext (.t 55) 0,none,0⟩,⟨some 60,.ext (.t 55) 1,none,0⟩,⟨some 13,.mv (.t 59),none,0⟩,⟨some 14,.mv (.t 60),none,0⟩]) qm9)
def qng:XCode:=(.seq (.reg false [⟨some 50,.mv (.t 5),none,0⟩,⟨some 51,.mv (.t 6),none,0⟩,⟨some 52,.call (.c (.fn 29 [])) [(.t 50),(.t 51)],none,0⟩,⟨some 49,.mv (.t 52),none,0⟩,⟨some 53,.ext (.t 49) 0,none,0⟩,⟨some 54,.ext (.t 49) 1,none,0⟩,⟨some 11,.mv (.t 53),none,0⟩,⟨some 12,.mv (.t 54),none,0⟩]) qll)
def qnw:XCode:=(.seq (.reg false [⟨some 44,.mv (.t 5),none,0⟩,⟨some 45,.mv (.t 6),none,0⟩,⟨some 46,.call (.c (.fn 30 [])) [(.t 44),(.t 45)],none,0⟩,⟨some 43,.mv (.t 46),none,0⟩,⟨some 47,.ext (.t 43) 0,none,0⟩,⟨some 48,.ext (.t 43) 1,none,0⟩,⟨some 9,.mv (.t 47),none,0⟩,⟨some 10,.mv (.t 48),none,0⟩]) qng)
def qmo:XCode:=(.seq (.reg false [⟨some 38,.mv (.t 5),none,0⟩,⟨some 39,.mv (.t 6),none,0⟩,⟨some 40,.call (.c (.fn 31 [])) [(.t 38),(.t 39)],none,0⟩,⟨some 37,.mv (.t 40),none,0⟩,⟨some 41,.ext (.t 37) 0,none,0⟩,⟨some 42,.ext (.t 37) 1,none,0⟩,⟨some 7,.mv (.t 41),none,0⟩,⟨some 8,.mv (.t 42),none,0⟩]) qnw)
def qow:XCode:=(.seq (.reg false [⟨some 33,.mv (.t 0),none,0⟩,⟨some 34,.call (.c (.fn 37 [])) [(.t 33)],none,0⟩,⟨some 32,.mv (.t 34),none,0⟩,⟨some 35,.ext (.t 32) 0,none,0⟩,⟨some 36,.ext (.t 32) 1,none,0⟩,⟨some 5,.mv (.t 35),none,0⟩,⟨some 6,.mv (.t 36),none,0⟩]) qmo)
def qnv:XCode:=(.seq (.seq (.reg false [⟨some 26,.mv (.t 0),none,0⟩,⟨some 27,.len (.t 26),none,0⟩,⟨some 28,.mv (.t 1),none,0⟩,⟨some 29,.len (.t 28),none,0⟩,⟨some 30,.bin .add (.t 27) (.t 29),none,0⟩,⟨some 31,.bin .gtr (.t 30) (.c (.int .i64 1048576)),none,0⟩]) (.cond (.t 31) (.seq (.reg false [⟨some 4,.mv (.c (.bool true)),none,0⟩]) .ret) .skip)) qow)
def x10:XFn:=⟨(.seq (.reg false [⟨some 4,.mv (.c (.bool false)),none,0⟩]) qnv),177,[(.t 4)]⟩
theorem qzy:FnOk Try.prog T 10 x10:=⟨Try.f10,[.loop [1,5,6,11,12,15,101,102],.draw [0,1,2,3,4,5,6,7,8] [4,4,4,4,4,4,4,4,4],.draw [0,1,2,3,4,5,6,7,8] [4,4,4,4,4,4,4,4,4]],Try.func10,by decide +kernel,by kernel_rfl⟩
def fl:List (Nat × XFn):=[(41,x41),(64,x64),(40,x40),(12,x12),(44,x44),(43,x43),(65,x65),(45,x45),(46,x46),(14,x14),(55,x55),(58,x58),(74,x74),(68,x68),(67,x67),(49,x49),(69,x69),(51,x51),(23,x23),(66,x66),(52,x52),(53,x53),(27,x27),(71,x71),(54,x54),(56,x56),(29,x29),(57,x57),(30,x30),(31,x31),(33,x33),(48,x48),(22,x22),(73,x73),(63,x63),(61,x61),(72,x72),(60,x60),(62,x62),(37,x37),(38,x38),(39,x39),(10,x10)]
theorem qys:∀ p∈fl,FnOk Try.prog T p.1 p.2:=by
 simp only [fl,List.forall_mem_cons]
 exact ⟨q0k,qz8,q0p,q0b,qzq,q0e,qzt,qz1,q0r,qzv,qzx,q0n,q0d,qzs,q0w,qz9,qz2,q0q,q0l,qz3,q0i,q0v,q0g,qz0,q0s,qz7,q0a,q0c,qz6,q0h,q0j,qz5,qzw,q0u,q0x,q0m,qzz,q0o,q0f,qz4,qzr,q0t,qzy,fun _ h=>by cases h⟩
def roL:List Nat:=[10,12,27,29,30,31,33,38,39,40,41,43,44,46,52,53,54,55,56,57,58,64,65,66,68,69,71,74]
def mkL:List Nat:=[14,22,23,37,49]
def coL:List Nat:=[51]
def qza (n:Nat) : Nat:=if roL.contains n then 1 else if mkL.contains n then 2 else if coL.contains n then 3 else 0
def qf0:Go.Shelf.Ren:=⟨fun | 53=>70 | 64=>76 | 63=>75 | 78=>86 | 79=>87 | 70=>77 | 71=>78 | 72=>79 | 73=>80 | 74=>81 | 75=>82 | 59=>83 | 76=>84 | 77=>85 | 88=>88 | 89=>89 | 90=>90 | 91=>91 | 92=>92 | 68=>93 | 96=>94 | n=>n,fun | 22=>34 | 23=>3 | 3=>3 | 51=>86 | 0=>0 | 67=>95 | 69=>70 | 4=>4 | 61=>89 | 60=>88 | 44=>44 | 5=>5 | 9=>9 | 75=>97 | 79=>101 | 83=>103 | 84=>104 | n=>n,fun | n=>n⟩
theorem qw1:Go.Proofs.SlLaysN.n53 Try.prog qf0:={ mixed:=by kernel_rfl,f53:=⟨Try.f70.name,by decide,Try.func70.trans (congrArg some (by kernel_rfl))⟩,f59:=⟨Try.f83.name,by decide,Try.func83.trans (congrArg some (by kernel_rfl))⟩,f63:=⟨Try.f75.name,by decide,Try.func75.trans (congrArg some (by kernel_rfl))⟩,f64:=Try.func76.trans (congrArg some (by kernel_rfl)),f68:=⟨Try.f93.name,by decide,Try.func93.trans (congrArg some (by kernel_rfl))⟩,f70:=⟨Try.f77.name,by decide,Try.func77.trans (congrArg some (by kernel_rfl))⟩,f71:=⟨Try.f78.name,by decide,Try.func78.trans (congrArg some (by kernel_rfl))⟩,f72:=⟨Try.f79.name,by decide,Try.func79.trans (congrArg some (by kernel_rfl))⟩,f73:=⟨Try.f80.name,by decide,Try.func80.trans (congrArg some (by kernel_rfl))⟩,f74:=⟨Try.f81.name,by decide,Try.func81.trans (congrArg some (by kernel_rfl))⟩,f75:=⟨Try.f82.name,by decide,Try.func82.trans (congrArg some (by kernel_rfl))⟩,f76:=⟨Try.f84.name,by decide,Try.func84.trans (congrArg some (by kernel_rfl))⟩,f77:=⟨Try.f85.name,by decide,Try.func85.trans (congrArg some (by kernel_rfl))⟩,f78:=Try.func86.trans (congrArg some (by kernel_rfl)),f79:=Try.func87.trans (congrArg some (by kernel_rfl)),f88:=⟨Try.f88.name,by decide,Try.func88.trans (congrArg some (by kernel_rfl))⟩,f89:=Try.func89.trans (congrArg some (by kernel_rfl)),f90:=Try.func90.trans (congrArg some (by kernel_rfl)),f91:=⟨Try.f91.name,by decide,Try.func91.trans (congrArg some (by kernel_rfl))⟩,f92:=⟨Try.f92.name,by decide,Try.func92.trans (congrArg some (by kernel_rfl))⟩,f96:=⟨Try.f94.name,by decide,Try.func94.trans (congrArg some (by kernel_rfl))⟩,t0:=Try.underlying0,a0:=Try.isAgg0,z0:=Try.sizeOf0,v0:=Try.zeroValue0,t3:=Try.underlying3,a3:=Try.isAgg3,z3:=Try.sizeOf3,v3:=Try.zeroValue3,t4:=Try.underlying4,a4:=Try.isAgg4,z4:=Try.sizeOf4,v4:=Try.zeroValue4,t5:=Try.underlying5,a5:=Try.isAgg5,z5:=Try.sizeOf5,v5:=Try.zeroValue5,t9:=Try.underlying9,a9:=Try.isAgg9,z9:=Try.sizeOf9,v9:=Try.zeroValue9,t22:=Try.underlying34,a22:=Try.isAgg34,z22:=Try.sizeOf34,v22:=Try.zeroValue34,t23:=Try.underlying3,a23:=Try.isAgg3,z23:=Try.sizeOf3,v23:=Try.zeroValue3,t44:=Try.underlying44,a44:=Try.isAgg44,z44:=Try.sizeOf44,v44:=Try.zeroValue44,t51:=Try.underlying86,a51:=Try.isAgg86,z51:=Try.sizeOf86,v51:=Try.zeroValue86,t60:=Try.underlying88,a60:=Try.isAgg88,z60:=Try.sizeOf88,v60:=Try.zeroValue88,t61:=Try.underlying89,a61:=Try.isAgg89,z61:=Try.sizeOf89,v61:=Try.zeroValue89,t67:=Try.underlying95,a67:=Try.isAgg95,z67:=Try.sizeOf95,v67:=Try.zeroValue95,t69:=Try.underlying70,a69:=Try.isAgg70,z69:=Try.sizeOf70,v69:=Try.zeroValue70,t75:=Try.underlying97,a75:=Try.isAgg97,z75:=Try.sizeOf97,v75:=Try.zeroValue97,t79:=Try.underlying101,a79:=Try.isAgg101,z79:=Try.sizeOf101,v79:=Try.zeroValue101,t83:=Try.underlying103,a83:=Try.isAgg103,z83:=Try.sizeOf103,v83:=Try.zeroValue103,t84:=Try.underlying104,a84:=Try.isAgg104,z84:=Try.sizeOf104,v84:=Try.zeroValue104 }
def ol:List (Nat × Orc):=[(70,.srt 3)]
theorem qy8:∀ p∈ol,OrcOk Try.prog (szL tl) p.1 p.2:=by
 simp only [ol,List.forall_mem_cons]
 exact ⟨qxt (ρ:=qf0) qw1 (by kernel_rfl) ⟨Try.f70,Try.func70,by decide,rfl⟩,fun _ h=>by cases h⟩
def E:Env:=⟨qpm fl,qza,szL tl,qqd ol⟩
end Go.Proofs.Ytddkoiapboeemaa.X
