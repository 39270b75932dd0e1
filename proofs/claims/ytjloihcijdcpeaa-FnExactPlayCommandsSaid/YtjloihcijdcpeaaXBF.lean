/- The seat's types and functions as X has them; the kernel checks each against the program. -/
import Derived.Test.YtjloihcijdcpeaaZIns
set_option linter.unusedVariables false
set_option linter.unusedSimpArgs false
set_option maxRecDepth 100000
namespace Go.Proofs.Ytjloihcijdcpeaa.X
open Go
open Nat (reduceEqDiff)
def tl:List (Nat × TI):=[(1,⟨.other,1,8,[.nilfn]⟩),
 (2,⟨(.int .i64),1,8,[(.int .i64 0)]⟩),
 (3,⟨(.int .i64),1,8,[(.int .i64 0)]⟩),
 (4,⟨.bool,1,1,[(.bool false)]⟩),
 (5,⟨(.int .u8),1,1,[(.int .u8 0)]⟩),
 (6,⟨(.int .u8),1,1,[(.int .u8 0)]⟩),
 (7,⟨(.struct [(0,2),(1,3),(2,4),(3,6)]),4,24,[(.int .i64 0),(.int .i64 0),(.bool false),(.int .u8 0)]⟩),
 (8,⟨(.struct [(0,2),(1,3),(2,4),(3,6)]),4,24,[(.int .i64 0),(.int .i64 0),(.bool false),(.int .u8 0)]⟩),
 (9,⟨.str,1,16,[(.str (ByteArray.mk #[]))]⟩),
 (10,⟨.str,1,16,[(.str (ByteArray.mk #[]))]⟩),
 (11,⟨.str,1,16,[(.str (ByteArray.mk #[]))]⟩),
 (12,⟨(.int .u64),1,8,[(.int .u64 0)]⟩),
 (15,⟨.ptr,1,8,[.nilptr]⟩),
 (16,⟨.ptr,1,8,[.nilptr]⟩),
 (17,⟨.ptr,1,8,[.nilptr]⟩),
 (21,⟨(.int .i32),1,4,[(.int .i32 0)]⟩),
 (22,⟨(.slice 5),1,24,[.nil]⟩),
 (23,⟨(.slice 44),1,24,[.nil]⟩),
 (25,⟨.other,1,8,[.nilfn]⟩),
 (26,⟨(.slice 86),1,24,[.nil]⟩),
 (27,⟨(.slice 39),1,24,[.nil]⟩),
 (28,⟨(.struct [(0,26),(1,27),(2,3)]),3,56,[.nil,.nil,(.int .i64 0)]⟩),
 (29,⟨(.struct [(0,26),(1,27),(2,3)]),3,56,[.nil,.nil,(.int .i64 0)]⟩),
 (30,⟨(.slice 3),1,24,[.nil]⟩),
 (32,⟨.other,1,8,[.nilfn]⟩),
 (33,⟨.other,1,8,[.nilfn]⟩),
 (34,⟨.other,1,8,[.nilfn]⟩),
 (36,⟨.other,1,8,[.nilfn]⟩),
 (37,⟨.other,1,8,[.nilfn]⟩),
 (38,⟨(.struct [(0,30),(1,30),(2,3),(3,3),(4,3)]),5,72,[.nil,.nil,(.int .i64 0),(.int .i64 0),(.int .i64 0)]⟩),
 (39,⟨(.struct [(0,30),(1,30),(2,3),(3,3),(4,3)]),5,72,[.nil,.nil,(.int .i64 0),(.int .i64 0),(.int .i64 0)]⟩),
 (40,⟨.other,1,8,[.nilfn]⟩),
 (41,⟨.other,1,8,[.nilfn]⟩),
 (42,⟨.other,1,8,[.nilfn]⟩),
 (43,⟨(.struct [(0,3),(1,3),(2,3),(3,3),(4,3),(5,30)]),6,64,[(.int .i64 0),(.int .i64 0),(.int .i64 0),(.int .i64 0),(.int .i64 0),.nil]⟩),
 (44,⟨(.struct [(0,3),(1,3),(2,3),(3,3),(4,3),(5,30)]),6,64,[(.int .i64 0),(.int .i64 0),(.int .i64 0),(.int .i64 0),(.int .i64 0),.nil]⟩),
 (46,⟨.other,1,8,[.nilfn]⟩),
 (48,⟨.other,1,8,[.nilfn]⟩),
 (50,⟨.other,1,8,[.nilfn]⟩),
 (51,⟨.other,1,8,[.nilfn]⟩),
 (52,⟨.other,1,8,[.nilfn]⟩),
 (54,⟨.other,1,8,[.nilfn]⟩),
 (55,⟨.other,1,8,[.nilfn]⟩),
 (56,⟨(.slice 68),1,24,[.nil]⟩),
 (57,⟨.other,1,8,[.nilfn]⟩),
 (58,⟨.other,1,8,[.nilfn]⟩),
 (59,⟨.other,1,8,[.nilfn]⟩),
 (60,⟨.other,1,8,[.nilfn]⟩),
 (61,⟨.other,1,8,[.nilfn]⟩),
 (62,⟨.other,1,8,[.nilfn]⟩),
 (63,⟨.other,1,8,[.nilfn]⟩),
 (64,⟨(.slice 116),1,24,[.nil]⟩),
 (65,⟨(.slice 114),1,24,[.nil]⟩),
 (66,⟨(.struct [(0,64),(1,65),(2,3)]),3,56,[.nil,.nil,(.int .i64 0)]⟩),
 (67,⟨(.struct [(0,64),(1,65),(2,3)]),3,56,[.nil,.nil,(.int .i64 0)]⟩),
 (68,⟨(.struct [(0,3),(1,3),(2,3),(3,3),(4,3),(5,30)]),6,64,[(.int .i64 0),(.int .i64 0),(.int .i64 0),(.int .i64 0),(.int .i64 0),.nil]⟩),
 (69,⟨.other,1,8,[.nilfn]⟩),
 (70,⟨.other,1,8,[.nilfn]⟩),
 (71,⟨.other,1,8,[.nilfn]⟩),
 (72,⟨.other,1,8,[.nilfn]⟩),
 (73,⟨.other,1,8,[.nilfn]⟩),
 (74,⟨.other,1,8,[.nilfn]⟩),
 (75,⟨.other,1,8,[.nilfn]⟩),
 (76,⟨.ptr,1,8,[.nilptr]⟩),
 (77,⟨(.int .u64),1,8,[(.int .u64 0)]⟩),
 (78,⟨(.struct [(0,22),(1,3),(2,77)]),3,40,[.nil,(.int .i64 0),(.int .u64 0)]⟩),
 (79,⟨(.struct [(0,22),(1,3),(2,77)]),3,40,[.nil,(.int .i64 0),(.int .u64 0)]⟩),
 (80,⟨.other,1,8,[.nilfn]⟩),
 (81,⟨.other,1,8,[.nilfn]⟩),
 (82,⟨.other,1,8,[.nilfn]⟩),
 (83,⟨.other,1,8,[.nilfn]⟩),
 (84,⟨.other,1,8,[.nilfn]⟩),
 (85,⟨(.struct [(0,3),(1,3),(2,4)]),3,24,[(.int .i64 0),(.int .i64 0),(.bool false)]⟩),
 (86,⟨(.struct [(0,3),(1,3),(2,4)]),3,24,[(.int .i64 0),(.int .i64 0),(.bool false)]⟩),
 (87,⟨.other,1,8,[.nilfn]⟩),
 (88,⟨.other,1,8,[.nilfn]⟩),
 (89,⟨.other,1,8,[.nilfn]⟩),
 (90,⟨.other,1,8,[.nilfn]⟩),
 (91,⟨.other,1,8,[.nilfn]⟩),
 (92,⟨.other,1,8,[.nilfn]⟩),
 (93,⟨.other,1,8,[.nilfn]⟩),
 (94,⟨.other,1,8,[.nilfn]⟩),
 (95,⟨.other,1,8,[.nilfn]⟩),
 (96,⟨.other,1,8,[.nilfn]⟩),
 (97,⟨.other,1,8,[.nilfn]⟩),
 (98,⟨.other,1,8,[.nilfn]⟩),
 (99,⟨.other,1,8,[.nilfn]⟩),
 (100,⟨.other,1,8,[.nilfn]⟩),
 (101,⟨.other,1,8,[.nilfn]⟩),
 (102,⟨.other,1,8,[.nilfn]⟩),
 (103,⟨.other,1,8,[.nilfn]⟩),
 (104,⟨.other,1,8,[.nilfn]⟩),
 (105,⟨.other,1,8,[.nilfn]⟩),
 (106,⟨.ptr,1,8,[.nilptr]⟩),
 (107,⟨.other,1,8,[.nilfn]⟩),
 (108,⟨.other,1,8,[.nilfn]⟩),
 (109,⟨.other,1,8,[.nilfn]⟩),
 (110,⟨.other,1,8,[.nilfn]⟩),
 (111,⟨.other,1,8,[.nilfn]⟩),
 (112,⟨.other,1,8,[.nilfn]⟩),
 (113,⟨.other,1,8,[.nilfn]⟩),
 (114,⟨(.struct [(0,30),(1,30),(2,3),(3,3),(4,3)]),5,72,[.nil,.nil,(.int .i64 0),(.int .i64 0),(.int .i64 0)]⟩),
 (115,⟨.other,1,8,[.nilfn]⟩),
 (116,⟨(.struct [(0,3),(1,3),(2,4)]),3,24,[(.int .i64 0),(.int .i64 0),(.bool false)]⟩),
 (117,⟨.other,1,8,[.nilfn]⟩),
 (118,⟨.ptr,1,8,[.nilptr]⟩),
 (119,⟨.ptr,1,8,[.nilptr]⟩),
 (120,⟨.other,1,8,[.nilfn]⟩),
 (121,⟨.other,1,8,[.nilfn]⟩),
 (122,⟨(.int .u64),1,8,[(.int .u64 0)]⟩),
 (123,⟨.other,1,8,[.nilfn]⟩),
 (124,⟨.other,1,8,[.nilfn]⟩),
 (127,⟨(.array 0 16),0,0,[]⟩),
 (130,⟨(.int .u32),1,4,[(.int .u32 0)]⟩),
 (131,⟨(.int .u8),1,1,[(.int .u8 0)]⟩),
 (132,⟨(.int .u8),1,1,[(.int .u8 0)]⟩),
 (133,⟨.other,1,8,[.nilfn]⟩),
 (134,⟨.ptr,1,8,[.nilptr]⟩),
 (135,⟨(.int .i32),1,4,[(.int .i32 0)]⟩),
 (136,⟨(.int .i32),1,4,[(.int .i32 0)]⟩)]
abbrev T:Tab:=qko tl
theorem q70:∀ p∈tl,qlf Try.prog p.1=some p.2:=by
 simp only [tl,List.forall_mem_cons]
 exact ⟨by kernel_rfl,by kernel_rfl,by kernel_rfl,by kernel_rfl,by kernel_rfl,by kernel_rfl,by kernel_rfl,by kernel_rfl,by kernel_rfl,by kernel_rfl,by kernel_rfl,by kernel_rfl,by kernel_rfl,by kernel_rfl,by kernel_rfl,by kernel_rfl,by kernel_rfl,by kernel_rfl,by kernel_rfl,by kernel_rfl,by kernel_rfl,by kernel_rfl,by kernel_rfl,by kernel_rfl,by kernel_rfl,by kernel_rfl,by kernel_rfl,by kernel_rfl,by kernel_rfl,by kernel_rfl,by kernel_rfl,by kernel_rfl,by kernel_rfl,by kernel_rfl,by kernel_rfl,by kernel_rfl,by kernel_rfl,by kernel_rfl,by kernel_rfl,by kernel_rfl,by kernel_rfl,by kernel_rfl,by kernel_rfl,by kernel_rfl,by kernel_rfl,by kernel_rfl,by kernel_rfl,by kernel_rfl,by kernel_rfl,by kernel_rfl,by kernel_rfl,by kernel_rfl,by kernel_rfl,by kernel_rfl,by kernel_rfl,by kernel_rfl,by kernel_rfl,by kernel_rfl,by kernel_rfl,by kernel_rfl,by kernel_rfl,by kernel_rfl,by kernel_rfl,by kernel_rfl,by kernel_rfl,by kernel_rfl,by kernel_rfl,by kernel_rfl,by kernel_rfl,by kernel_rfl,by kernel_rfl,by kernel_rfl,by kernel_rfl,by kernel_rfl,by kernel_rfl,by kernel_rfl,by kernel_rfl,by kernel_rfl,by kernel_rfl,by kernel_rfl,by kernel_rfl,by kernel_rfl,by kernel_rfl,by kernel_rfl,by kernel_rfl,by kernel_rfl,by kernel_rfl,by kernel_rfl,by kernel_rfl,by kernel_rfl,by kernel_rfl,by kernel_rfl,by kernel_rfl,by kernel_rfl,by kernel_rfl,by kernel_rfl,by kernel_rfl,by kernel_rfl,by kernel_rfl,by kernel_rfl,by kernel_rfl,by kernel_rfl,by kernel_rfl,by kernel_rfl,by kernel_rfl,by kernel_rfl,by kernel_rfl,by kernel_rfl,by kernel_rfl,by kernel_rfl,by kernel_rfl,by kernel_rfl,by kernel_rfl,by kernel_rfl,by kernel_rfl,by kernel_rfl,by kernel_rfl,by kernel_rfl,by kernel_rfl,by kernel_rfl,fun _ h=>by cases h⟩
def q0f:XCode:=(.seq (.reg false [⟨some 7,.mv (.t 0),none,0⟩,⟨some 8,.mv (.t 1),none,0⟩,⟨some 9,.bin .geq (.t 7) (.t 8),none,0⟩,⟨some 10,.mv (.t 9),none,0⟩,⟨some 11,.mv (.t 0),(some (10,true)),0⟩,⟨some 12,.mv (.t 2),(some (10,true)),0⟩,⟨some 13,.bin .leq (.t 11) (.t 12),(some (10,true)),0⟩,⟨some 14,.pick (.t 10) (.t 13) (.c (.bool false)),none,0⟩,⟨some 6,.mv (.t 14),none,0⟩]) .ret)
def x46:XFn:=⟨(.seq (.reg false [⟨some 6,.mv (.c (.bool false)),none,0⟩]) q0f),15,[(.t 6)]⟩
theorem q8q:FnOk Try.prog T 46 x46:=⟨Try.f46,[],Try.func46,by decide +kernel,by kernel_rfl⟩
def qxd:XCode:=(.reg false [⟨some 8,.fa 0 (.t 3),none,0⟩,⟨some 9,.ld none (.t 8),none,0⟩,⟨some 10,.build [(.int .i64 0),(.int .i64 0),(.bool false)] [(2,(1,(.c (.bool true))))],none,0⟩,⟨some 11,.buildS 86 1 [(.int .i64 0),(.int .i64 0),(.bool false)] [(0,(3,(.t 10)))],none,0⟩,⟨some 12,.app 86 3 24 (.t 9) (.t 11),none,0⟩,⟨some 13,.fa 0 (.t 3),none,0⟩,⟨none,.st 1 (.t 13) (.t 12),none,0⟩])
def q7l:XCode:=(.block 0 (.loop [2,3,5,6] (.seq (.reg false [⟨some 7,.bin .lss (.t 6) (.t 5),none,0⟩]) (.seq (.cond (.t 7) .skip (.exit 0)) (.seq (.block 1 qxd) (.reg false [⟨some 14,.bin .add (.t 6) (.c (.int .i64 1)),none,0⟩,⟨some 6,.mv (.t 14),none,0⟩]))))))
def qzt:XCode:=q7l
def q1x:XCode:=(.seq (.seq (.reg false [⟨some 5,.mv (.t 0),none,0⟩,⟨some 6,.mv (.c (.int .i64 0)),none,0⟩]) qzt) (.seq (.reg false [⟨some 15,.ld (some 3) (.t 3),none,0⟩,⟨none,.st 3 (.t 2) (.t 15),none,0⟩]) .ret))
def q2v:XCode:=(.seq (.reg false [⟨some 4,.build [.nil,.nil,(.int .i64 0)] [(2,(1,(.c (.int .i64 1))))],none,0⟩,⟨some 3,.new 29 [.nil,.nil,(.int .i64 0)],none,0⟩,⟨none,.st 3 (.t 3) (.t 4),none,0⟩]) q1x)
def x47:XFn:=⟨(.seq (.reg false [⟨some 2,.new 29 [.nil,.nil,(.int .i64 0)],none,0⟩]) q2v),16,[(.cell 2 (some 3))]⟩
theorem q9y:FnOk Try.prog T 47 x47:=⟨Try.f47,[.loop [2,3,5,6]],Try.func47,by decide +kernel,by kernel_rfl⟩
def q1g:XCode:=(.seq (.reg false [⟨some 14,.mv (.t 6),none,0⟩,⟨some 15,.mv (.t 1),none,0⟩,⟨some 16,.bin .sub (.t 15) (.c (.int .i64 1)),none,0⟩,⟨some 17,.call (.c (.fn 46 [])) [(.t 14),(.c (.int .i64 0)),(.t 16)],none,0⟩,⟨some 18,.un .not (.t 17),none,0⟩,⟨some 19,.mv (.t 18),none,0⟩,⟨some 20,.mv (.t 5),(some (19,false)),0⟩,⟨some 21,.bin .gtr (.t 20) (.c (.int .i64 0)),(some (19,false)),0⟩,⟨some 22,.mv (.t 21),(some (19,false)),0⟩,⟨some 23,.mv (.t 0),(some (22,true)),0⟩,⟨some 24,.mv (.t 5),(some (22,true)),0⟩,⟨some 25,.bin .sub (.t 24) (.c (.int .i64 1)),(some (22,true)),0⟩,⟨some 26,.ia 1 (.t 23) (.t 25),(some (22,true)),0⟩,⟨some 27,.ld none (.t 26),(some (22,true)),0⟩,⟨some 28,.mv (.t 6),(some (22,true)),0⟩,⟨some 29,.bin .geq (.t 27) (.t 28),(some (22,true)),0⟩,⟨some 30,.pick (.t 22) (.t 29) (.c (.bool false)),(some (19,false)),0⟩,⟨some 31,.pick (.t 19) (.c (.bool true)) (.t 30),none,0⟩]) (.cond (.t 31) (.seq (.reg false [⟨some 4,.mv (.c (.bool false)),none,0⟩]) .ret) .skip))
def qzl:XCode:=(.seq (.reg false [⟨some 11,.mv (.t 9),none,0⟩,⟨some 12,.ia 1 (.t 7) (.t 9),none,0⟩,⟨some 13,.ld none (.t 12),none,0⟩,⟨some 5,.mv (.t 11),none,0⟩,⟨some 6,.mv (.t 13),none,0⟩]) q1g)
def q77:XCode:=(.block 0 (.loop [0,1,7,8,9] (.seq (.reg false [⟨some 10,.bin .lss (.t 9) (.t 8),none,0⟩]) (.seq (.cond (.t 10) .skip (.exit 0)) (.seq (.block 1 qzl) (.reg false [⟨some 32,.bin .add (.t 9) (.c (.int .i64 1)),none,0⟩,⟨some 9,.mv (.t 32),none,0⟩]))))))
def qz0:XCode:=q77
def q4b:XCode:=(.seq (.seq (.reg false [⟨some 7,.mv (.t 0),none,0⟩,⟨some 8,.len (.t 7),none,0⟩,⟨some 9,.mv (.c (.int .i64 0)),none,0⟩]) qz0) (.seq (.reg false [⟨some 4,.mv (.c (.bool true)),none,0⟩]) .ret))
def x75:XFn:=⟨(.seq (.reg false [⟨some 4,.mv (.c (.bool false)),none,0⟩]) q4b),33,[(.t 4)]⟩
theorem q9d:FnOk Try.prog T 75 x75:=⟨Try.f75,[.loop [0,1,7,8,9]],Try.func75,by decide +kernel,by kernel_rfl⟩
def q3r:XCode:=(.seq (.reg false [⟨some 55,.mv (.t 5),none,0⟩,⟨some 56,.mv (.t 55),none,0⟩,⟨some 57,.fa 3 (.t 2),(some (56,true)),0⟩,⟨some 58,.ld none (.t 57),(some (56,true)),0⟩,⟨some 59,.bin .eql (.t 58) (.c (.int .i64 0)),(some (56,true)),0⟩,⟨some 60,.pick (.t 56) (.t 59) (.c (.bool false)),none,0⟩,⟨some 4,.mv (.t 60),none,0⟩]) .ret)
def qv6:XCode:=(.seq (.reg false [⟨some 63,.fa 4 (.t 2),none,0⟩,⟨some 64,.ld none (.t 63),none,0⟩,⟨some 65,.bin .eql (.t 64) (.c (.int .i64 0)),none,0⟩,⟨some 66,.mv (.t 65),none,0⟩,⟨some 67,.fa 5 (.t 2),(some (66,true)),0⟩,⟨some 68,.ld none (.t 67),(some (66,true)),0⟩,⟨some 69,.len (.t 68),(some (66,true)),0⟩,⟨some 70,.bin .eql (.t 69) (.c (.int .i64 0)),(some (66,true)),0⟩,⟨some 71,.pick (.t 66) (.t 70) (.c (.bool false)),none,0⟩,⟨some 72,.mv (.t 71),none,0⟩,⟨some 73,.fa 3 (.t 2),(some (72,true)),0⟩,⟨some 74,.ld none (.t 73),(some (72,true)),0⟩,⟨some 75,.bin .eql (.t 74) (.c (.int .i64 0)),(some (72,true)),0⟩,⟨some 76,.pick (.t 72) (.t 75) (.c (.bool false)),none,0⟩,⟨some 4,.mv (.t 76),none,0⟩]) .ret)
def qxv:XCode:=(.seq (.reg false [⟨some 79,.mv (.t 5),none,0⟩,⟨some 80,.mv (.t 79),none,0⟩,⟨some 81,.fa 3 (.t 2),(some (80,true)),0⟩,⟨some 82,.ld none (.t 81),(some (80,true)),0⟩,⟨some 83,.bin .eql (.t 82) (.c (.int .i64 0)),(some (80,true)),0⟩,⟨some 84,.pick (.t 80) (.t 83) (.c (.bool false)),none,0⟩,⟨some 85,.mv (.t 84),none,0⟩,⟨some 86,.fa 1 (.t 2),(some (85,true)),0⟩,⟨some 87,.ld none (.t 86),(some (85,true)),0⟩,⟨some 88,.bin .eql (.t 87) (.c (.int .i64 0)),(some (85,true)),0⟩,⟨some 89,.pick (.t 85) (.t 88) (.c (.bool false)),none,0⟩,⟨some 4,.mv (.t 89),none,0⟩]) .ret)
def q1a:XCode:=(.seq (.reg false [⟨some 92,.fa 2 (.t 2),none,0⟩,⟨some 93,.ld none (.t 92),none,0⟩,⟨some 94,.bin .eql (.t 93) (.c (.int .i64 0)),none,0⟩,⟨some 95,.mv (.t 94),none,0⟩,⟨some 96,.fa 4 (.t 2),(some (95,true)),0⟩,⟨some 97,.ld none (.t 96),(some (95,true)),0⟩,⟨some 98,.bin .eql (.t 97) (.c (.int .i64 0)),(some (95,true)),0⟩,⟨some 99,.pick (.t 95) (.t 98) (.c (.bool false)),none,0⟩,⟨some 100,.mv (.t 99),none,0⟩,⟨some 101,.fa 3 (.t 2),(some (100,true)),0⟩,⟨some 102,.ld none (.t 101),(some (100,true)),0⟩,⟨some 103,.bin .eql (.t 102) (.c (.int .i64 0)),(some (100,true)),0⟩,⟨some 104,.pick (.t 100) (.t 103) (.c (.bool false)),none,0⟩,⟨some 105,.mv (.t 104),none,0⟩,⟨some 106,.fa 1 (.t 2),(some (105,true)),0⟩,⟨some 107,.ld none (.t 106),(some (105,true)),0⟩,⟨some 108,.bin .eql (.t 107) (.c (.int .i64 0)),(some (105,true)),0⟩,⟨some 109,.pick (.t 105) (.t 108) (.c (.bool false)),none,0⟩,⟨some 4,.mv (.t 109),none,0⟩]) .ret)
def q2d:XCode:=(.cond (.t 112) (.seq (.reg false [⟨some 114,.mv (.t 5),none,0⟩,⟨some 4,.mv (.t 114),none,0⟩]) .ret) .skip)
def q22:XCode:=(.seq (.reg false [⟨some 113,.bin .eql (.t 52) (.c (.int .i64 6)),none,0⟩,⟨some 112,.mv (.t 113),none,0⟩]) q2d)
def qx5:XCode:=(.cond (.t 110) (.seq (.reg false [⟨some 4,.mv (.c (.bool true)),none,0⟩]) .ret) q22)
def q3b:XCode:=(.seq (.reg false [⟨some 111,.bin .eql (.t 52) (.c (.int .i64 5)),none,0⟩,⟨some 110,.mv (.t 111),none,0⟩]) qx5)
def q2t:XCode:=(.cond (.t 90) q1a q3b)
def qrj:XCode:=(.seq (.reg false [⟨some 91,.bin .eql (.t 52) (.c (.int .i64 4)),none,0⟩,⟨some 90,.mv (.t 91),none,0⟩]) q2t)
def qpe:XCode:=(.cond (.t 77) qxv qrj)
def qoz:XCode:=(.seq (.reg false [⟨some 78,.bin .eql (.t 52) (.c (.int .i64 3)),none,0⟩,⟨some 77,.mv (.t 78),none,0⟩]) qpe)
def qph:XCode:=(.cond (.t 61) qv6 qoz)
def qqa:XCode:=(.seq (.reg false [⟨some 62,.bin .eql (.t 52) (.c (.int .i64 2)),none,0⟩,⟨some 61,.mv (.t 62),none,0⟩]) qph)
def qom:XCode:=(.cond (.t 53) q3r qqa)
def qp6:XCode:=(.seq (.reg false [⟨some 54,.bin .eql (.t 52) (.c (.int .i64 1)),none,0⟩,⟨some 53,.mv (.t 54),none,0⟩]) qom)
def qtv:XCode:=(.block 0 qp6)
def qtc:XCode:=(.seq (.seq (.reg false [⟨some 51,.fa 0 (.t 2),none,0⟩,⟨some 52,.ld none (.t 51),none,0⟩]) qtv) (.seq (.reg false [⟨some 4,.mv (.c (.bool false)),none,0⟩]) .ret))
def qsk:XCode:=(.seq (.reg false [⟨some 37,.fa 2 (.t 2),none,0⟩,⟨some 38,.ld none (.t 37),none,0⟩,⟨some 39,.bin .eql (.t 38) (.c (.int .i64 0)),none,0⟩,⟨some 40,.mv (.t 39),none,0⟩,⟨some 41,.fa 4 (.t 2),(some (40,true)),0⟩,⟨some 42,.ld none (.t 41),(some (40,true)),0⟩,⟨some 43,.bin .eql (.t 42) (.c (.int .i64 0)),(some (40,true)),0⟩,⟨some 44,.pick (.t 40) (.t 43) (.c (.bool false)),none,0⟩,⟨some 45,.mv (.t 44),none,0⟩,⟨some 46,.fa 5 (.t 2),(some (45,true)),0⟩,⟨some 47,.ld none (.t 46),(some (45,true)),0⟩,⟨some 48,.len (.t 47),(some (45,true)),0⟩,⟨some 49,.bin .eql (.t 48) (.c (.int .i64 0)),(some (45,true)),0⟩,⟨some 50,.pick (.t 45) (.t 49) (.c (.bool false)),none,0⟩,⟨some 5,.mv (.t 50),none,0⟩]) qtc)
def qpb:XCode:=(.seq (.seq (.reg false [⟨some 6,.fa 1 (.t 2),none,0⟩,⟨some 7,.ld none (.t 6),none,0⟩,⟨some 8,.mv (.t 1),none,0⟩,⟨some 9,.bin .sub (.t 8) (.c (.int .i64 1)),none,0⟩,⟨some 10,.call (.c (.fn 46 [])) [(.t 7),(.c (.int .i64 0)),(.t 9)],none,0⟩,⟨some 11,.un .not (.t 10),none,0⟩,⟨some 12,.mv (.t 11),none,0⟩,⟨some 13,.fa 2 (.t 2),(some (12,false)),0⟩,⟨some 14,.ld none (.t 13),(some (12,false)),0⟩,⟨some 15,.call (.c (.fn 46 [])) [(.t 14),(.c (.int .i64 0)),(.c (.int .i64 1000))],(some (12,false)),0⟩,⟨some 16,.un .not (.t 15),(some (12,false)),0⟩,⟨some 17,.pick (.t 12) (.c (.bool true)) (.t 16),none,0⟩,⟨some 18,.mv (.t 17),none,0⟩,⟨some 19,.fa 3 (.t 2),(some (18,false)),0⟩,⟨some 20,.ld none (.t 19),(some (18,false)),0⟩,⟨some 21,.call (.c (.fn 46 [])) [(.t 20),(.c (.int .i64 0)),(.c (.int .i64 1000))],(some (18,false)),0⟩,⟨some 22,.un .not (.t 21),(some (18,false)),0⟩,⟨some 23,.pick (.t 18) (.c (.bool true)) (.t 22),none,0⟩,⟨some 24,.mv (.t 23),none,0⟩,⟨some 25,.fa 4 (.t 2),(some (24,false)),0⟩,⟨some 26,.ld none (.t 25),(some (24,false)),0⟩,⟨some 27,.call (.c (.fn 46 [])) [(.t 26),(.c (.int .i64 0)),(.c (.int .i64 1000))],(some (24,false)),0⟩,⟨some 28,.un .not (.t 27),(some (24,false)),0⟩,⟨some 29,.pick (.t 24) (.c (.bool true)) (.t 28),none,0⟩,⟨some 30,.mv (.t 29),none,0⟩,⟨some 31,.fa 5 (.t 2),(some (30,false)),0⟩,⟨some 32,.ld none (.t 31),(some (30,false)),0⟩,⟨some 33,.mv (.t 1),(some (30,false)),0⟩,⟨some 34,.call (.c (.fn 75 [])) [(.t 32),(.t 33)],(some (30,false)),0⟩,⟨some 35,.un .not (.t 34),(some (30,false)),0⟩,⟨some 36,.pick (.t 30) (.c (.bool true)) (.t 35),none,0⟩]) (.cond (.t 36) (.seq (.reg false [⟨some 4,.mv (.c (.bool false)),none,0⟩]) .ret) .skip)) qsk)
def x48:XFn:=⟨(.seq (.seq (.reg false [⟨some 2,.box 44 6 (.t 0),none,0⟩,⟨some 4,.mv (.c (.bool false)),none,0⟩]) (.frz [2])) qpb),115,[(.t 4)]⟩
theorem q9m:FnOk Try.prog T 48 x48:=⟨Try.f48,[.frz [2]],Try.func48,by decide +kernel,by kernel_rfl⟩
def qws:XCode:=(.reg false [⟨some 30,.fa 1 (.t 3),none,0⟩,⟨some 31,.ld none (.t 30),none,0⟩,⟨some 32,.ld (some 5) (.t 5),none,0⟩,⟨some 33,.buildS 39 1 [.nil,.nil,(.int .i64 0),(.int .i64 0),(.int .i64 0)] [(0,(5,(.t 32)))],none,0⟩,⟨some 34,.app 39 5 72 (.t 31) (.t 33),none,0⟩,⟨some 35,.fa 1 (.t 3),none,0⟩,⟨none,.st 1 (.t 35) (.t 34),none,0⟩])
def qyp:XCode:=(.seq (.reg false [⟨some 25,.buildS 3 0 [] [],none,0⟩,⟨some 26,.fa 1 (.t 5),none,0⟩,⟨some 27,.ld none (.t 26),none,0⟩,⟨some 28,.app 3 1 8 (.t 25) (.t 27),none,0⟩,⟨some 29,.fa 1 (.t 5),none,0⟩,⟨none,.st 1 (.t 29) (.t 28),none,0⟩]) qws)
def qzy:XCode:=(.seq (.reg false [⟨some 20,.buildS 3 0 [] [],none,0⟩,⟨some 21,.fa 0 (.t 5),none,0⟩,⟨some 22,.ld none (.t 21),none,0⟩,⟨some 23,.app 3 1 8 (.t 20) (.t 22),none,0⟩,⟨some 24,.fa 0 (.t 5),none,0⟩,⟨none,.st 1 (.t 24) (.t 23),none,0⟩]) qyp)
def q2r:XCode:=(.seq (.reg false [⟨some 18,.ia 5 (.t 14) (.t 16),none,0⟩,⟨some 19,.ld (some 5) (.t 18),none,0⟩,⟨some 5,.new 39 [.nil,.nil,(.int .i64 0),(.int .i64 0),(.int .i64 0)],none,0⟩,⟨none,.st 5 (.t 5) (.t 19),none,0⟩]) qzy)
def q72:XCode:=(.block 0 (.loop [2,3,14,15,16] (.seq (.reg false [⟨some 17,.bin .lss (.t 16) (.t 15),none,0⟩]) (.seq (.cond (.t 17) .skip (.exit 0)) (.seq (.block 1 q2r) (.reg false [⟨some 36,.bin .add (.t 16) (.c (.int .i64 1)),none,0⟩,⟨some 16,.mv (.t 36),none,0⟩]))))))
def q29:XCode:=q72
def qvr:XCode:=(.seq (.seq (.reg false [⟨some 13,.fa 1 (.t 1),none,0⟩,⟨some 14,.ld none (.t 13),none,0⟩,⟨some 15,.len (.t 14),none,0⟩,⟨some 16,.mv (.c (.int .i64 0)),none,0⟩]) q29) (.seq (.reg false [⟨some 37,.ld (some 3) (.t 3),none,0⟩,⟨none,.st 3 (.t 2) (.t 37),none,0⟩]) .ret))
def qwp:XCode:=(.seq (.reg true [⟨some 6,.buildS 86 0 [] [],none,4⟩,⟨some 3,.new 29 [.nil,.nil,(.int .i64 0)],none,1⟩,⟨some 7,.fa 0 (.t 1),none,4⟩,⟨some 8,.ld none (.t 7),none,4⟩,⟨some 9,.app 86 3 24 (.t 6) (.t 8),none,2⟩,⟨some 10,.fa 2 (.t 1),none,1⟩,⟨some 11,.ld none (.t 10),none,1⟩,⟨some 12,.build [.nil,.nil,(.int .i64 0)] [(0,(1,(.t 9))),(2,(1,(.t 11)))],none,4⟩,⟨none,.st 3 (.t 3) (.t 12),none,3⟩]) qvr)
def x76:XFn:=⟨(.seq (.seq (.reg false [⟨some 1,.box 29 3 (.t 0),none,0⟩,⟨some 2,.new 29 [.nil,.nil,(.int .i64 0)],none,0⟩]) (.frz [1])) qwp),38,[(.cell 2 (some 3))]⟩
theorem q9a:FnOk Try.prog T 76 x76:=⟨Try.f76,[.frz [1],.draw [0,7,1,2,3,4,5,6,8] [4,1,4,4,2,1,1,4,3],.loop [2,3,14,15,16]],Try.func76,by decide +kernel,by kernel_rfl⟩
def qy7:XCode:=(.cond (.t 16) (.seq (.reg false [⟨some 17,.mv (.t 5),none,0⟩,⟨some 4,.mv (.t 17),none,0⟩]) .ret) .skip)
def q0r:XCode:=(.seq (.reg false [⟨some 11,.mv (.t 1),none,0⟩,⟨some 12,.mv (.t 0),none,0⟩,⟨some 13,.mv (.t 5),none,0⟩,⟨some 14,.ia 1 (.t 12) (.t 13),none,0⟩,⟨some 15,.ld none (.t 14),none,0⟩,⟨some 16,.bin .eql (.t 11) (.t 15),none,0⟩]) qy7)
def q3g:XCode:=(.seq (.reg false [⟨some 10,.mv (.t 8),none,0⟩,⟨some 5,.mv (.t 10),none,0⟩]) q0r)
def q8b:XCode:=(.block 0 (.loop [0,1,7,8] (.seq (.reg false [⟨some 9,.bin .lss (.t 8) (.t 7),none,0⟩]) (.seq (.cond (.t 9) .skip (.exit 0)) (.seq (.block 1 q3g) (.reg false [⟨some 18,.bin .add (.t 8) (.c (.int .i64 1)),none,0⟩,⟨some 8,.mv (.t 18),none,0⟩]))))))
def qvp:XCode:=q8b
def qvv:XCode:=(.seq (.seq (.reg false [⟨some 6,.mv (.t 0),none,0⟩,⟨some 7,.len (.t 6),none,0⟩,⟨some 8,.mv (.c (.int .i64 0)),none,0⟩]) qvp) (.seq (.reg false [⟨some 4,.mv (.c (.int .i64 (-1))),none,0⟩]) .ret))
def x96:XFn:=⟨(.seq (.reg false [⟨some 4,.mv (.c (.int .i64 0)),none,0⟩]) qvv),19,[(.t 4)]⟩
theorem q87:FnOk Try.prog T 96 x96:=⟨Try.f96,[.loop [0,1,7,8]],Try.func96,by decide +kernel,by kernel_rfl⟩
def q0x:XCode:=(.seq (.reg false [⟨some 5,.mv (.t 0),none,0⟩,⟨some 6,.mv (.t 1),none,0⟩,⟨some 7,.call (.c (.fn 96 [])) [(.t 5),(.t 6)],none,0⟩,⟨some 8,.bin .geq (.t 7) (.c (.int .i64 0)),none,0⟩,⟨some 4,.mv (.t 8),none,0⟩]) .ret)
def x80:XFn:=⟨(.seq (.reg false [⟨some 4,.mv (.c (.bool false)),none,0⟩]) q0x),9,[(.t 4)]⟩
theorem q9k:FnOk Try.prog T 80 x80:=⟨Try.f80,[],Try.func80,by decide +kernel,by kernel_rfl⟩
def qn5:XCode:=(.cond (.t 16) (.seq (.reg false [⟨some 17,.mv (.t 5),none,0⟩,⟨some 4,.mv (.t 17),none,0⟩]) .ret) .skip)
def qnu:XCode:=(.seq (.reg false [⟨some 11,.mv (.t 1),none,0⟩,⟨some 12,.mv (.t 0),none,0⟩,⟨some 13,.mv (.t 5),none,0⟩,⟨some 14,.ia 1 (.t 12) (.t 13),none,0⟩,⟨some 15,.ld none (.t 14),none,0⟩,⟨some 16,.call (.t 11) [(.t 15)],none,0⟩]) qn5)
def qoh:XCode:=(.seq (.reg false [⟨some 10,.mv (.t 8),none,0⟩,⟨some 5,.mv (.t 10),none,0⟩]) qnu)
def q7k:XCode:=(.block 0 (.loop [0,1,7,8] (.seq (.reg false [⟨some 9,.bin .lss (.t 8) (.t 7),none,0⟩]) (.seq (.cond (.t 9) .skip (.exit 0)) (.seq (.block 1 qoh) (.reg false [⟨some 18,.bin .add (.t 8) (.c (.int .i64 1)),none,0⟩,⟨some 8,.mv (.t 18),none,0⟩]))))))
def qnv:XCode:=q7k
def qn6:XCode:=(.seq (.seq (.reg false [⟨some 6,.mv (.t 0),none,0⟩,⟨some 7,.len (.t 6),none,0⟩,⟨some 8,.mv (.c (.int .i64 0)),none,0⟩]) qnv) (.seq (.reg false [⟨some 4,.mv (.c (.int .i64 (-1))),none,0⟩]) .ret))
def x98:XFn:=⟨(.seq (.reg false [⟨some 4,.mv (.c (.int .i64 0)),none,0⟩]) qn6),19,[(.t 4)]⟩
theorem q9e:FnOk Try.prog T 98 x98:=⟨Try.f98,[.loop [0,1,7,8]],Try.func98,by decide +kernel,by kernel_rfl⟩
def qob:XCode:=(.seq (.reg false [⟨some 5,.mv (.t 0),none,0⟩,⟨some 6,.mv (.t 1),none,0⟩,⟨some 7,.call (.c (.fn 98 [])) [(.t 5),(.t 6)],none,0⟩,⟨some 8,.bin .geq (.t 7) (.c (.int .i64 0)),none,0⟩,⟨some 4,.mv (.t 8),none,0⟩]) .ret)
def x94:XFn:=⟨(.seq (.reg false [⟨some 4,.mv (.c (.bool false)),none,0⟩]) qob),9,[(.t 4)]⟩
theorem q9h:FnOk Try.prog T 94 x94:=⟨Try.f94,[],Try.func94,by decide +kernel,by kernel_rfl⟩
def qv1:XCode:=(.seq (.reg false [⟨some 4,.ld none (.t 1),none,0⟩,⟨some 5,.mv (.t 0),none,0⟩,⟨some 6,.call (.c (.fn 80 [])) [(.t 4),(.t 5)],none,0⟩,⟨some 7,.un .not (.t 6),none,0⟩,⟨some 3,.mv (.t 7),none,0⟩]) .ret)
def x95:XFn:=⟨(.seq (.reg false [⟨some 3,.mv (.c (.bool false)),none,0⟩]) qv1),8,[(.t 3)]⟩
theorem q89:FnOk Try.prog T 95 x95:=⟨Try.f95,[],Try.func95,by decide +kernel,by kernel_rfl⟩
def qzo:XCode:=(.seq (.reg false [⟨some 5,.mv (.t 0),none,0⟩,⟨some 6,.mkF 95 [(.t 3)],none,0⟩,⟨some 7,.call (.c (.fn 94 [])) [(.t 5),(.t 6)],none,0⟩,⟨some 8,.un .not (.t 7),none,0⟩,⟨some 4,.mv (.t 8),none,0⟩]) .ret)
def x79:XFn:=⟨(.seq (.seq (.reg false [⟨some 3,.box 30 1 (.t 1),none,0⟩,⟨some 4,.mv (.c (.bool false)),none,0⟩]) (.frz [3])) qzo),9,[(.t 4)]⟩
theorem q93:FnOk Try.prog T 79 x79:=⟨Try.f79,[.frz [3]],Try.func79,by decide +kernel,by kernel_rfl⟩
def qyv:XCode:=(.seq (.reg false [⟨some 5,.ld none (.t 1),none,0⟩,⟨some 6,.chk (.t 5),none,0⟩,⟨some 7,.fa 0 (.t 6),none,0⟩,⟨some 8,.ld none (.t 7),none,0⟩,⟨some 9,.mv (.t 0),none,0⟩,⟨some 10,.ia 3 (.t 8) (.t 9),none,0⟩,⟨some 11,.fa 2 (.t 10),none,0⟩,⟨some 12,.ld none (.t 11),none,0⟩,⟨some 13,.mv (.t 12),none,0⟩,⟨some 14,.ld none (.t 2),(some (13,true)),0⟩,⟨some 15,.chk (.t 14),(some (13,true)),0⟩,⟨some 16,.fa 1 (.t 15),(some (13,true)),0⟩,⟨some 17,.ld none (.t 16),(some (13,true)),0⟩,⟨some 18,.mv (.t 0),(some (13,true)),0⟩,⟨some 19,.call (.c (.fn 80 [])) [(.t 17),(.t 18)],(some (13,true)),0⟩,⟨some 20,.un .not (.t 19),(some (13,true)),0⟩,⟨some 21,.pick (.t 13) (.t 20) (.c (.bool false)),none,0⟩,⟨some 4,.mv (.t 21),none,0⟩]) .ret)
def x97:XFn:=⟨(.seq (.reg false [⟨some 4,.mv (.c (.bool false)),none,0⟩]) qyv),22,[(.t 4)]⟩
theorem q9v:FnOk Try.prog T 97 x97:=⟨Try.f97,[],Try.func97,by decide +kernel,by kernel_rfl⟩
def qvn:XCode:=(.seq (.reg true [⟨some 25,.fa 4 (.t 5),none,4⟩,⟨some 26,.ld none (.t 25),none,4⟩,⟨some 27,.ld none (.t 4),none,4⟩,⟨some 28,.chk (.t 27),none,4⟩,⟨some 29,.fa 4 (.t 28),none,4⟩,⟨some 30,.ld none (.t 29),none,4⟩,⟨some 31,.bin .neq (.t 26) (.t 30),none,4⟩,⟨some 24,.mv (.t 31),none,4⟩]) (.cond (.t 24) (.seq (.reg false [⟨some 6,.mv (.c (.int .i64 2)),none,0⟩]) .ret) .skip))
def qzd:XCode:=(.cond (.t 16) (.seq (.reg false [⟨some 6,.mv (.c (.int .i64 3)),none,0⟩]) .ret) qvn)
def qz4:XCode:=(.seq (.reg true [⟨some 17,.fa 1 (.t 5),none,4⟩,⟨some 18,.ld none (.t 17),none,4⟩,⟨some 19,.ld none (.t 4),none,4⟩,⟨some 20,.chk (.t 19),none,4⟩,⟨some 21,.fa 2 (.t 20),none,4⟩,⟨some 22,.ld none (.t 21),none,4⟩,⟨some 23,.bin .neq (.t 18) (.t 22),none,4⟩,⟨some 16,.mv (.t 23),none,4⟩]) qzd)
def q0w:XCode:=(.cond (.t 8) (.seq (.reg false [⟨some 6,.mv (.c (.int .i64 2)),none,0⟩]) .ret) qz4)
def qyt:XCode:=(.seq (.reg true [⟨some 9,.fa 2 (.t 5),none,4⟩,⟨some 10,.ld none (.t 9),none,4⟩,⟨some 11,.ld none (.t 4),none,4⟩,⟨some 12,.chk (.t 11),none,4⟩,⟨some 13,.fa 3 (.t 12),none,4⟩,⟨some 14,.ld none (.t 13),none,4⟩,⟨some 15,.bin .neq (.t 10) (.t 14),none,4⟩,⟨some 8,.mv (.t 15),none,4⟩]) q0w)
def q3y:XCode:=(.seq (.reg false [⟨some 64,.ld none (.t 4),none,0⟩,⟨some 65,.chk (.t 64),none,0⟩,⟨some 66,.fa 4 (.t 65),none,0⟩,⟨some 67,.ld none (.t 66),none,0⟩,⟨some 68,.bin .add (.t 67) (.c (.int .i64 1)),none,0⟩,⟨some 69,.chk (.t 64),none,0⟩,⟨some 70,.fa 4 (.t 69),none,0⟩,⟨none,.st 1 (.t 70) (.t 68),none,0⟩]) (.seq (.reg false [⟨some 6,.mv (.c (.int .i64 0)),none,0⟩]) .ret))
def qyj:XCode:=(.seq (.reg true [⟨some 57,.ld none (.t 4),none,1⟩,⟨some 58,.buildS 3 0 [] [],none,4⟩,⟨some 59,.fa 5 (.t 5),none,4⟩,⟨some 60,.ld none (.t 59),none,4⟩,⟨some 61,.app 3 1 8 (.t 58) (.t 60),none,2⟩,⟨some 62,.chk (.t 57),none,4⟩,⟨some 63,.fa 1 (.t 62),none,4⟩,⟨none,.st 1 (.t 63) (.t 61),none,3⟩]) q3y)
def q0h:XCode:=(.seq (.seq (.reg true [⟨some 36,.fa 5 (.t 5),none,4⟩,⟨some 37,.ld none (.t 36),none,4⟩,⟨some 38,.ld none (.t 4),none,4⟩,⟨some 39,.chk (.t 38),none,4⟩,⟨some 40,.fa 0 (.t 39),none,4⟩,⟨some 41,.ld none (.t 40),none,4⟩,⟨some 42,.call (.c (.fn 79 [])) [(.t 37),(.t 41)],none,3⟩,⟨some 43,.un .not (.t 42),none,4⟩,⟨some 44,.mv (.t 43),none,4⟩,⟨some 45,.fa 5 (.t 5),(some (44,false)),4⟩,⟨some 46,.ld none (.t 45),(some (44,false)),4⟩,⟨some 47,.ld none (.t 4),(some (44,false)),4⟩,⟨some 48,.chk (.t 47),(some (44,false)),4⟩,⟨some 49,.fa 2 (.t 48),(some (44,false)),4⟩,⟨some 50,.ld none (.t 49),(some (44,false)),4⟩,⟨some 51,.call (.c (.fn 80 [])) [(.t 46),(.t 50)],(some (44,false)),3⟩,⟨some 52,.un .not (.t 51),(some (44,false)),4⟩,⟨some 53,.pick (.t 44) (.c (.bool true)) (.t 52),none,4⟩,⟨some 54,.mv (.t 53),none,4⟩,⟨some 55,.mv (.t 7),(some (54,false)),4⟩,⟨some 56,.pick (.t 54) (.c (.bool true)) (.t 55),none,4⟩]) (.cond (.t 56) (.seq (.reg false [⟨some 6,.mv (.c (.int .i64 4)),none,0⟩]) .ret) .skip)) qyj)
def qzv:XCode:=(.seq (.reg false [⟨some 32,.fa 5 (.t 5),none,0⟩,⟨some 33,.ld none (.t 32),none,0⟩,⟨some 34,.mkF 97 [(.t 3),(.t 4)],none,0⟩,⟨some 35,.call (.c (.fn 94 [])) [(.t 33),(.t 34)],none,0⟩,⟨some 7,.mv (.t 35),none,0⟩]) q0h)
def qtb:XCode:=(.seq (.block 0 qyt) qzv)
def x93:XFn:=⟨(.seq (.seq (.reg false [⟨some 3,.box 118 1 (.t 0),none,0⟩,⟨some 4,.box 106 1 (.t 1),none,0⟩,⟨some 5,.box 44 6 (.t 2),none,0⟩,⟨some 6,.mv (.c (.int .i64 0)),none,0⟩]) (.frz [3,4,5])) qtb),71,[(.t 6)]⟩
theorem q8s:FnOk Try.prog T 93 x93:=⟨Try.f93,[.frz [3,4,5],.draw [0,1,2,3,4,5,6,7] [4,4,4,4,4,4,4,4],.draw [0,1,2,3,4,5,6,7] [4,4,4,4,4,4,4,4],.draw [0,1,2,3,4,5,6,7] [4,4,4,4,4,4,4,4],.draw [0,1,2,3,4,5,6,7,8,9,10,11,12,13,14,15,16,17,18,19,20] [4,4,4,4,4,4,3,4,4,4,4,4,4,4,4,3,4,4,4,4,4],.draw [0,1,2,3,4,5,6,7] [1,4,4,4,2,4,4,3]],Try.func93,by decide +kernel,by kernel_rfl⟩
def q25:XCode:=(.reg false [⟨some 34,.mv (.t 0),none,0⟩,⟨some 35,.chk (.t 34),none,0⟩,⟨some 36,.fa 2 (.t 35),none,0⟩,⟨some 37,.ld none (.t 36),none,0⟩,⟨some 38,.bin .add (.t 37) (.c (.int .i64 1)),none,0⟩,⟨some 39,.chk (.t 34),none,0⟩,⟨some 40,.fa 2 (.t 39),none,0⟩,⟨none,.st 1 (.t 40) (.t 38),none,0⟩])
def q27:XCode:=(.seq (.reg false [⟨some 31,.mv (.t 5),none,0⟩,⟨some 32,.chk (.t 31),none,0⟩,⟨some 33,.fa 1 (.t 32),none,0⟩,⟨none,.st 1 (.t 33) (.c (.int .i64 9)),none,0⟩]) q25)
def q1v:XCode:=(.seq (.reg false [⟨some 24,.mv (.t 5),none,0⟩,⟨some 25,.mv (.t 0),none,0⟩,⟨some 26,.chk (.t 25),none,0⟩,⟨some 27,.fa 2 (.t 26),none,0⟩,⟨some 28,.ld none (.t 27),none,0⟩,⟨some 29,.chk (.t 24),none,0⟩,⟨some 30,.fa 0 (.t 29),none,0⟩,⟨none,.st 1 (.t 30) (.t 28),none,0⟩]) q27)
def q2k:XCode:=(.seq (.seq (.reg false [⟨some 19,.mv (.t 0),none,0⟩,⟨some 20,.chk (.t 19),none,0⟩,⟨some 21,.fa 2 (.t 20),none,0⟩,⟨some 22,.ld none (.t 21),none,0⟩,⟨some 23,.bin .eql (.t 22) (.c (.int .i64 1000)),none,0⟩]) (.cond (.t 23) (.seq (.reg false [⟨some 4,.mv (.c (.int .i64 4)),none,0⟩]) .ret) .skip)) q1v)
def q39:XCode:=(.reg false [⟨some 55,.mv (.t 5),none,0⟩,⟨some 56,.chk (.t 55),none,0⟩,⟨some 57,.fa 1 (.t 56),none,0⟩,⟨none,.st 1 (.t 57) (.c (.int .i64 9)),none,0⟩])
def q2b:XCode:=(.seq (.seq (.reg true [⟨some 48,.mv (.t 5),none,4⟩,⟨some 49,.chk (.t 48),none,4⟩,⟨some 50,.fa 0 (.t 49),none,4⟩,⟨some 51,.ld none (.t 50),none,4⟩,⟨some 52,.fa 2 (.t 3),none,4⟩,⟨some 53,.ld none (.t 52),none,4⟩,⟨some 54,.bin .neq (.t 51) (.t 53),none,4⟩]) (.cond (.t 54) (.seq (.reg false [⟨some 4,.mv (.c (.int .i64 2)),none,0⟩]) .ret) .skip)) q39)
def q1s:XCode:=(.seq (.seq (.reg false [⟨some 43,.mv (.t 5),none,0⟩,⟨some 44,.chk (.t 43),none,0⟩,⟨some 45,.fa 0 (.t 44),none,0⟩,⟨some 46,.ld none (.t 45),none,0⟩,⟨some 47,.bin .eql (.t 46) (.c (.int .i64 0)),none,0⟩]) (.cond (.t 47) (.seq (.reg false [⟨some 4,.mv (.c (.int .i64 1)),none,0⟩]) .ret) .skip)) q2b)
def q3u:XCode:=(.reg true [⟨some 68,.mv (.t 0),none,4⟩,⟨some 69,.chk (.t 68),none,4⟩,⟨some 70,.fa 0 (.t 69),none,4⟩,⟨some 71,.ld none (.t 70),none,4⟩,⟨some 72,.mv (.t 6),none,4⟩,⟨some 73,.mv (.t 0),none,4⟩,⟨some 74,.chk (.t 73),none,4⟩,⟨some 75,.fa 0 (.t 74),none,4⟩,⟨some 76,.ld none (.t 75),none,4⟩,⟨some 77,.mv (.t 6),none,4⟩,⟨some 78,.ia 3 (.t 76) (.t 77),none,4⟩,⟨some 79,.fa 1 (.t 78),none,4⟩,⟨some 80,.ld none (.t 79),none,4⟩,⟨some 81,.bin .sub (.t 80) (.c (.int .i64 1)),none,4⟩,⟨some 82,.mnx true [(.t 81),(.c (.int .i64 0))],none,4⟩,⟨some 83,.ia 3 (.t 71) (.t 72),none,4⟩,⟨some 84,.fa 1 (.t 83),none,4⟩,⟨none,.st 1 (.t 84) (.t 82),none,3⟩])
def qv9:XCode:=(.seq (.reg false [⟨some 67,.mv (.t 65),none,0⟩,⟨some 6,.mv (.t 67),none,0⟩]) q3u)
def q5h:XCode:=(.block 1 (.loop [0,64,65] (.seq (.reg false [⟨some 66,.bin .lss (.t 65) (.t 64),none,0⟩]) (.seq (.cond (.t 66) .skip (.exit 1)) (.seq (.block 2 qv9) (.reg false [⟨some 85,.bin .add (.t 65) (.c (.int .i64 1)),none,0⟩,⟨some 65,.mv (.t 85),none,0⟩]))))))
def qq6:XCode:=q5h
def qri:XCode:=(.seq (.reg false [⟨some 60,.mv (.t 0),none,0⟩,⟨some 61,.chk (.t 60),none,0⟩,⟨some 62,.fa 0 (.t 61),none,0⟩,⟨some 63,.ld none (.t 62),none,0⟩,⟨some 64,.len (.t 63),none,0⟩,⟨some 65,.mv (.c (.int .i64 0)),none,0⟩]) qq6)
def qqb:XCode:=(.reg true [⟨some 105,.buildS 3 0 [] [],none,4⟩,⟨some 106,.fa 5 (.t 3),none,4⟩,⟨some 107,.ld none (.t 106),none,4⟩,⟨some 109,.buildS 3 0 [] [],none,1⟩,⟨some 110,.fa 5 (.t 3),none,1⟩,⟨some 111,.ld none (.t 110),none,1⟩,⟨some 100,.mv (.t 0),none,1⟩,⟨some 101,.mv (.t 0),none,1⟩,⟨some 102,.chk (.t 101),none,1⟩,⟨some 103,.fa 1 (.t 102),none,1⟩,⟨some 104,.ld none (.t 103),none,1⟩,⟨some 108,.app 3 1 8 (.t 105) (.t 107),none,2⟩,⟨some 112,.app 3 1 8 (.t 109) (.t 111),none,2⟩,⟨some 113,.build [.nil,.nil,(.int .i64 0),(.int .i64 0),(.int .i64 0)] [(0,(1,(.t 108))),(1,(1,(.t 112))),(2,(1,(.c (.int .i64 (-1)))))],none,4⟩,⟨some 114,.buildS 39 1 [.nil,.nil,(.int .i64 0),(.int .i64 0),(.int .i64 0)] [(0,(5,(.t 113)))],none,4⟩,⟨some 115,.app 39 5 72 (.t 104) (.t 114),none,3⟩,⟨some 116,.chk (.t 100),none,4⟩,⟨some 117,.fa 1 (.t 116),none,4⟩,⟨none,.st 1 (.t 117) (.t 115),none,3⟩])
def qp2:XCode:=(.seq (.seq (.reg false [⟨some 88,.fa 5 (.t 3),none,0⟩,⟨some 89,.ld none (.t 88),none,0⟩,⟨some 90,.len (.t 89),none,0⟩,⟨some 91,.bin .eql (.t 90) (.c (.int .i64 0)),none,0⟩,⟨some 92,.mv (.t 91),none,0⟩,⟨some 93,.mv (.t 0),(some (92,false)),0⟩,⟨some 94,.chk (.t 93),(some (92,false)),0⟩,⟨some 95,.fa 1 (.t 94),(some (92,false)),0⟩,⟨some 96,.ld none (.t 95),(some (92,false)),0⟩,⟨some 97,.len (.t 96),(some (92,false)),0⟩,⟨some 98,.bin .eql (.t 97) (.c (.int .i64 5)),(some (92,false)),0⟩,⟨some 99,.pick (.t 92) (.c (.bool true)) (.t 98),none,0⟩]) (.cond (.t 99) (.seq (.reg false [⟨some 4,.mv (.c (.int .i64 4)),none,0⟩]) .ret) .skip)) qqb)
def qsd:XCode:=(.cond (.t 118) .skip (.reg false [⟨some 120,.bin .eql (.t 16) (.c (.int .i64 6)),none,0⟩,⟨some 118,.mv (.t 120),none,0⟩]))
def qr5:XCode:=(.seq (.reg false [⟨some 153,.mv (.t 7),none,0⟩,⟨some 154,.fa 1 (.t 3),none,0⟩,⟨some 155,.ld none (.t 154),none,0⟩,⟨some 156,.chk (.t 153),none,0⟩,⟨some 157,.fa 2 (.t 156),none,0⟩,⟨none,.st 1 (.t 157) (.t 155),none,0⟩]) (.seq (.reg false [⟨some 4,.mv (.c (.int .i64 0)),none,0⟩]) .ret))
def qp7:XCode:=(.seq (.seq (.reg true [⟨some 139,.mv (.t 7),none,4⟩,⟨some 140,.chk (.t 139),none,4⟩,⟨some 141,.fa 1 (.t 140),none,4⟩,⟨some 142,.ld none (.t 141),none,4⟩,⟨some 143,.fa 1 (.t 3),none,4⟩,⟨some 144,.ld none (.t 143),none,4⟩,⟨some 145,.call (.c (.fn 80 [])) [(.t 142),(.t 144)],none,3⟩,⟨some 146,.un .not (.t 145),none,4⟩,⟨some 147,.mv (.t 146),none,4⟩,⟨some 148,.mv (.t 5),(some (147,false)),4⟩,⟨some 149,.chk (.t 148),(some (147,false)),4⟩,⟨some 150,.fa 2 (.t 149),(some (147,false)),4⟩,⟨some 151,.ld none (.t 150),(some (147,false)),4⟩,⟨some 152,.pick (.t 147) (.c (.bool true)) (.t 151),none,4⟩]) (.cond (.t 152) (.seq (.reg false [⟨some 4,.mv (.c (.int .i64 4)),none,0⟩]) .ret) .skip)) qr5)
def qry:XCode:=(.cond (.t 138) qp7 .skip)
def qrf:XCode:=(.seq (.reg false [⟨some 158,.mv (.t 0),none,0⟩,⟨some 159,.mv (.t 7),none,0⟩,⟨some 160,.ld (some 6) (.t 3),none,0⟩,⟨some 161,.call (.c (.fn 93 [])) [(.t 158),(.t 159),(.t 160)],none,0⟩,⟨some 4,.mv (.t 161),none,0⟩]) .ret)
def qpg:XCode:=(.seq (.seq (.reg false [⟨some 136,.fa 0 (.t 3),none,0⟩,⟨some 137,.ld none (.t 136),none,0⟩,⟨some 138,.bin .eql (.t 137) (.c (.int .i64 6)),none,0⟩]) qry) qrf)
def qqg:XCode:=(.seq (.reg true [⟨some 129,.mv (.t 0),none,4⟩,⟨some 130,.chk (.t 129),none,4⟩,⟨some 131,.fa 1 (.t 130),none,4⟩,⟨some 132,.ld none (.t 131),none,4⟩,⟨some 133,.fa 3 (.t 3),none,4⟩,⟨some 134,.ld none (.t 133),none,4⟩,⟨some 135,.ia 5 (.t 132) (.t 134),none,4⟩,⟨some 7,.mv (.t 135),none,4⟩]) qpg)
def qrn:XCode:=(.seq (.seq (.reg true [⟨some 121,.fa 3 (.t 3),none,4⟩,⟨some 122,.ld none (.t 121),none,4⟩,⟨some 123,.mv (.t 0),none,4⟩,⟨some 124,.chk (.t 123),none,4⟩,⟨some 125,.fa 1 (.t 124),none,4⟩,⟨some 126,.ld none (.t 125),none,4⟩,⟨some 127,.len (.t 126),none,4⟩,⟨some 128,.bin .geq (.t 122) (.t 127),none,4⟩]) (.cond (.t 128) (.seq (.reg false [⟨some 4,.mv (.c (.int .i64 1)),none,0⟩]) .ret) .skip)) qqg)
def qrt:XCode:=(.cond (.t 118) qrn .skip)
def qte:XCode:=(.seq (.seq (.reg false [⟨some 119,.bin .eql (.t 16) (.c (.int .i64 5)),none,0⟩,⟨some 118,.mv (.t 119),none,0⟩]) qsd) qrt)
def qox:XCode:=(.cond (.t 86) qp2 qte)
def qtu:XCode:=(.seq (.reg false [⟨some 87,.bin .eql (.t 16) (.c (.int .i64 4)),none,0⟩,⟨some 86,.mv (.t 87),none,0⟩]) qox)
def qo7:XCode:=(.cond (.t 58) qri qtu)
def qpw:XCode:=(.seq (.reg false [⟨some 59,.bin .eql (.t 16) (.c (.int .i64 3)),none,0⟩,⟨some 58,.mv (.t 59),none,0⟩]) qo7)
def qrb:XCode:=(.cond (.t 41) q1s qpw)
def qpu:XCode:=(.seq (.reg false [⟨some 42,.bin .eql (.t 16) (.c (.int .i64 2)),none,0⟩,⟨some 41,.mv (.t 42),none,0⟩]) qrb)
def qs1:XCode:=(.cond (.t 17) q2k qpu)
def qpx:XCode:=(.seq (.reg false [⟨some 18,.bin .eql (.t 16) (.c (.int .i64 1)),none,0⟩,⟨some 17,.mv (.t 18),none,0⟩]) qs1)
def qpi:XCode:=(.block 0 qpx)
def qqw:XCode:=(.seq (.seq (.reg false [⟨some 15,.fa 0 (.t 3),none,0⟩,⟨some 16,.ld none (.t 15),none,0⟩]) qpi) (.seq (.reg false [⟨some 4,.mv (.c (.int .i64 0)),none,0⟩]) .ret))
def qtm:XCode:=(.seq (.reg true [⟨some 8,.mv (.t 0),none,4⟩,⟨some 9,.chk (.t 8),none,4⟩,⟨some 10,.fa 0 (.t 9),none,4⟩,⟨some 11,.ld none (.t 10),none,4⟩,⟨some 12,.fa 1 (.t 3),none,4⟩,⟨some 13,.ld none (.t 12),none,4⟩,⟨some 14,.ia 3 (.t 11) (.t 13),none,4⟩,⟨some 5,.mv (.t 14),none,4⟩]) qqw)
def x77:XFn:=⟨(.seq (.seq (.reg false [⟨some 3,.box 44 6 (.t 1),none,0⟩,⟨some 4,.mv (.c (.int .i64 0)),none,0⟩]) (.frz [3])) qtm),162,[(.t 4)]⟩
theorem q9i:FnOk Try.prog T 77 x77:=⟨Try.f77,[.frz [3],.draw [0,1,2,3,4,5,6,7] [4,4,4,4,4,4,4,4],.draw [0,1,2,3,4,5,6] [4,4,4,4,4,4,4],.loop [0,64,65],.draw [0,1,2,3,4,5,6,7,8,9,10,11,12,13,14,15,16,17] [4,4,4,4,4,4,4,4,4,4,4,4,4,4,4,4,4,3],.draw [5,6,7,9,10,11,0,1,2,3,4,8,12,13,14,15,16,17,18] [4,4,4,1,1,1,1,1,1,1,1,2,2,4,4,3,4,4,3],.draw [0,1,2,3,4,5,6,7] [4,4,4,4,4,4,4,4],.draw [0,1,2,3,4,5,6,7] [4,4,4,4,4,4,4,4],.draw [0,1,2,3,4,5,6,7,8,9,10,11,12,13] [4,4,4,4,4,4,3,4,4,4,4,4,4,4]],Try.func77,by decide +kernel,by kernel_rfl⟩
def q17:XCode:=(.cond (.t 19) (.seq (.reg false [⟨some 20,.mv (.t 6),none,0⟩,⟨some 4,.mv (.t 20),none,0⟩]) .ret) .skip)
def q1o:XCode:=(.seq (.reg false [⟨some 13,.fa 0 (.t 2),none,0⟩,⟨some 14,.ld none (.t 13),none,0⟩,⟨some 15,.mv (.t 6),none,0⟩,⟨some 16,.ia 3 (.t 14) (.t 15),none,0⟩,⟨some 17,.fa 2 (.t 16),none,0⟩,⟨some 18,.ld none (.t 17),none,0⟩,⟨some 19,.un .not (.t 18),none,0⟩]) q17)
def qxp:XCode:=(.seq (.reg false [⟨some 11,.ia 1 (.t 7) (.t 9),none,0⟩,⟨some 12,.ld none (.t 11),none,0⟩,⟨some 6,.mv (.t 12),none,0⟩]) q1o)
def q8f:XCode:=(.block 0 (.loop [2,7,8,9] (.seq (.reg false [⟨some 10,.bin .lss (.t 9) (.t 8),none,0⟩]) (.seq (.cond (.t 10) .skip (.exit 0)) (.seq (.block 1 qxp) (.reg false [⟨some 21,.bin .add (.t 9) (.c (.int .i64 1)),none,0⟩,⟨some 9,.mv (.t 21),none,0⟩]))))))
def qvq:XCode:=q8f
def q16:XCode:=(.seq (.seq (.reg false [⟨some 7,.mv (.t 1),none,0⟩,⟨some 8,.len (.t 7),none,0⟩,⟨some 9,.mv (.c (.int .i64 0)),none,0⟩]) qvq) (.seq (.reg false [⟨some 4,.mv (.c (.int .i64 (-1))),none,0⟩]) .ret))
def x78:XFn:=⟨(.seq (.seq (.reg false [⟨some 2,.box 29 3 (.t 0),none,0⟩,⟨some 4,.mv (.c (.int .i64 0)),none,0⟩]) (.frz [2])) q16),22,[(.t 4)]⟩
theorem q82:FnOk Try.prog T 78 x78:=⟨Try.f78,[.frz [2],.loop [2,7,8,9]],Try.func78,by decide +kernel,by kernel_rfl⟩
def qwi:XCode:=(.seq (.reg false [⟨some 17,.ld (some 3) (.t 2),none,0⟩,⟨some 18,.call (.c (.fn 76 [])) [(.t 17)],none,0⟩,⟨some 19,.mv (.t 7),none,0⟩,⟨none,.st 3 (.t 4) (.t 18),none,0⟩,⟨some 5,.mv (.t 19),none,0⟩]) .ret)
def q00:XCode:=(.cond (.t 16) qwi .skip)
def qzn:XCode:=(.reg true [⟨some 26,.fa 0 (.t 6),none,4⟩,⟨some 27,.ld none (.t 26),none,4⟩,⟨some 28,.mv (.t 8),none,4⟩,⟨some 29,.fa 0 (.t 6),none,4⟩,⟨some 30,.ld none (.t 29),none,4⟩,⟨some 31,.mv (.t 8),none,4⟩,⟨some 32,.ia 3 (.t 30) (.t 31),none,4⟩,⟨some 33,.fa 1 (.t 32),none,4⟩,⟨some 34,.ld none (.t 33),none,4⟩,⟨some 35,.bin .eql (.t 34) (.c (.int .i64 0)),none,4⟩,⟨some 36,.ia 3 (.t 27) (.t 28),none,4⟩,⟨some 37,.fa 2 (.t 36),none,4⟩,⟨none,.st 1 (.t 37) (.t 35),none,3⟩])
def qz6:XCode:=(.seq (.reg false [⟨some 25,.mv (.t 23),none,0⟩,⟨some 8,.mv (.t 25),none,0⟩]) qzn)
def q79:XCode:=(.block 0 (.loop [2,4,6,22,23] (.seq (.reg false [⟨some 24,.bin .lss (.t 23) (.t 22),none,0⟩]) (.seq (.cond (.t 24) .skip (.exit 0)) (.seq (.block 1 qz6) (.reg false [⟨some 38,.bin .add (.t 23) (.c (.int .i64 1)),none,0⟩,⟨some 23,.mv (.t 38),none,0⟩]))))))
def qz8:XCode:=q79
def qzk:XCode:=(.reg true [⟨some 65,.mv (.t 10),none,1⟩,⟨some 66,.ld (some 3) (.t 6),none,4⟩,⟨some 67,.mv (.t 10),none,4⟩,⟨some 68,.chk (.t 67),none,4⟩,⟨some 69,.fa 1 (.t 68),none,4⟩,⟨some 70,.ld none (.t 69),none,4⟩,⟨some 71,.call (.c (.fn 78 [])) [(.t 66),(.t 70)],none,3⟩,⟨some 72,.chk (.t 65),none,4⟩,⟨some 73,.fa 2 (.t 72),none,4⟩,⟨none,.st 1 (.t 73) (.t 71),none,3⟩])
def q3d:XCode:=(.cond (.t 64) qzk .skip)
def qyk:XCode:=(.reg false [⟨some 104,.mv (.t 10),none,0⟩,⟨some 105,.chk (.t 104),none,0⟩,⟨some 106,.fa 3 (.t 105),none,0⟩,⟨some 107,.ld none (.t 106),none,0⟩,⟨some 108,.bin .add (.t 107) (.c (.int .i64 1)),none,0⟩,⟨some 109,.chk (.t 104),none,0⟩,⟨some 110,.fa 3 (.t 109),none,0⟩,⟨none,.st 1 (.t 110) (.t 108),none,0⟩])
def qsr:XCode:=(.cond (.t 103) qyk .skip)
def qqj:XCode:=(.seq (.reg false [⟨some 99,.mv (.t 10),none,0⟩,⟨some 100,.chk (.t 99),none,0⟩,⟨some 101,.fa 2 (.t 100),none,0⟩,⟨some 102,.ld none (.t 101),none,0⟩,⟨some 103,.bin .neq (.t 102) (.c (.int .i64 (-1))),none,0⟩]) qsr)
def qrx:XCode:=(.seq (.reg false [⟨some 92,.mv (.t 10),none,0⟩,⟨some 93,.chk (.t 92),none,0⟩,⟨some 94,.fa 4 (.t 93),none,0⟩,⟨some 95,.ld none (.t 94),none,0⟩,⟨some 96,.bin .add (.t 95) (.c (.int .i64 1)),none,0⟩,⟨some 97,.chk (.t 92),none,0⟩,⟨some 98,.fa 4 (.t 97),none,0⟩,⟨none,.st 1 (.t 98) (.t 96),none,0⟩]) qqj)
def qr3:XCode:=(.cond (.t 91) qrx .skip)
def qo8:XCode:=(.seq (.reg false [⟨some 123,.ld (some 3) (.t 2),none,0⟩,⟨some 124,.call (.c (.fn 76 [])) [(.t 123)],none,0⟩,⟨none,.st 3 (.t 4) (.t 124),none,0⟩,⟨some 5,.mv (.c (.int .i64 4)),none,0⟩]) .ret)
def qtd:XCode:=(.cond (.t 122) qo8 .skip)
def qti:XCode:=(.seq (.reg false [⟨some 111,.mv (.t 10),none,0⟩,⟨some 112,.chk (.t 111),none,0⟩,⟨some 113,.fa 4 (.t 112),none,0⟩,⟨some 114,.ld none (.t 113),none,0⟩,⟨some 115,.bin .gtr (.t 114) (.c (.int .i64 1000)),none,0⟩,⟨some 116,.mv (.t 115),none,0⟩,⟨some 117,.mv (.t 10),(some (116,false)),0⟩,⟨some 118,.chk (.t 117),(some (116,false)),0⟩,⟨some 119,.fa 3 (.t 118),(some (116,false)),0⟩,⟨some 120,.ld none (.t 119),(some (116,false)),0⟩,⟨some 121,.bin .gtr (.t 120) (.c (.int .i64 1000)),(some (116,false)),0⟩,⟨some 122,.pick (.t 116) (.c (.bool true)) (.t 121),none,0⟩]) qtd)
def qo5:XCode:=(.seq (.seq (.reg true [⟨some 74,.mv (.t 9),none,4⟩,⟨some 75,.fa 1 (.t 2),none,4⟩,⟨some 76,.ld none (.t 75),none,4⟩,⟨some 77,.len (.t 76),none,4⟩,⟨some 78,.bin .geq (.t 74) (.t 77),none,4⟩,⟨some 79,.mv (.t 78),none,4⟩,⟨some 80,.mv (.t 10),(some (79,false)),4⟩,⟨some 81,.chk (.t 80),(some (79,false)),4⟩,⟨some 82,.fa 2 (.t 81),(some (79,false)),4⟩,⟨some 83,.ld none (.t 82),(some (79,false)),4⟩,⟨some 84,.fa 1 (.t 2),(some (79,false)),4⟩,⟨some 85,.ld none (.t 84),(some (79,false)),4⟩,⟨some 86,.mv (.t 9),(some (79,false)),4⟩,⟨some 87,.ia 5 (.t 85) (.t 86),(some (79,false)),4⟩,⟨some 88,.fa 2 (.t 87),(some (79,false)),4⟩,⟨some 89,.ld none (.t 88),(some (79,false)),4⟩,⟨some 90,.bin .neq (.t 83) (.t 89),(some (79,false)),4⟩,⟨some 91,.pick (.t 79) (.c (.bool true)) (.t 90),none,4⟩]) qr3) qti)
def qs6:XCode:=(.seq (.seq (.reg true [⟨some 49,.mv (.t 10),none,4⟩,⟨some 50,.chk (.t 49),none,4⟩,⟨some 51,.fa 2 (.t 50),none,4⟩,⟨some 52,.ld none (.t 51),none,4⟩,⟨some 53,.bin .eql (.t 52) (.c (.int .i64 (-1))),none,4⟩,⟨some 54,.mv (.t 53),none,4⟩,⟨some 55,.fa 0 (.t 6),(some (54,false)),4⟩,⟨some 56,.ld none (.t 55),(some (54,false)),4⟩,⟨some 57,.mv (.t 10),(some (54,false)),4⟩,⟨some 58,.chk (.t 57),(some (54,false)),4⟩,⟨some 59,.fa 2 (.t 58),(some (54,false)),4⟩,⟨some 60,.ld none (.t 59),(some (54,false)),4⟩,⟨some 61,.ia 3 (.t 56) (.t 60),(some (54,false)),4⟩,⟨some 62,.fa 2 (.t 61),(some (54,false)),4⟩,⟨some 63,.ld none (.t 62),(some (54,false)),4⟩,⟨some 64,.pick (.t 54) (.c (.bool true)) (.t 63),none,4⟩]) q3d) qo5)
def qoo:XCode:=(.seq (.reg false [⟨some 45,.fa 1 (.t 6),none,0⟩,⟨some 46,.ld none (.t 45),none,0⟩,⟨some 47,.mv (.t 9),none,0⟩,⟨some 48,.ia 5 (.t 46) (.t 47),none,0⟩,⟨some 10,.mv (.t 48),none,0⟩]) qs6)
def qo3:XCode:=(.seq (.reg false [⟨some 44,.mv (.t 42),none,0⟩,⟨some 9,.mv (.t 44),none,0⟩]) qoo)
def q6g:XCode:=(.block 2 (.loop [2,4,6,41,42] (.seq (.reg false [⟨some 43,.bin .lss (.t 42) (.t 41),none,0⟩]) (.seq (.cond (.t 43) .skip (.exit 2)) (.seq (.block 3 qo3) (.reg false [⟨some 125,.bin .add (.t 42) (.c (.int .i64 1)),none,0⟩,⟨some 42,.mv (.t 125),none,0⟩]))))))
def qqz:XCode:=q6g
def qqh:XCode:=(.seq (.seq (.reg false [⟨some 39,.fa 1 (.t 6),none,0⟩,⟨some 40,.ld none (.t 39),none,0⟩,⟨some 41,.len (.t 40),none,0⟩,⟨some 42,.mv (.c (.int .i64 0)),none,0⟩]) qqz) (.seq (.reg false [⟨some 126,.ld (some 3) (.t 6),none,0⟩,⟨none,.st 3 (.t 4) (.t 126),none,0⟩,⟨some 5,.mv (.c (.int .i64 0)),none,0⟩]) .ret))
def qqq:XCode:=(.seq (.seq (.reg false [⟨some 20,.fa 0 (.t 6),none,0⟩,⟨some 21,.ld none (.t 20),none,0⟩,⟨some 22,.len (.t 21),none,0⟩,⟨some 23,.mv (.c (.int .i64 0)),none,0⟩]) qz8) qqh)
def qr1:XCode:=(.seq (.seq (.reg false [⟨some 15,.mv (.t 7),none,0⟩,⟨some 16,.bin .neq (.t 15) (.c (.int .i64 0)),none,0⟩]) q00) qqq)
def qow:XCode:=(.seq (.reg false [⟨some 13,.ld (some 6) (.t 3),none,0⟩,⟨some 14,.call (.c (.fn 77 [])) [(.t 6),(.t 13)],none,0⟩,⟨some 7,.mv (.t 14),none,0⟩]) qr1)
def qst:XCode:=(.seq (.reg false [⟨some 11,.ld (some 3) (.t 2),none,0⟩,⟨some 12,.call (.c (.fn 76 [])) [(.t 11)],none,0⟩,⟨some 6,.new 29 [.nil,.nil,(.int .i64 0)],none,0⟩,⟨none,.st 3 (.t 6) (.t 12),none,0⟩]) qow)
def x49:XFn:=⟨(.seq (.seq (.reg false [⟨some 2,.box 29 3 (.t 0),none,0⟩,⟨some 3,.box 44 6 (.t 1),none,0⟩,⟨some 4,.new 29 [.nil,.nil,(.int .i64 0)],none,0⟩,⟨some 5,.mv (.c (.int .i64 0)),none,0⟩]) (.frz [2,3])) qst),127,[(.cell 4 (some 3)),(.t 5)]⟩
theorem q9f:FnOk Try.prog T 49 x49:=⟨Try.f49,[.frz [2,3],.loop [2,4,6,22,23],.draw [0,1,2,3,4,5,6,7,8,9,10,11,12] [4,4,4,4,4,4,4,4,4,4,4,4,3],.loop [2,4,6,41,42],.draw [0,1,2,3,4,5,6,7,8,9,10,11,12,13,14,15] [4,4,4,4,4,4,4,4,4,4,4,4,4,4,4,4],.draw [0,1,2,3,4,5,6,7,8,9] [1,4,4,4,4,4,3,4,4,3],.draw [0,1,2,3,4,5,6,7,8,9,10,11,12,13,14,15,16,17] [4,4,4,4,4,4,4,4,4,4,4,4,4,4,4,4,4,4]],Try.func49,by decide +kernel,by kernel_rfl⟩
def q5j:XCode:=(.seq (.reg false [⟨some 21,.build [.nil,.nil,(.int .i64 0)] [],none,0⟩,⟨none,.st 3 (.t 4) (.t 21),none,0⟩,⟨some 5,.mv (.c .nil),none,0⟩,⟨some 6,.mv (.c (.bool false)),none,0⟩]) .ret)
def q5w:XCode:=(.cond (.t 20) q5j .skip)
def q6n:XCode:=(.seq (.reg false [⟨some 35,.build [.nil,.nil,(.int .i64 0)] [],none,0⟩,⟨none,.st 3 (.t 4) (.t 35),none,0⟩,⟨some 5,.mv (.c .nil),none,0⟩,⟨some 6,.mv (.c (.bool false)),none,0⟩]) .ret)
def q6z:XCode:=(.cond (.t 34) q6n .skip)
def q6l:XCode:=(.reg false [⟨some 43,.mv (.t 8),none,0⟩,⟨some 44,.mv (.t 12),none,0⟩,⟨some 45,.buildS 3 1 [(.int .i64 0)] [(0,(1,(.t 44)))],none,0⟩,⟨some 46,.app 3 1 8 (.t 43) (.t 45),none,0⟩,⟨some 8,.mv (.t 46),none,0⟩])
def q54:XCode:=(.seq (.reg false [⟨some 42,.ld (some 3) (.t 11),none,0⟩,⟨none,.st 3 (.t 7) (.t 42),none,0⟩]) q6l)
def q5p:XCode:=(.seq (.seq (.reg false [⟨some 37,.ld (some 3) (.t 7),none,0⟩,⟨some 38,.ld (some 6) (.t 10),none,0⟩,⟨some 39,.call (.c (.fn 49 [])) [(.t 37),(.t 38)],none,0⟩,⟨some 36,.mv (.t 39),none,0⟩,⟨some 40,.ext (.t 36) 0,none,0⟩,⟨some 41,.ext (.t 36) 1,none,0⟩,⟨some 11,.new 29 [.nil,.nil,(.int .i64 0)],none,0⟩,⟨none,.st 3 (.t 11) (.t 40),none,0⟩,⟨some 12,.mv (.t 41),none,0⟩]) (.frz [11])) q54)
def q5e:XCode:=(.seq (.seq (.reg false [⟨some 31,.ld (some 6) (.t 10),none,0⟩,⟨some 32,.mv (.t 0),none,0⟩,⟨some 33,.call (.c (.fn 48 [])) [(.t 31),(.t 32)],none,0⟩,⟨some 34,.un .not (.t 33),none,0⟩]) q6z) q5p)
def q5z:XCode:=(.seq (.seq (.reg false [⟨some 29,.ia 6 (.t 25) (.t 27),none,0⟩,⟨some 30,.ld (some 6) (.t 29),none,0⟩,⟨some 10,.new 44 [(.int .i64 0),(.int .i64 0),(.int .i64 0),(.int .i64 0),(.int .i64 0),.nil],none,0⟩,⟨none,.st 6 (.t 10) (.t 30),none,0⟩]) (.frz [10])) q5e)
def q73:XCode:=(.block 0 (.loop [0,4,7,8,25,26,27] (.seq (.reg false [⟨some 28,.bin .lss (.t 27) (.t 26),none,0⟩]) (.seq (.cond (.t 28) .skip (.exit 0)) (.seq (.block 1 q5z) (.reg false [⟨some 47,.bin .add (.t 27) (.c (.int .i64 1)),none,0⟩,⟨some 27,.mv (.t 47),none,0⟩]))))))
def qzz:XCode:=q73
def qwf:XCode:=(.seq (.reg false [⟨some 48,.ld (some 3) (.t 7),none,0⟩,⟨some 49,.mv (.t 8),none,0⟩,⟨none,.st 3 (.t 4) (.t 48),none,0⟩,⟨some 5,.mv (.t 49),none,0⟩,⟨some 6,.mv (.c (.bool true)),none,0⟩]) .ret)
def q08:XCode:=(.seq (.seq (.reg false [⟨some 25,.mv (.t 1),none,0⟩,⟨some 26,.len (.t 25),none,0⟩,⟨some 27,.mv (.c (.int .i64 0)),none,0⟩]) qzz) qwf)
def qxc:XCode:=(.seq (.reg false [⟨some 24,.buildS 3 0 [] [],none,0⟩,⟨some 8,.mv (.t 24),none,0⟩]) q08)
def qw7:XCode:=(.seq (.reg false [⟨some 22,.mv (.t 0),none,0⟩,⟨some 23,.call (.c (.fn 47 [])) [(.t 22)],none,0⟩,⟨some 7,.new 29 [.nil,.nil,(.int .i64 0)],none,0⟩,⟨none,.st 3 (.t 7) (.t 23),none,0⟩]) qxc)
def q2h:XCode:=(.seq (.seq (.reg false [⟨some 13,.mv (.t 0),none,0⟩,⟨some 14,.call (.c (.fn 46 [])) [(.t 13),(.c (.int .i64 1)),(.c (.int .i64 6))],none,0⟩,⟨some 15,.un .not (.t 14),none,0⟩,⟨some 16,.mv (.t 15),none,0⟩,⟨some 17,.mv (.t 1),(some (16,false)),0⟩,⟨some 18,.len (.t 17),(some (16,false)),0⟩,⟨some 19,.bin .gtr (.t 18) (.c (.int .i64 80)),(some (16,false)),0⟩,⟨some 20,.pick (.t 16) (.c (.bool true)) (.t 19),none,0⟩]) q5w) qw7)
def x8:XFn:=⟨(.seq (.reg false [⟨some 4,.new 29 [.nil,.nil,(.int .i64 0)],none,0⟩,⟨some 5,.mv (.c .nil),none,0⟩,⟨some 6,.mv (.c (.bool false)),none,0⟩]) q2h),50,[(.cell 4 (some 3)),(.t 5),(.t 6)]⟩
theorem ok8:FnOk Try.prog T 8 x8:=⟨Try.f8,[.loop [0,4,7,8,25,26,27],.frz [],.frz [10],.frz [],.frz [],.frz [11]],Try.func8,by decide +kernel,by kernel_rfl⟩
def qz9:XCode:=(.seq (.reg false [⟨some 7,.mv (.t 0),none,0⟩,⟨some 8,.mv (.t 1),none,0⟩,⟨some 9,.bin .geq (.t 7) (.t 8),none,0⟩,⟨some 10,.mv (.t 9),none,0⟩,⟨some 11,.mv (.t 0),(some (10,true)),0⟩,⟨some 12,.mv (.t 2),(some (10,true)),0⟩,⟨some 13,.bin .leq (.t 11) (.t 12),(some (10,true)),0⟩,⟨some 14,.pick (.t 10) (.t 13) (.c (.bool false)),none,0⟩,⟨some 6,.mv (.t 14),none,0⟩]) .ret)
def x58:XFn:=⟨(.seq (.reg false [⟨some 6,.mv (.c (.bool false)),none,0⟩]) qz9),15,[(.t 6)]⟩
theorem q90:FnOk Try.prog T 58 x58:=⟨Try.f58,[],Try.func58,by decide +kernel,by kernel_rfl⟩
def q0t:XCode:=(.seq (.reg false [⟨some 14,.mv (.t 6),none,0⟩,⟨some 15,.bin .lss (.t 14) (.c (.int .i64 0)),none,0⟩,⟨some 16,.mv (.t 15),none,0⟩,⟨some 17,.mv (.t 6),(some (16,false)),0⟩,⟨some 18,.mv (.t 1),(some (16,false)),0⟩,⟨some 19,.bin .geq (.t 17) (.t 18),(some (16,false)),0⟩,⟨some 20,.pick (.t 16) (.c (.bool true)) (.t 19),none,0⟩,⟨some 21,.mv (.t 20),none,0⟩,⟨some 22,.mv (.t 5),(some (21,false)),0⟩,⟨some 23,.bin .gtr (.t 22) (.c (.int .i64 0)),(some (21,false)),0⟩,⟨some 24,.mv (.t 23),(some (21,false)),0⟩,⟨some 25,.mv (.t 0),(some (24,true)),0⟩,⟨some 26,.mv (.t 5),(some (24,true)),0⟩,⟨some 27,.bin .sub (.t 26) (.c (.int .i64 1)),(some (24,true)),0⟩,⟨some 28,.ia 1 (.t 25) (.t 27),(some (24,true)),0⟩,⟨some 29,.ld none (.t 28),(some (24,true)),0⟩,⟨some 30,.mv (.t 6),(some (24,true)),0⟩,⟨some 31,.bin .geq (.t 29) (.t 30),(some (24,true)),0⟩,⟨some 32,.pick (.t 24) (.t 31) (.c (.bool false)),(some (21,false)),0⟩,⟨some 33,.pick (.t 21) (.c (.bool true)) (.t 32),none,0⟩]) (.cond (.t 33) (.seq (.reg false [⟨some 4,.mv (.c (.bool false)),none,0⟩]) .ret) .skip))
def q1b:XCode:=(.seq (.reg false [⟨some 11,.mv (.t 9),none,0⟩,⟨some 12,.ia 1 (.t 7) (.t 9),none,0⟩,⟨some 13,.ld none (.t 12),none,0⟩,⟨some 5,.mv (.t 11),none,0⟩,⟨some 6,.mv (.t 13),none,0⟩]) q0t)
def q7i:XCode:=(.block 0 (.loop [0,1,7,8,9] (.seq (.reg false [⟨some 10,.bin .lss (.t 9) (.t 8),none,0⟩]) (.seq (.cond (.t 10) .skip (.exit 0)) (.seq (.block 1 q1b) (.reg false [⟨some 34,.bin .add (.t 9) (.c (.int .i64 1)),none,0⟩,⟨some 9,.mv (.t 34),none,0⟩]))))))
def qyz:XCode:=q7i
def q36:XCode:=(.seq (.seq (.reg false [⟨some 7,.mv (.t 0),none,0⟩,⟨some 8,.len (.t 7),none,0⟩,⟨some 9,.mv (.c (.int .i64 0)),none,0⟩]) qyz) (.seq (.reg false [⟨some 4,.mv (.c (.bool true)),none,0⟩]) .ret))
def x82:XFn:=⟨(.seq (.reg false [⟨some 4,.mv (.c (.bool false)),none,0⟩]) q36),35,[(.t 4)]⟩
theorem q9p:FnOk Try.prog T 82 x82:=⟨Try.f82,[.loop [0,1,7,8,9]],Try.func82,by decide +kernel,by kernel_rfl⟩
def q1p:XCode:=(.seq (.reg false [⟨some 13,.mv (.t 6),none,0⟩,⟨some 14,.mv (.t 1),none,0⟩,⟨some 15,.bin .eql (.t 13) (.t 14),none,0⟩]) (.cond (.t 15) (.seq (.reg false [⟨some 4,.mv (.c (.bool true)),none,0⟩]) .ret) .skip))
def qw5:XCode:=(.seq (.reg false [⟨some 11,.ia 1 (.t 7) (.t 9),none,0⟩,⟨some 12,.ld none (.t 11),none,0⟩,⟨some 6,.mv (.t 12),none,0⟩]) q1p)
def q76:XCode:=(.block 0 (.loop [1,7,8,9] (.seq (.reg false [⟨some 10,.bin .lss (.t 9) (.t 8),none,0⟩]) (.seq (.cond (.t 10) .skip (.exit 0)) (.seq (.block 1 qw5) (.reg false [⟨some 16,.bin .add (.t 9) (.c (.int .i64 1)),none,0⟩,⟨some 9,.mv (.t 16),none,0⟩]))))))
def q05:XCode:=q76
def qwr:XCode:=(.seq (.seq (.reg false [⟨some 7,.mv (.t 0),none,0⟩,⟨some 8,.len (.t 7),none,0⟩,⟨some 9,.mv (.c (.int .i64 0)),none,0⟩]) q05) (.seq (.reg false [⟨some 4,.mv (.c (.bool false)),none,0⟩]) .ret))
def x84:XFn:=⟨(.seq (.reg false [⟨some 4,.mv (.c (.bool false)),none,0⟩]) qwr),17,[(.t 4)]⟩
theorem q81:FnOk Try.prog T 84 x84:=⟨Try.f84,[.loop [1,7,8,9]],Try.func84,by decide +kernel,by kernel_rfl⟩
def q1n:XCode:=(.cond (.t 19) (.seq (.reg false [⟨some 20,.mv (.t 6),none,0⟩,⟨some 4,.mv (.t 20),none,0⟩]) .ret) .skip)
def q10:XCode:=(.seq (.reg false [⟨some 13,.fa 0 (.t 2),none,0⟩,⟨some 14,.ld none (.t 13),none,0⟩,⟨some 15,.mv (.t 6),none,0⟩,⟨some 16,.ia 3 (.t 14) (.t 15),none,0⟩,⟨some 17,.fa 2 (.t 16),none,0⟩,⟨some 18,.ld none (.t 17),none,0⟩,⟨some 19,.un .not (.t 18),none,0⟩]) q1n)
def q0y:XCode:=(.seq (.reg false [⟨some 11,.ia 1 (.t 7) (.t 9),none,0⟩,⟨some 12,.ld none (.t 11),none,0⟩,⟨some 6,.mv (.t 12),none,0⟩]) q10)
def q8c:XCode:=(.block 0 (.loop [2,7,8,9] (.seq (.reg false [⟨some 10,.bin .lss (.t 9) (.t 8),none,0⟩]) (.seq (.cond (.t 10) .skip (.exit 0)) (.seq (.block 1 q0y) (.reg false [⟨some 21,.bin .add (.t 9) (.c (.int .i64 1)),none,0⟩,⟨some 9,.mv (.t 21),none,0⟩]))))))
def q2f:XCode:=q8c
def qvw:XCode:=(.seq (.seq (.reg false [⟨some 7,.mv (.t 1),none,0⟩,⟨some 8,.len (.t 7),none,0⟩,⟨some 9,.mv (.c (.int .i64 0)),none,0⟩]) q2f) (.seq (.reg false [⟨some 4,.mv (.c (.int .i64 (-1))),none,0⟩]) .ret))
def x85:XFn:=⟨(.seq (.seq (.reg false [⟨some 2,.box 29 3 (.t 0),none,0⟩,⟨some 4,.mv (.c (.int .i64 0)),none,0⟩]) (.frz [2])) qvw),22,[(.t 4)]⟩
theorem q86:FnOk Try.prog T 85 x85:=⟨Try.f85,[.frz [2],.loop [2,7,8,9]],Try.func85,by decide +kernel,by kernel_rfl⟩
def q2a:XCode:=(.seq (.reg false [⟨some 13,.mv (.t 0),none,0⟩,⟨some 14,.mv (.t 6),none,0⟩,⟨some 15,.call (.c (.fn 84 [])) [(.t 13),(.t 14)],none,0⟩,⟨some 16,.un .not (.t 15),none,0⟩]) (.cond (.t 16) (.seq (.reg false [⟨some 4,.mv (.c (.bool false)),none,0⟩]) .ret) .skip))
def q1f:XCode:=(.seq (.reg false [⟨some 11,.ia 1 (.t 7) (.t 9),none,0⟩,⟨some 12,.ld none (.t 11),none,0⟩,⟨some 6,.mv (.t 12),none,0⟩]) q2a)
def q8j:XCode:=(.block 0 (.loop [0,7,8,9] (.seq (.reg false [⟨some 10,.bin .lss (.t 9) (.t 8),none,0⟩]) (.seq (.cond (.t 10) .skip (.exit 0)) (.seq (.block 1 q1f) (.reg false [⟨some 17,.bin .add (.t 9) (.c (.int .i64 1)),none,0⟩,⟨some 9,.mv (.t 17),none,0⟩]))))))
def qwk:XCode:=q8j
def q4c:XCode:=(.seq (.seq (.reg false [⟨some 7,.mv (.t 1),none,0⟩,⟨some 8,.len (.t 7),none,0⟩,⟨some 9,.mv (.c (.int .i64 0)),none,0⟩]) qwk) (.seq (.reg false [⟨some 4,.mv (.c (.bool true)),none,0⟩]) .ret))
def x86:XFn:=⟨(.seq (.reg false [⟨some 4,.mv (.c (.bool false)),none,0⟩]) q4c),18,[(.t 4)]⟩
theorem q8n:FnOk Try.prog T 86 x86:=⟨Try.f86,[.loop [0,7,8,9]],Try.func86,by decide +kernel,by kernel_rfl⟩
def qyl:XCode:=(.seq (.reg false [⟨some 73,.fa 3 (.t 3),none,0⟩,⟨some 74,.ld none (.t 73),none,0⟩,⟨some 75,.call (.c (.fn 58 [])) [(.t 74),(.c (.int .i64 0)),(.c (.int .i64 1000))],none,0⟩,⟨some 76,.mv (.t 75),none,0⟩,⟨some 77,.fa 4 (.t 3),(some (76,true)),0⟩,⟨some 78,.ld none (.t 77),(some (76,true)),0⟩,⟨some 79,.call (.c (.fn 58 [])) [(.t 78),(.c (.int .i64 0)),(.c (.int .i64 1000))],(some (76,true)),0⟩,⟨some 80,.pick (.t 76) (.t 79) (.c (.bool false)),none,0⟩,⟨some 4,.mv (.t 80),none,0⟩]) .ret)
def qy8:XCode:=(.seq (.seq (.reg false [⟨some 41,.fa 2 (.t 3),none,0⟩,⟨some 42,.ld none (.t 41),none,0⟩,⟨some 43,.bin .eql (.t 42) (.c (.int .i64 (-1))),none,0⟩,⟨some 44,.mv (.t 43),none,0⟩,⟨some 45,.ld (some 3) (.t 2),(some (44,true)),0⟩,⟨some 46,.fa 1 (.t 3),(some (44,true)),0⟩,⟨some 47,.ld none (.t 46),(some (44,true)),0⟩,⟨some 48,.call (.c (.fn 85 [])) [(.t 45),(.t 47)],(some (44,true)),0⟩,⟨some 49,.bin .geq (.t 48) (.c (.int .i64 0)),(some (44,true)),0⟩,⟨some 50,.pick (.t 44) (.t 49) (.c (.bool false)),none,0⟩,⟨some 51,.mv (.t 50),none,0⟩,⟨some 52,.fa 2 (.t 3),(some (51,false)),0⟩,⟨some 53,.ld none (.t 52),(some (51,false)),0⟩,⟨some 54,.bin .neq (.t 53) (.c (.int .i64 (-1))),(some (51,false)),0⟩,⟨some 55,.mv (.t 54),(some (51,false)),0⟩,⟨some 56,.fa 1 (.t 3),(some (55,true)),0⟩,⟨some 57,.ld none (.t 56),(some (55,true)),0⟩,⟨some 58,.fa 2 (.t 3),(some (55,true)),0⟩,⟨some 59,.ld none (.t 58),(some (55,true)),0⟩,⟨some 60,.call (.c (.fn 84 [])) [(.t 57),(.t 59)],(some (55,true)),0⟩,⟨some 61,.un .not (.t 60),(some (55,true)),0⟩,⟨some 62,.mv (.t 61),(some (55,true)),0⟩,⟨some 63,.fa 0 (.t 2),(some (62,false)),0⟩,⟨some 64,.ld none (.t 63),(some (62,false)),0⟩,⟨some 65,.fa 2 (.t 3),(some (62,false)),0⟩,⟨some 66,.ld none (.t 65),(some (62,false)),0⟩,⟨some 67,.ia 3 (.t 64) (.t 66),(some (62,false)),0⟩,⟨some 68,.fa 2 (.t 67),(some (62,false)),0⟩,⟨some 69,.ld none (.t 68),(some (62,false)),0⟩,⟨some 70,.pick (.t 62) (.c (.bool true)) (.t 69),(some (55,true)),0⟩,⟨some 71,.pick (.t 55) (.t 70) (.c (.bool false)),(some (51,false)),0⟩,⟨some 72,.pick (.t 51) (.c (.bool true)) (.t 71),none,0⟩]) (.cond (.t 72) (.seq (.reg false [⟨some 4,.mv (.c (.bool false)),none,0⟩]) .ret) .skip)) qyl)
def qvx:XCode:=(.seq (.seq (.reg false [⟨some 5,.fa 0 (.t 3),none,0⟩,⟨some 6,.ld none (.t 5),none,0⟩,⟨some 7,.len (.t 6),none,0⟩,⟨some 8,.bin .eql (.t 7) (.c (.int .i64 0)),none,0⟩,⟨some 9,.mv (.t 8),none,0⟩,⟨some 10,.fa 0 (.t 3),(some (9,false)),0⟩,⟨some 11,.ld none (.t 10),(some (9,false)),0⟩,⟨some 12,.fa 0 (.t 2),(some (9,false)),0⟩,⟨some 13,.ld none (.t 12),(some (9,false)),0⟩,⟨some 14,.len (.t 13),(some (9,false)),0⟩,⟨some 15,.call (.c (.fn 82 [])) [(.t 11),(.t 14)],(some (9,false)),0⟩,⟨some 16,.un .not (.t 15),(some (9,false)),0⟩,⟨some 17,.pick (.t 9) (.c (.bool true)) (.t 16),none,0⟩,⟨some 18,.mv (.t 17),none,0⟩,⟨some 19,.fa 1 (.t 3),(some (18,false)),0⟩,⟨some 20,.ld none (.t 19),(some (18,false)),0⟩,⟨some 21,.len (.t 20),(some (18,false)),0⟩,⟨some 22,.bin .eql (.t 21) (.c (.int .i64 0)),(some (18,false)),0⟩,⟨some 23,.pick (.t 18) (.c (.bool true)) (.t 22),none,0⟩,⟨some 24,.mv (.t 23),none,0⟩,⟨some 25,.fa 1 (.t 3),(some (24,false)),0⟩,⟨some 26,.ld none (.t 25),(some (24,false)),0⟩,⟨some 27,.fa 0 (.t 2),(some (24,false)),0⟩,⟨some 28,.ld none (.t 27),(some (24,false)),0⟩,⟨some 29,.len (.t 28),(some (24,false)),0⟩,⟨some 30,.call (.c (.fn 82 [])) [(.t 26),(.t 29)],(some (24,false)),0⟩,⟨some 31,.un .not (.t 30),(some (24,false)),0⟩,⟨some 32,.pick (.t 24) (.c (.bool true)) (.t 31),none,0⟩,⟨some 33,.mv (.t 32),none,0⟩,⟨some 34,.fa 0 (.t 3),(some (33,false)),0⟩,⟨some 35,.ld none (.t 34),(some (33,false)),0⟩,⟨some 36,.fa 1 (.t 3),(some (33,false)),0⟩,⟨some 37,.ld none (.t 36),(some (33,false)),0⟩,⟨some 38,.call (.c (.fn 86 [])) [(.t 35),(.t 37)],(some (33,false)),0⟩,⟨some 39,.un .not (.t 38),(some (33,false)),0⟩,⟨some 40,.pick (.t 33) (.c (.bool true)) (.t 39),none,0⟩]) (.cond (.t 40) (.seq (.reg false [⟨some 4,.mv (.c (.bool false)),none,0⟩]) .ret) .skip)) qy8)
def x59:XFn:=⟨(.seq (.seq (.reg false [⟨some 2,.box 29 3 (.t 0),none,0⟩,⟨some 3,.box 39 5 (.t 1),none,0⟩,⟨some 4,.mv (.c (.bool false)),none,0⟩]) (.frz [2,3])) qvx),81,[(.t 4)]⟩
theorem q9c:FnOk Try.prog T 59 x59:=⟨Try.f59,[.frz [2,3]],Try.func59,by decide +kernel,by kernel_rfl⟩
def qxa:XCode:=(.seq (.reg false [⟨some 14,.fa 0 (.t 4),none,0⟩,⟨some 15,.ld none (.t 14),none,0⟩,⟨some 16,.bin .lss (.t 15) (.c (.int .i64 0)),none,0⟩,⟨some 17,.mv (.t 16),none,0⟩,⟨some 18,.fa 0 (.t 4),(some (17,false)),0⟩,⟨some 19,.ld none (.t 18),(some (17,false)),0⟩,⟨some 20,.fa 2 (.t 1),(some (17,false)),0⟩,⟨some 21,.ld none (.t 20),(some (17,false)),0⟩,⟨some 22,.bin .geq (.t 19) (.t 21),(some (17,false)),0⟩,⟨some 23,.pick (.t 17) (.c (.bool true)) (.t 22),none,0⟩,⟨some 24,.mv (.t 23),none,0⟩,⟨some 25,.fa 1 (.t 4),(some (24,false)),0⟩,⟨some 26,.ld none (.t 25),(some (24,false)),0⟩,⟨some 27,.call (.c (.fn 58 [])) [(.t 26),(.c (.int .i64 0)),(.c (.int .i64 9))],(some (24,false)),0⟩,⟨some 28,.un .not (.t 27),(some (24,false)),0⟩,⟨some 29,.pick (.t 24) (.c (.bool true)) (.t 28),none,0⟩,⟨some 30,.mv (.t 29),none,0⟩,⟨some 31,.fa 2 (.t 4),(some (30,false)),0⟩,⟨some 32,.ld none (.t 31),(some (30,false)),0⟩,⟨some 33,.fa 1 (.t 4),(some (30,false)),0⟩,⟨some 34,.ld none (.t 33),(some (30,false)),0⟩,⟨some 35,.bin .eql (.t 34) (.c (.int .i64 0)),(some (30,false)),0⟩,⟨some 36,.eqb true (.t 32) (.t 35),(some (30,false)),0⟩,⟨some 37,.pick (.t 30) (.c (.bool true)) (.t 36),none,0⟩,⟨some 38,.mv (.t 37),none,0⟩,⟨some 39,.fa 0 (.t 4),(some (38,false)),0⟩,⟨some 40,.ld none (.t 39),(some (38,false)),0⟩,⟨some 41,.bin .eql (.t 40) (.c (.int .i64 0)),(some (38,false)),0⟩,⟨some 42,.mv (.t 41),(some (38,false)),0⟩,⟨some 43,.fa 1 (.t 4),(some (42,true)),0⟩,⟨some 44,.ld none (.t 43),(some (42,true)),0⟩,⟨some 45,.bin .gtr (.t 44) (.c (.int .i64 0)),(some (42,true)),0⟩,⟨some 46,.pick (.t 42) (.t 45) (.c (.bool false)),(some (38,false)),0⟩,⟨some 47,.pick (.t 38) (.c (.bool true)) (.t 46),none,0⟩]) (.cond (.t 47) (.seq (.reg false [⟨some 2,.mv (.c (.bool false)),none,0⟩]) .ret) .skip))
def qyd:XCode:=(.seq (.seq (.reg false [⟨some 12,.ia 3 (.t 8) (.t 10),none,0⟩,⟨some 13,.ld (some 3) (.t 12),none,0⟩,⟨some 4,.new 86 [(.int .i64 0),(.int .i64 0),(.bool false)],none,0⟩,⟨none,.st 3 (.t 4) (.t 13),none,0⟩]) (.frz [4])) qxa)
def q7h:XCode:=(.block 0 (.loop [1,8,9,10] (.seq (.reg false [⟨some 11,.bin .lss (.t 10) (.t 9),none,0⟩]) (.seq (.cond (.t 11) .skip (.exit 0)) (.seq (.block 1 qyd) (.reg false [⟨some 48,.bin .add (.t 10) (.c (.int .i64 1)),none,0⟩,⟨some 10,.mv (.t 48),none,0⟩]))))))
def qy2:XCode:=q7h
def q12:XCode:=(.seq (.reg false [⟨some 73,.ld (some 3) (.t 1),none,0⟩,⟨some 74,.ld (some 5) (.t 6),none,0⟩,⟨some 75,.call (.c (.fn 59 [])) [(.t 73),(.t 74)],none,0⟩,⟨some 76,.un .not (.t 75),none,0⟩]) (.cond (.t 76) (.seq (.reg false [⟨some 2,.mv (.c (.bool false)),none,0⟩]) .ret) .skip))
def qxs:XCode:=(.seq (.seq (.reg false [⟨some 71,.ia 5 (.t 67) (.t 69),none,0⟩,⟨some 72,.ld (some 5) (.t 71),none,0⟩,⟨some 6,.new 39 [.nil,.nil,(.int .i64 0),(.int .i64 0),(.int .i64 0)],none,0⟩,⟨none,.st 5 (.t 6) (.t 72),none,0⟩]) (.frz [6])) q12)
def q7s:XCode:=(.block 2 (.loop [1,67,68,69] (.seq (.reg false [⟨some 70,.bin .lss (.t 69) (.t 68),none,0⟩]) (.seq (.cond (.t 70) .skip (.exit 2)) (.seq (.block 3 qxs) (.reg false [⟨some 77,.bin .add (.t 69) (.c (.int .i64 1)),none,0⟩,⟨some 69,.mv (.t 77),none,0⟩]))))))
def q1q:XCode:=q7s
def q21:XCode:=(.seq (.seq (.reg false [⟨some 66,.fa 1 (.t 1),none,0⟩,⟨some 67,.ld none (.t 66),none,0⟩,⟨some 68,.len (.t 67),none,0⟩,⟨some 69,.mv (.c (.int .i64 0)),none,0⟩]) q1q) (.seq (.reg false [⟨some 2,.mv (.c (.bool true)),none,0⟩]) .ret))
def qrd:XCode:=(.seq (.seq (.reg false [⟨some 49,.fa 0 (.t 1),none,0⟩,⟨some 50,.ld none (.t 49),none,0⟩,⟨some 51,.len (.t 50),none,0⟩,⟨some 52,.call (.c (.fn 58 [])) [(.t 51),(.c (.int .i64 1)),(.c (.int .i64 6))],none,0⟩,⟨some 53,.un .not (.t 52),none,0⟩,⟨some 54,.mv (.t 53),none,0⟩,⟨some 55,.fa 1 (.t 1),(some (54,false)),0⟩,⟨some 56,.ld none (.t 55),(some (54,false)),0⟩,⟨some 57,.len (.t 56),(some (54,false)),0⟩,⟨some 58,.bin .gtr (.t 57) (.c (.int .i64 5)),(some (54,false)),0⟩,⟨some 59,.pick (.t 54) (.c (.bool true)) (.t 58),none,0⟩,⟨some 60,.mv (.t 59),none,0⟩,⟨some 61,.fa 2 (.t 1),(some (60,false)),0⟩,⟨some 62,.ld none (.t 61),(some (60,false)),0⟩,⟨some 63,.call (.c (.fn 58 [])) [(.t 62),(.c (.int .i64 1)),(.c (.int .i64 1000))],(some (60,false)),0⟩,⟨some 64,.un .not (.t 63),(some (60,false)),0⟩,⟨some 65,.pick (.t 60) (.c (.bool true)) (.t 64),none,0⟩]) (.cond (.t 65) (.seq (.reg false [⟨some 2,.mv (.c (.bool false)),none,0⟩]) .ret) .skip)) q21)
def qsw:XCode:=(.seq (.seq (.reg false [⟨some 7,.fa 0 (.t 1),none,0⟩,⟨some 8,.ld none (.t 7),none,0⟩,⟨some 9,.len (.t 8),none,0⟩,⟨some 10,.mv (.c (.int .i64 0)),none,0⟩]) qy2) qrd)
def x20:XFn:=⟨(.seq (.seq (.reg false [⟨some 1,.box 29 3 (.t 0),none,0⟩,⟨some 2,.mv (.c (.bool false)),none,0⟩]) (.frz [1])) qsw),78,[(.t 2)]⟩
theorem q8t:FnOk Try.prog T 20 x20:=⟨Try.f20,[.frz [1],.loop [1,8,9,10],.frz [],.frz [4],.loop [1,67,68,69],.frz [],.frz [6]],Try.func20,by decide +kernel,by kernel_rfl⟩
def q2i:XCode:=(.seq (.reg false [⟨some 26,.mv (.t 5),none,0⟩,⟨some 27,.mv (.t 26),none,0⟩,⟨some 28,.fa 2 (.t 3),(some (27,true)),0⟩,⟨some 29,.ld none (.t 28),(some (27,true)),0⟩,⟨some 30,.bin .eql (.t 29) (.c (.int .i64 0)),(some (27,true)),0⟩,⟨some 31,.pick (.t 27) (.t 30) (.c (.bool false)),none,0⟩,⟨some 32,.mv (.t 31),none,0⟩,⟨some 33,.fa 3 (.t 3),(some (32,true)),0⟩,⟨some 34,.ld none (.t 33),(some (32,true)),0⟩,⟨some 35,.bin .eql (.t 34) (.c (.int .i64 0)),(some (32,true)),0⟩,⟨some 36,.pick (.t 32) (.t 35) (.c (.bool false)),none,0⟩,⟨some 37,.mv (.t 36),none,0⟩,⟨some 38,.fa 4 (.t 3),(some (37,true)),0⟩,⟨some 39,.ld none (.t 38),(some (37,true)),0⟩,⟨some 40,.bin .eql (.t 39) (.c (.int .i64 0)),(some (37,true)),0⟩,⟨some 41,.pick (.t 37) (.t 40) (.c (.bool false)),none,0⟩,⟨some 42,.mv (.t 41),none,0⟩,⟨some 43,.mv (.t 6),(some (42,true)),0⟩,⟨some 44,.pick (.t 42) (.t 43) (.c (.bool false)),none,0⟩,⟨some 4,.mv (.t 44),none,0⟩]) .ret)
def q38:XCode:=(.seq (.reg false [⟨some 47,.mv (.t 5),none,0⟩,⟨some 48,.mv (.t 47),none,0⟩,⟨some 49,.fa 2 (.t 3),(some (48,true)),0⟩,⟨some 50,.ld none (.t 49),(some (48,true)),0⟩,⟨some 51,.call (.c (.fn 58 [])) [(.t 50),(.c (.int .i64 0)),(.c (.int .i64 1000))],(some (48,true)),0⟩,⟨some 52,.pick (.t 48) (.t 51) (.c (.bool false)),none,0⟩,⟨some 53,.mv (.t 52),none,0⟩,⟨some 54,.fa 3 (.t 3),(some (53,true)),0⟩,⟨some 55,.ld none (.t 54),(some (53,true)),0⟩,⟨some 56,.bin .eql (.t 55) (.c (.int .i64 0)),(some (53,true)),0⟩,⟨some 57,.pick (.t 53) (.t 56) (.c (.bool false)),none,0⟩,⟨some 58,.mv (.t 57),none,0⟩,⟨some 59,.fa 4 (.t 3),(some (58,true)),0⟩,⟨some 60,.ld none (.t 59),(some (58,true)),0⟩,⟨some 61,.bin .eql (.t 60) (.c (.int .i64 0)),(some (58,true)),0⟩,⟨some 62,.pick (.t 58) (.t 61) (.c (.bool false)),none,0⟩,⟨some 63,.mv (.t 62),none,0⟩,⟨some 64,.mv (.t 6),(some (63,true)),0⟩,⟨some 65,.pick (.t 63) (.t 64) (.c (.bool false)),none,0⟩,⟨some 4,.mv (.t 65),none,0⟩]) .ret)
def q0u:XCode:=(.seq (.reg false [⟨some 68,.fa 1 (.t 3),none,0⟩,⟨some 69,.ld none (.t 68),none,0⟩,⟨some 70,.bin .eql (.t 69) (.c (.int .i64 0)),none,0⟩,⟨some 71,.mv (.t 70),none,0⟩,⟨some 72,.fa 2 (.t 3),(some (71,true)),0⟩,⟨some 73,.ld none (.t 72),(some (71,true)),0⟩,⟨some 74,.bin .eql (.t 73) (.c (.int .i64 0)),(some (71,true)),0⟩,⟨some 75,.pick (.t 71) (.t 74) (.c (.bool false)),none,0⟩,⟨some 76,.mv (.t 75),none,0⟩,⟨some 77,.fa 3 (.t 3),(some (76,true)),0⟩,⟨some 78,.ld none (.t 77),(some (76,true)),0⟩,⟨some 79,.bin .eql (.t 78) (.c (.int .i64 0)),(some (76,true)),0⟩,⟨some 80,.pick (.t 76) (.t 79) (.c (.bool false)),none,0⟩,⟨some 81,.mv (.t 80),none,0⟩,⟨some 82,.fa 4 (.t 3),(some (81,true)),0⟩,⟨some 83,.ld none (.t 82),(some (81,true)),0⟩,⟨some 84,.bin .eql (.t 83) (.c (.int .i64 0)),(some (81,true)),0⟩,⟨some 85,.pick (.t 81) (.t 84) (.c (.bool false)),none,0⟩,⟨some 86,.mv (.t 85),none,0⟩,⟨some 87,.mv (.t 6),(some (86,true)),0⟩,⟨some 88,.pick (.t 86) (.t 87) (.c (.bool false)),none,0⟩,⟨some 4,.mv (.t 88),none,0⟩]) .ret)
def qwt:XCode:=(.seq (.reg false [⟨some 91,.fa 1 (.t 3),none,0⟩,⟨some 92,.ld none (.t 91),none,0⟩,⟨some 93,.bin .eql (.t 92) (.c (.int .i64 0)),none,0⟩,⟨some 94,.mv (.t 93),none,0⟩,⟨some 95,.fa 2 (.t 3),(some (94,true)),0⟩,⟨some 96,.ld none (.t 95),(some (94,true)),0⟩,⟨some 97,.bin .eql (.t 96) (.c (.int .i64 0)),(some (94,true)),0⟩,⟨some 98,.pick (.t 94) (.t 97) (.c (.bool false)),none,0⟩,⟨some 99,.mv (.t 98),none,0⟩,⟨some 100,.fa 3 (.t 3),(some (99,true)),0⟩,⟨some 101,.ld none (.t 100),(some (99,true)),0⟩,⟨some 102,.bin .eql (.t 101) (.c (.int .i64 0)),(some (99,true)),0⟩,⟨some 103,.pick (.t 99) (.t 102) (.c (.bool false)),none,0⟩,⟨some 104,.mv (.t 103),none,0⟩,⟨some 105,.fa 4 (.t 3),(some (104,true)),0⟩,⟨some 106,.ld none (.t 105),(some (104,true)),0⟩,⟨some 107,.bin .eql (.t 106) (.c (.int .i64 0)),(some (104,true)),0⟩,⟨some 108,.pick (.t 104) (.t 107) (.c (.bool false)),none,0⟩,⟨some 109,.mv (.t 108),none,0⟩,⟨some 110,.fa 5 (.t 3),(some (109,true)),0⟩,⟨some 111,.ld none (.t 110),(some (109,true)),0⟩,⟨some 112,.fa 0 (.t 2),(some (109,true)),0⟩,⟨some 113,.ld none (.t 112),(some (109,true)),0⟩,⟨some 114,.len (.t 113),(some (109,true)),0⟩,⟨some 115,.call (.c (.fn 82 [])) [(.t 111),(.t 114)],(some (109,true)),0⟩,⟨some 116,.pick (.t 109) (.t 115) (.c (.bool false)),none,0⟩,⟨some 4,.mv (.t 116),none,0⟩]) .ret)
def q1t:XCode:=(.seq (.reg false [⟨some 119,.mv (.t 5),none,0⟩,⟨some 120,.mv (.t 119),none,0⟩,⟨some 121,.fa 2 (.t 3),(some (120,true)),0⟩,⟨some 122,.ld none (.t 121),(some (120,true)),0⟩,⟨some 123,.call (.c (.fn 58 [])) [(.t 122),(.c (.int .i64 0)),(.c (.int .i64 1000))],(some (120,true)),0⟩,⟨some 124,.pick (.t 120) (.t 123) (.c (.bool false)),none,0⟩,⟨some 125,.mv (.t 124),none,0⟩,⟨some 126,.fa 3 (.t 3),(some (125,true)),0⟩,⟨some 127,.ld none (.t 126),(some (125,true)),0⟩,⟨some 128,.call (.c (.fn 58 [])) [(.t 127),(.c (.int .i64 0)),(.c (.int .i64 1000))],(some (125,true)),0⟩,⟨some 129,.pick (.t 125) (.t 128) (.c (.bool false)),none,0⟩,⟨some 130,.mv (.t 129),none,0⟩,⟨some 131,.fa 4 (.t 3),(some (130,true)),0⟩,⟨some 132,.ld none (.t 131),(some (130,true)),0⟩,⟨some 133,.call (.c (.fn 58 [])) [(.t 132),(.c (.int .i64 0)),(.c (.int .i64 1000))],(some (130,true)),0⟩,⟨some 134,.pick (.t 130) (.t 133) (.c (.bool false)),none,0⟩,⟨some 135,.mv (.t 134),none,0⟩,⟨some 136,.fa 5 (.t 3),(some (135,true)),0⟩,⟨some 137,.ld none (.t 136),(some (135,true)),0⟩,⟨some 138,.fa 0 (.t 2),(some (135,true)),0⟩,⟨some 139,.ld none (.t 138),(some (135,true)),0⟩,⟨some 140,.len (.t 139),(some (135,true)),0⟩,⟨some 141,.call (.c (.fn 82 [])) [(.t 137),(.t 140)],(some (135,true)),0⟩,⟨some 142,.pick (.t 135) (.t 141) (.c (.bool false)),none,0⟩,⟨some 4,.mv (.t 142),none,0⟩]) .ret)
def q2w:XCode:=(.seq (.reg false [⟨some 145,.mv (.t 5),none,0⟩,⟨some 146,.mv (.t 145),none,0⟩,⟨some 147,.fa 2 (.t 3),(some (146,true)),0⟩,⟨some 148,.ld none (.t 147),(some (146,true)),0⟩,⟨some 149,.bin .eql (.t 148) (.c (.int .i64 0)),(some (146,true)),0⟩,⟨some 150,.pick (.t 146) (.t 149) (.c (.bool false)),none,0⟩,⟨some 151,.mv (.t 150),none,0⟩,⟨some 152,.fa 3 (.t 3),(some (151,true)),0⟩,⟨some 153,.ld none (.t 152),(some (151,true)),0⟩,⟨some 154,.call (.c (.fn 58 [])) [(.t 153),(.c (.int .i64 0)),(.c (.int .i64 1000))],(some (151,true)),0⟩,⟨some 155,.pick (.t 151) (.t 154) (.c (.bool false)),none,0⟩,⟨some 156,.mv (.t 155),none,0⟩,⟨some 157,.fa 4 (.t 3),(some (156,true)),0⟩,⟨some 158,.ld none (.t 157),(some (156,true)),0⟩,⟨some 159,.bin .eql (.t 158) (.c (.int .i64 0)),(some (156,true)),0⟩,⟨some 160,.pick (.t 156) (.t 159) (.c (.bool false)),none,0⟩,⟨some 161,.mv (.t 160),none,0⟩,⟨some 162,.mv (.t 6),(some (161,true)),0⟩,⟨some 163,.pick (.t 161) (.t 162) (.c (.bool false)),none,0⟩,⟨some 4,.mv (.t 163),none,0⟩]) .ret)
def qvk:XCode:=(.cond (.t 143) q2w .skip)
def q3l:XCode:=(.seq (.reg false [⟨some 144,.bin .eql (.t 23) (.c (.int .i64 6)),none,0⟩,⟨some 143,.mv (.t 144),none,0⟩]) qvk)
def qxi:XCode:=(.cond (.t 117) q1t q3l)
def qsv:XCode:=(.seq (.reg false [⟨some 118,.bin .eql (.t 23) (.c (.int .i64 5)),none,0⟩,⟨some 117,.mv (.t 118),none,0⟩]) qxi)
def qrg:XCode:=(.cond (.t 89) qwt qsv)
def qrh:XCode:=(.seq (.reg false [⟨some 90,.bin .eql (.t 23) (.c (.int .i64 4)),none,0⟩,⟨some 89,.mv (.t 90),none,0⟩]) qrg)
def qsu:XCode:=(.cond (.t 66) q0u qrh)
def qon:XCode:=(.seq (.reg false [⟨some 67,.bin .eql (.t 23) (.c (.int .i64 3)),none,0⟩,⟨some 66,.mv (.t 67),none,0⟩]) qsu)
def qre:XCode:=(.cond (.t 45) q38 qon)
def qpm:XCode:=(.seq (.reg false [⟨some 46,.bin .eql (.t 23) (.c (.int .i64 2)),none,0⟩,⟨some 45,.mv (.t 46),none,0⟩]) qre)
def qqv:XCode:=(.cond (.t 24) q2i qpm)
def qpk:XCode:=(.seq (.reg false [⟨some 25,.bin .eql (.t 23) (.c (.int .i64 1)),none,0⟩,⟨some 24,.mv (.t 25),none,0⟩]) qqv)
def qtw:XCode:=(.block 0 qpk)
def qsc:XCode:=(.seq (.seq (.reg false [⟨some 22,.fa 0 (.t 3),none,0⟩,⟨some 23,.ld none (.t 22),none,0⟩]) qtw) (.seq (.reg false [⟨some 4,.mv (.c (.bool false)),none,0⟩]) .ret))
def qop:XCode:=(.seq (.reg false [⟨some 18,.fa 5 (.t 3),none,0⟩,⟨some 19,.ld none (.t 18),none,0⟩,⟨some 20,.len (.t 19),none,0⟩,⟨some 21,.bin .eql (.t 20) (.c (.int .i64 0)),none,0⟩,⟨some 6,.mv (.t 21),none,0⟩]) qsc)
def qr7:XCode:=(.seq (.reg false [⟨some 7,.fa 1 (.t 3),none,0⟩,⟨some 8,.ld none (.t 7),none,0⟩,⟨some 9,.bin .geq (.t 8) (.c (.int .i64 0)),none,0⟩,⟨some 10,.mv (.t 9),none,0⟩,⟨some 11,.fa 1 (.t 3),(some (10,true)),0⟩,⟨some 12,.ld none (.t 11),(some (10,true)),0⟩,⟨some 13,.fa 0 (.t 2),(some (10,true)),0⟩,⟨some 14,.ld none (.t 13),(some (10,true)),0⟩,⟨some 15,.len (.t 14),(some (10,true)),0⟩,⟨some 16,.bin .lss (.t 12) (.t 15),(some (10,true)),0⟩,⟨some 17,.pick (.t 10) (.t 16) (.c (.bool false)),none,0⟩,⟨some 5,.mv (.t 17),none,0⟩]) qop)
def x54:XFn:=⟨(.seq (.seq (.reg false [⟨some 2,.box 29 3 (.t 0),none,0⟩,⟨some 3,.box 44 6 (.t 1),none,0⟩,⟨some 4,.mv (.c (.bool false)),none,0⟩]) (.frz [2,3])) qr7),164,[(.t 4)]⟩
theorem q9o:FnOk Try.prog T 54 x54:=⟨Try.f54,[.frz [2,3]],Try.func54,by decide +kernel,by kernel_rfl⟩
def qvj:XCode:=(.seq (.reg false [⟨some 39,.fa 0 (.t 5),none,0⟩,⟨some 40,.ld none (.t 39),none,0⟩,⟨some 41,.fa 5 (.t 3),none,0⟩,⟨some 42,.ld none (.t 41),none,0⟩,⟨some 43,.call (.c (.fn 86 [])) [(.t 40),(.t 42)],none,0⟩,⟨some 44,.un .not (.t 43),none,0⟩,⟨some 45,.mv (.t 44),none,0⟩,⟨some 46,.fa 5 (.t 3),(some (45,false)),0⟩,⟨some 47,.ld none (.t 46),(some (45,false)),0⟩,⟨some 48,.fa 2 (.t 5),(some (45,false)),0⟩,⟨some 49,.ld none (.t 48),(some (45,false)),0⟩,⟨some 50,.call (.c (.fn 84 [])) [(.t 47),(.t 49)],(some (45,false)),0⟩,⟨some 51,.un .not (.t 50),(some (45,false)),0⟩,⟨some 52,.pick (.t 45) (.c (.bool true)) (.t 51),none,0⟩,⟨some 38,.mv (.t 52),none,0⟩]) (.cond (.t 38) (.seq (.reg false [⟨some 4,.mv (.c (.int .i64 4)),none,0⟩]) .ret) .skip))
def qyc:XCode:=(.cond (.t 32) (.seq (.reg false [⟨some 4,.mv (.c (.int .i64 2)),none,0⟩]) .ret) qvj)
def q03:XCode:=(.seq (.reg false [⟨some 33,.fa 4 (.t 3),none,0⟩,⟨some 34,.ld none (.t 33),none,0⟩,⟨some 35,.fa 4 (.t 5),none,0⟩,⟨some 36,.ld none (.t 35),none,0⟩,⟨some 37,.bin .neq (.t 34) (.t 36),none,0⟩,⟨some 32,.mv (.t 37),none,0⟩]) qyc)
def q07:XCode:=(.cond (.t 26) (.seq (.reg false [⟨some 4,.mv (.c (.int .i64 3)),none,0⟩]) .ret) q03)
def qzg:XCode:=(.seq (.reg false [⟨some 27,.fa 1 (.t 3),none,0⟩,⟨some 28,.ld none (.t 27),none,0⟩,⟨some 29,.fa 2 (.t 5),none,0⟩,⟨some 30,.ld none (.t 29),none,0⟩,⟨some 31,.bin .neq (.t 28) (.t 30),none,0⟩,⟨some 26,.mv (.t 31),none,0⟩]) q07)
def qyr:XCode:=(.cond (.t 20) (.seq (.reg false [⟨some 4,.mv (.c (.int .i64 2)),none,0⟩]) .ret) qzg)
def q1j:XCode:=(.seq (.reg false [⟨some 21,.fa 2 (.t 3),none,0⟩,⟨some 22,.ld none (.t 21),none,0⟩,⟨some 23,.fa 3 (.t 5),none,0⟩,⟨some 24,.ld none (.t 23),none,0⟩,⟨some 25,.bin .neq (.t 22) (.t 24),none,0⟩,⟨some 20,.mv (.t 25),none,0⟩]) qyr)
def qy5:XCode:=(.seq (.reg false [⟨some 60,.fa 0 (.t 2),none,0⟩,⟨some 61,.ld none (.t 60),none,0⟩,⟨some 62,.mv (.t 7),none,0⟩,⟨some 63,.ia 3 (.t 61) (.t 62),none,0⟩,⟨some 64,.fa 2 (.t 63),none,0⟩,⟨some 65,.ld none (.t 64),none,0⟩,⟨some 66,.mv (.t 65),none,0⟩,⟨some 67,.fa 1 (.t 5),(some (66,true)),0⟩,⟨some 68,.ld none (.t 67),(some (66,true)),0⟩,⟨some 69,.mv (.t 7),(some (66,true)),0⟩,⟨some 70,.call (.c (.fn 84 [])) [(.t 68),(.t 69)],(some (66,true)),0⟩,⟨some 71,.un .not (.t 70),(some (66,true)),0⟩,⟨some 72,.pick (.t 66) (.t 71) (.c (.bool false)),none,0⟩]) (.cond (.t 72) (.seq (.reg false [⟨some 4,.mv (.c (.int .i64 4)),none,0⟩]) .ret) .skip))
def qwo:XCode:=(.seq (.reg false [⟨some 58,.ia 1 (.t 54) (.t 56),none,0⟩,⟨some 59,.ld none (.t 58),none,0⟩,⟨some 7,.mv (.t 59),none,0⟩]) qy5)
def q53:XCode:=(.block 1 (.loop [2,5,54,55,56] (.seq (.reg false [⟨some 57,.bin .lss (.t 56) (.t 55),none,0⟩]) (.seq (.cond (.t 57) .skip (.exit 1)) (.seq (.block 2 qwo) (.reg false [⟨some 73,.bin .add (.t 56) (.c (.int .i64 1)),none,0⟩,⟨some 56,.mv (.t 73),none,0⟩]))))))
def qts:XCode:=q53
def qsb:XCode:=(.seq (.seq (.reg false [⟨some 53,.fa 5 (.t 3),none,0⟩,⟨some 54,.ld none (.t 53),none,0⟩,⟨some 55,.len (.t 54),none,0⟩,⟨some 56,.mv (.c (.int .i64 0)),none,0⟩]) qts) (.seq (.reg false [⟨some 4,.mv (.c (.int .i64 0)),none,0⟩]) .ret))
def qsp:XCode:=(.seq (.block 0 q1j) qsb)
def qpn:XCode:=(.seq (.seq (.reg false [⟨some 14,.fa 1 (.t 2),none,0⟩,⟨some 15,.ld none (.t 14),none,0⟩,⟨some 16,.fa 3 (.t 3),none,0⟩,⟨some 17,.ld none (.t 16),none,0⟩,⟨some 18,.ia 5 (.t 15) (.t 17),none,0⟩,⟨some 19,.ld (some 5) (.t 18),none,0⟩,⟨some 5,.new 39 [.nil,.nil,(.int .i64 0),(.int .i64 0),(.int .i64 0)],none,0⟩,⟨none,.st 5 (.t 5) (.t 19),none,0⟩]) (.frz [5])) qsp)
def qth:XCode:=(.seq (.seq (.reg false [⟨some 8,.fa 3 (.t 3),none,0⟩,⟨some 9,.ld none (.t 8),none,0⟩,⟨some 10,.fa 1 (.t 2),none,0⟩,⟨some 11,.ld none (.t 10),none,0⟩,⟨some 12,.len (.t 11),none,0⟩,⟨some 13,.bin .geq (.t 9) (.t 12),none,0⟩]) (.cond (.t 13) (.seq (.reg false [⟨some 4,.mv (.c (.int .i64 1)),none,0⟩]) .ret) .skip)) qpn)
def x83:XFn:=⟨(.seq (.seq (.reg false [⟨some 2,.box 29 3 (.t 0),none,0⟩,⟨some 3,.box 44 6 (.t 1),none,0⟩,⟨some 4,.mv (.c (.int .i64 0)),none,0⟩]) (.frz [2,3])) qth),74,[(.t 4)]⟩
theorem q8r:FnOk Try.prog T 83 x83:=⟨Try.f83,[.frz [2,3],.frz [],.frz [],.frz [5],.loop [2,5,54,55,56]],Try.func83,by decide +kernel,by kernel_rfl⟩
def qxe:XCode:=(.cond (.t 16) (.seq (.reg false [⟨some 17,.ld (some 3) (.t 2),none,0⟩,⟨none,.st 3 (.t 4) (.t 17),none,0⟩,⟨some 5,.mv (.c (.int .i64 4)),none,0⟩]) .ret) .skip)
def q0i:XCode:=(.reg false [⟨some 26,.fa 2 (.t 2),none,0⟩,⟨some 27,.ld none (.t 26),none,0⟩,⟨some 28,.bin .add (.t 27) (.c (.int .i64 1)),none,0⟩,⟨some 29,.fa 2 (.t 2),none,0⟩,⟨none,.st 1 (.t 29) (.t 28),none,0⟩])
def qxt:XCode:=(.seq (.reg false [⟨some 18,.fa 0 (.t 2),none,0⟩,⟨some 19,.ld none (.t 18),none,0⟩,⟨some 20,.fa 1 (.t 3),none,0⟩,⟨some 21,.ld none (.t 20),none,0⟩,⟨some 22,.fa 2 (.t 2),none,0⟩,⟨some 23,.ld none (.t 22),none,0⟩,⟨some 24,.build [(.int .i64 0),(.int .i64 0),(.bool false)] [(0,(1,(.t 23))),(1,(1,(.c (.int .i64 9))))],none,0⟩,⟨some 25,.ia 3 (.t 19) (.t 21),none,0⟩,⟨none,.st 3 (.t 25) (.t 24),none,0⟩]) q0i)
def q2u:XCode:=(.seq (.seq (.reg false [⟨some 14,.fa 2 (.t 2),none,0⟩,⟨some 15,.ld none (.t 14),none,0⟩,⟨some 16,.bin .eql (.t 15) (.c (.int .i64 1000)),none,0⟩]) qxe) qxt)
def qzr:XCode:=(.cond (.t 40) (.seq (.reg false [⟨some 41,.ld (some 3) (.t 2),none,0⟩,⟨none,.st 3 (.t 4) (.t 41),none,0⟩,⟨some 5,.mv (.c (.int .i64 1)),none,0⟩]) .ret) .skip)
def qwe:XCode:=(.cond (.t 46) (.seq (.reg false [⟨some 47,.ld (some 3) (.t 2),none,0⟩,⟨none,.st 3 (.t 4) (.t 47),none,0⟩,⟨some 5,.mv (.c (.int .i64 2)),none,0⟩]) .ret) .skip)
def q0s:XCode:=(.reg false [⟨some 48,.fa 0 (.t 2),none,0⟩,⟨some 49,.ld none (.t 48),none,0⟩,⟨some 50,.fa 1 (.t 3),none,0⟩,⟨some 51,.ld none (.t 50),none,0⟩,⟨some 52,.ia 3 (.t 49) (.t 51),none,0⟩,⟨some 53,.fa 1 (.t 52),none,0⟩,⟨none,.st 1 (.t 53) (.c (.int .i64 9)),none,0⟩])
def q11:XCode:=(.seq (.seq (.reg false [⟨some 42,.fa 0 (.t 6),none,0⟩,⟨some 43,.ld none (.t 42),none,0⟩,⟨some 44,.fa 2 (.t 3),none,0⟩,⟨some 45,.ld none (.t 44),none,0⟩,⟨some 46,.bin .neq (.t 43) (.t 45),none,0⟩]) qwe) q0s)
def qzb:XCode:=(.seq (.seq (.reg false [⟨some 38,.fa 0 (.t 6),none,0⟩,⟨some 39,.ld none (.t 38),none,0⟩,⟨some 40,.bin .eql (.t 39) (.c (.int .i64 0)),none,0⟩]) qzr) q11)
def qto:XCode:=(.seq (.seq (.reg false [⟨some 32,.fa 0 (.t 2),none,0⟩,⟨some 33,.ld none (.t 32),none,0⟩,⟨some 34,.fa 1 (.t 3),none,0⟩,⟨some 35,.ld none (.t 34),none,0⟩,⟨some 36,.ia 3 (.t 33) (.t 35),none,0⟩,⟨some 37,.ld (some 3) (.t 36),none,0⟩,⟨some 6,.new 86 [(.int .i64 0),(.int .i64 0),(.bool false)],none,0⟩,⟨none,.st 3 (.t 6) (.t 37),none,0⟩]) (.frz [6])) qzb)
def qse:XCode:=(.reg false [⟨some 69,.fa 0 (.t 2),none,0⟩,⟨some 70,.ld none (.t 69),none,0⟩,⟨some 71,.mv (.t 7),none,0⟩,⟨some 72,.ia 3 (.t 70) (.t 71),none,0⟩,⟨some 73,.fa 1 (.t 72),none,0⟩,⟨some 74,.ld none (.t 73),none,0⟩,⟨some 75,.bin .sub (.t 74) (.c (.int .i64 1)),none,0⟩,⟨some 76,.ia 3 (.t 70) (.t 71),none,0⟩,⟨some 77,.fa 1 (.t 76),none,0⟩,⟨none,.st 1 (.t 77) (.t 75),none,0⟩])
def qru:XCode:=(.cond (.t 68) qse .skip)
def qor:XCode:=(.seq (.reg false [⟨some 62,.fa 0 (.t 2),none,0⟩,⟨some 63,.ld none (.t 62),none,0⟩,⟨some 64,.mv (.t 7),none,0⟩,⟨some 65,.ia 3 (.t 63) (.t 64),none,0⟩,⟨some 66,.fa 1 (.t 65),none,0⟩,⟨some 67,.ld none (.t 66),none,0⟩,⟨some 68,.bin .gtr (.t 67) (.c (.int .i64 0)),none,0⟩]) qru)
def qrm:XCode:=(.seq (.reg false [⟨some 61,.mv (.t 59),none,0⟩,⟨some 7,.mv (.t 61),none,0⟩]) qor)
def q5r:XCode:=(.block 1 (.loop [2,4,58,59] (.seq (.reg false [⟨some 60,.bin .lss (.t 59) (.t 58),none,0⟩]) (.seq (.cond (.t 60) .skip (.exit 1)) (.seq (.block 2 qrm) (.reg false [⟨some 78,.bin .add (.t 59) (.c (.int .i64 1)),none,0⟩,⟨some 59,.mv (.t 78),none,0⟩]))))))
def qq0:XCode:=q5r
def qtx:XCode:=(.seq (.reg false [⟨some 56,.fa 0 (.t 2),none,0⟩,⟨some 57,.ld none (.t 56),none,0⟩,⟨some 58,.len (.t 57),none,0⟩,⟨some 59,.mv (.c (.int .i64 0)),none,0⟩]) qq0)
def qqe:XCode:=(.cond (.t 90) (.seq (.reg false [⟨some 91,.ld (some 3) (.t 2),none,0⟩,⟨none,.st 3 (.t 4) (.t 91),none,0⟩,⟨some 5,.mv (.c (.int .i64 4)),none,0⟩]) .ret) .skip)
def qs7:XCode:=(.reg true [⟨some 94,.buildS 3 0 [] [],none,4⟩,⟨some 95,.fa 5 (.t 3),none,4⟩,⟨some 96,.ld none (.t 95),none,4⟩,⟨some 98,.buildS 3 0 [] [],none,1⟩,⟨some 99,.fa 5 (.t 3),none,1⟩,⟨some 100,.ld none (.t 99),none,1⟩,⟨some 92,.fa 1 (.t 2),none,1⟩,⟨some 93,.ld none (.t 92),none,1⟩,⟨some 97,.app 3 1 8 (.t 94) (.t 96),none,2⟩,⟨some 101,.app 3 1 8 (.t 98) (.t 100),none,2⟩,⟨some 102,.build [.nil,.nil,(.int .i64 0),(.int .i64 0),(.int .i64 0)] [(0,(1,(.t 97))),(1,(1,(.t 101))),(2,(1,(.c (.int .i64 (-2)))))],none,4⟩,⟨some 103,.buildS 39 1 [.nil,.nil,(.int .i64 0),(.int .i64 0),(.int .i64 0)] [(0,(5,(.t 102)))],none,4⟩,⟨some 104,.app 39 5 72 (.t 93) (.t 103),none,3⟩,⟨some 105,.fa 1 (.t 2),none,4⟩,⟨none,.st 1 (.t 105) (.t 104),none,3⟩])
def qrw:XCode:=(.seq (.seq (.reg false [⟨some 81,.fa 5 (.t 3),none,0⟩,⟨some 82,.ld none (.t 81),none,0⟩,⟨some 83,.len (.t 82),none,0⟩,⟨some 84,.bin .eql (.t 83) (.c (.int .i64 0)),none,0⟩,⟨some 85,.mv (.t 84),none,0⟩,⟨some 86,.fa 1 (.t 2),(some (85,false)),0⟩,⟨some 87,.ld none (.t 86),(some (85,false)),0⟩,⟨some 88,.len (.t 87),(some (85,false)),0⟩,⟨some 89,.bin .eql (.t 88) (.c (.int .i64 5)),(some (85,false)),0⟩,⟨some 90,.pick (.t 85) (.c (.bool true)) (.t 89),none,0⟩]) qqe) qs7)
def qou:XCode:=(.seq (.reg false [⟨some 113,.ld (some 3) (.t 2),none,0⟩,⟨some 114,.mv (.t 8),none,0⟩,⟨none,.st 3 (.t 4) (.t 113),none,0⟩,⟨some 5,.mv (.t 114),none,0⟩]) .ret)
def qq2:XCode:=(.cond (.t 112) qou .skip)
def qsm:XCode:=(.seq (.reg false [⟨some 111,.mv (.t 8),none,0⟩,⟨some 112,.bin .neq (.t 111) (.c (.int .i64 0)),none,0⟩]) qq2)
def qsz:XCode:=(.reg false [⟨some 125,.fa 1 (.t 2),none,0⟩,⟨some 126,.ld none (.t 125),none,0⟩,⟨some 127,.fa 3 (.t 3),none,0⟩,⟨some 128,.ld none (.t 127),none,0⟩,⟨some 129,.ia 5 (.t 126) (.t 128),none,0⟩,⟨some 130,.fa 4 (.t 129),none,0⟩,⟨some 131,.ld none (.t 130),none,0⟩,⟨some 132,.bin .add (.t 131) (.c (.int .i64 1)),none,0⟩,⟨some 133,.ia 5 (.t 126) (.t 128),none,0⟩,⟨some 134,.fa 4 (.t 133),none,0⟩,⟨none,.st 1 (.t 134) (.t 132),none,0⟩])
def qp8:XCode:=(.seq (.reg true [⟨some 115,.fa 1 (.t 2),none,1⟩,⟨some 116,.ld none (.t 115),none,1⟩,⟨some 117,.fa 3 (.t 3),none,1⟩,⟨some 118,.ld none (.t 117),none,1⟩,⟨some 119,.buildS 3 0 [] [],none,4⟩,⟨some 120,.fa 5 (.t 3),none,4⟩,⟨some 121,.ld none (.t 120),none,4⟩,⟨some 122,.app 3 1 8 (.t 119) (.t 121),none,2⟩,⟨some 123,.ia 5 (.t 116) (.t 118),none,4⟩,⟨some 124,.fa 1 (.t 123),none,4⟩,⟨none,.st 1 (.t 124) (.t 122),none,3⟩]) qsz)
def qq3:XCode:=(.seq (.seq (.reg false [⟨some 108,.ld (some 3) (.t 2),none,0⟩,⟨some 109,.ld (some 6) (.t 3),none,0⟩,⟨some 110,.call (.c (.fn 83 [])) [(.t 108),(.t 109)],none,0⟩,⟨some 8,.mv (.t 110),none,0⟩]) qsm) qp8)
def qqr:XCode:=(.cond (.t 142) (.seq (.reg false [⟨some 143,.ld (some 3) (.t 2),none,0⟩,⟨none,.st 3 (.t 4) (.t 143),none,0⟩,⟨some 5,.mv (.c (.int .i64 1)),none,0⟩]) .ret) .skip)
def qpv:XCode:=(.cond (.t 163) (.seq (.reg false [⟨some 164,.ld (some 3) (.t 2),none,0⟩,⟨none,.st 3 (.t 4) (.t 164),none,0⟩,⟨some 5,.mv (.c (.int .i64 4)),none,0⟩]) .ret) .skip)
def qtj:XCode:=(.reg false [⟨some 165,.fa 1 (.t 2),none,0⟩,⟨some 166,.ld none (.t 165),none,0⟩,⟨some 167,.fa 3 (.t 3),none,0⟩,⟨some 168,.ld none (.t 167),none,0⟩,⟨some 169,.fa 1 (.t 3),none,0⟩,⟨some 170,.ld none (.t 169),none,0⟩,⟨some 171,.ia 5 (.t 166) (.t 168),none,0⟩,⟨some 172,.fa 2 (.t 171),none,0⟩,⟨none,.st 1 (.t 172) (.t 170),none,0⟩])
def qty:XCode:=(.seq (.seq (.reg true [⟨some 144,.fa 1 (.t 2),none,4⟩,⟨some 145,.ld none (.t 144),none,4⟩,⟨some 146,.fa 3 (.t 3),none,4⟩,⟨some 147,.ld none (.t 146),none,4⟩,⟨some 148,.ia 5 (.t 145) (.t 147),none,4⟩,⟨some 149,.fa 1 (.t 148),none,4⟩,⟨some 150,.ld none (.t 149),none,4⟩,⟨some 151,.fa 1 (.t 3),none,4⟩,⟨some 152,.ld none (.t 151),none,4⟩,⟨some 153,.call (.c (.fn 84 [])) [(.t 150),(.t 152)],none,3⟩,⟨some 154,.un .not (.t 153),none,4⟩,⟨some 155,.mv (.t 154),none,4⟩,⟨some 156,.fa 0 (.t 2),(some (155,false)),4⟩,⟨some 157,.ld none (.t 156),(some (155,false)),4⟩,⟨some 158,.fa 1 (.t 3),(some (155,false)),4⟩,⟨some 159,.ld none (.t 158),(some (155,false)),4⟩,⟨some 160,.ia 3 (.t 157) (.t 159),(some (155,false)),4⟩,⟨some 161,.fa 2 (.t 160),(some (155,false)),4⟩,⟨some 162,.ld none (.t 161),(some (155,false)),4⟩,⟨some 163,.pick (.t 155) (.c (.bool true)) (.t 162),none,4⟩]) qpv) qtj)
def qqt:XCode:=(.seq (.seq (.reg false [⟨some 137,.fa 3 (.t 3),none,0⟩,⟨some 138,.ld none (.t 137),none,0⟩,⟨some 139,.fa 1 (.t 2),none,0⟩,⟨some 140,.ld none (.t 139),none,0⟩,⟨some 141,.len (.t 140),none,0⟩,⟨some 142,.bin .geq (.t 138) (.t 141),none,0⟩]) qqr) qty)
def qr8:XCode:=(.cond (.t 135) qqt .skip)
def qrl:XCode:=(.seq (.reg false [⟨some 136,.bin .eql (.t 11) (.c (.int .i64 6)),none,0⟩,⟨some 135,.mv (.t 136),none,0⟩]) qr8)
def qpd:XCode:=(.cond (.t 106) qq3 qrl)
def qqd:XCode:=(.seq (.reg false [⟨some 107,.bin .eql (.t 11) (.c (.int .i64 5)),none,0⟩,⟨some 106,.mv (.t 107),none,0⟩]) qpd)
def qtf:XCode:=(.cond (.t 79) qrw qqd)
def qrk:XCode:=(.seq (.reg false [⟨some 80,.bin .eql (.t 11) (.c (.int .i64 4)),none,0⟩,⟨some 79,.mv (.t 80),none,0⟩]) qtf)
def qpc:XCode:=(.cond (.t 54) qtx qrk)
def qqf:XCode:=(.seq (.reg false [⟨some 55,.bin .eql (.t 11) (.c (.int .i64 3)),none,0⟩,⟨some 54,.mv (.t 55),none,0⟩]) qpc)
def qsn:XCode:=(.cond (.t 30) qto qqf)
def qr0:XCode:=(.seq (.reg false [⟨some 31,.bin .eql (.t 11) (.c (.int .i64 2)),none,0⟩,⟨some 30,.mv (.t 31),none,0⟩]) qsn)
def qs3:XCode:=(.cond (.t 12) q2u qr0)
def qqy:XCode:=(.seq (.reg false [⟨some 13,.bin .eql (.t 11) (.c (.int .i64 1)),none,0⟩,⟨some 12,.mv (.t 13),none,0⟩]) qs3)
def qr9:XCode:=(.block 0 qqy)
def qtk:XCode:=(.reg true [⟨some 179,.fa 0 (.t 2),none,4⟩,⟨some 180,.ld none (.t 179),none,4⟩,⟨some 181,.mv (.t 9),none,4⟩,⟨some 182,.fa 0 (.t 2),none,4⟩,⟨some 183,.ld none (.t 182),none,4⟩,⟨some 184,.mv (.t 9),none,4⟩,⟨some 185,.ia 3 (.t 183) (.t 184),none,4⟩,⟨some 186,.fa 1 (.t 185),none,4⟩,⟨some 187,.ld none (.t 186),none,4⟩,⟨some 188,.bin .eql (.t 187) (.c (.int .i64 0)),none,4⟩,⟨some 189,.ia 3 (.t 180) (.t 181),none,4⟩,⟨some 190,.fa 2 (.t 189),none,4⟩,⟨none,.st 1 (.t 190) (.t 188),none,3⟩])
def qpl:XCode:=(.seq (.reg false [⟨some 178,.mv (.t 176),none,0⟩,⟨some 9,.mv (.t 178),none,0⟩]) qtk)
def q6b:XCode:=(.block 3 (.loop [2,4,175,176] (.seq (.reg false [⟨some 177,.bin .lss (.t 176) (.t 175),none,0⟩]) (.seq (.cond (.t 177) .skip (.exit 3)) (.seq (.block 4 qpl) (.reg false [⟨some 191,.bin .add (.t 176) (.c (.int .i64 1)),none,0⟩,⟨some 176,.mv (.t 191),none,0⟩]))))))
def qrz:XCode:=q6b
def qql:XCode:=(.seq (.seq (.reg false [⟨some 173,.fa 0 (.t 2),none,0⟩,⟨some 174,.ld none (.t 173),none,0⟩,⟨some 175,.len (.t 174),none,0⟩,⟨some 176,.mv (.c (.int .i64 0)),none,0⟩]) qrz) (.seq (.reg false [⟨some 192,.ld (some 3) (.t 2),none,0⟩,⟨none,.st 3 (.t 4) (.t 192),none,0⟩,⟨some 5,.mv (.c (.int .i64 0)),none,0⟩]) .ret))
def qpj:XCode:=(.seq (.seq (.reg false [⟨some 10,.fa 0 (.t 3),none,0⟩,⟨some 11,.ld none (.t 10),none,0⟩]) qr9) qql)
def x55:XFn:=⟨(.seq (.seq (.reg false [⟨some 2,.box 29 3 (.t 0),none,0⟩,⟨some 3,.box 44 6 (.t 1),none,0⟩,⟨some 4,.new 29 [.nil,.nil,(.int .i64 0)],none,0⟩,⟨some 5,.mv (.c (.int .i64 0)),none,0⟩]) (.frz [3])) qpj),193,[(.cell 4 (some 3)),(.t 5)]⟩
theorem q80:FnOk Try.prog T 55 x55:=⟨Try.f55,[.frz [3],.frz [],.frz [],.frz [],.frz [],.frz [],.frz [],.frz [],.frz [6],.loop [2,4,58,59],.draw [2,3,4,6,7,8,0,1,5,9,10,11,12,13,14] [4,4,4,1,1,1,1,1,2,2,4,4,3,4,3],.draw [0,1,2,3,4,5,6,7,8,9,10] [1,1,1,1,4,4,4,2,4,4,3],.draw [0,1,2,3,4,5,6,7,8,9,10,11,12,13,14,15,16,17,18,19] [4,4,4,4,4,4,4,4,4,3,4,4,4,4,4,4,4,4,4,4],.loop [2,4,175,176],.draw [0,1,2,3,4,5,6,7,8,9,10,11,12] [4,4,4,4,4,4,4,4,4,4,4,4,3]],Try.func55,by decide +kernel,by kernel_rfl⟩
def q3p:XCode:=(.reg false [⟨some 30,.fa 1 (.t 3),none,0⟩,⟨some 31,.ld none (.t 30),none,0⟩,⟨some 32,.ld (some 5) (.t 5),none,0⟩,⟨some 33,.buildS 39 1 [.nil,.nil,(.int .i64 0),(.int .i64 0),(.int .i64 0)] [(0,(5,(.t 32)))],none,0⟩,⟨some 34,.app 39 5 72 (.t 31) (.t 33),none,0⟩,⟨some 35,.fa 1 (.t 3),none,0⟩,⟨none,.st 1 (.t 35) (.t 34),none,0⟩])
def qvz:XCode:=(.seq (.reg false [⟨some 25,.buildS 3 0 [] [],none,0⟩,⟨some 26,.fa 1 (.t 5),none,0⟩,⟨some 27,.ld none (.t 26),none,0⟩,⟨some 28,.app 3 1 8 (.t 25) (.t 27),none,0⟩,⟨some 29,.fa 1 (.t 5),none,0⟩,⟨none,.st 1 (.t 29) (.t 28),none,0⟩]) q3p)
def qwl:XCode:=(.seq (.reg false [⟨some 20,.buildS 3 0 [] [],none,0⟩,⟨some 21,.fa 0 (.t 5),none,0⟩,⟨some 22,.ld none (.t 21),none,0⟩,⟨some 23,.app 3 1 8 (.t 20) (.t 22),none,0⟩,⟨some 24,.fa 0 (.t 5),none,0⟩,⟨none,.st 1 (.t 24) (.t 23),none,0⟩]) qvz)
def qx8:XCode:=(.seq (.reg false [⟨some 18,.ia 5 (.t 14) (.t 16),none,0⟩,⟨some 19,.ld (some 5) (.t 18),none,0⟩,⟨some 5,.new 39 [.nil,.nil,(.int .i64 0),(.int .i64 0),(.int .i64 0)],none,0⟩,⟨none,.st 5 (.t 5) (.t 19),none,0⟩]) qwl)
def q7j:XCode:=(.block 0 (.loop [2,3,14,15,16] (.seq (.reg false [⟨some 17,.bin .lss (.t 16) (.t 15),none,0⟩]) (.seq (.cond (.t 17) .skip (.exit 0)) (.seq (.block 1 qx8) (.reg false [⟨some 36,.bin .add (.t 16) (.c (.int .i64 1)),none,0⟩,⟨some 16,.mv (.t 36),none,0⟩]))))))
def qvt:XCode:=q7j
def qv3:XCode:=(.seq (.seq (.reg false [⟨some 13,.fa 1 (.t 1),none,0⟩,⟨some 14,.ld none (.t 13),none,0⟩,⟨some 15,.len (.t 14),none,0⟩,⟨some 16,.mv (.c (.int .i64 0)),none,0⟩]) qvt) (.seq (.reg false [⟨some 37,.ld (some 3) (.t 3),none,0⟩,⟨none,.st 3 (.t 2) (.t 37),none,0⟩]) .ret))
def qvm:XCode:=(.seq (.reg true [⟨some 6,.buildS 86 0 [] [],none,4⟩,⟨some 3,.new 29 [.nil,.nil,(.int .i64 0)],none,1⟩,⟨some 7,.fa 0 (.t 1),none,4⟩,⟨some 8,.ld none (.t 7),none,4⟩,⟨some 9,.app 86 3 24 (.t 6) (.t 8),none,2⟩,⟨some 10,.fa 2 (.t 1),none,1⟩,⟨some 11,.ld none (.t 10),none,1⟩,⟨some 12,.build [.nil,.nil,(.int .i64 0)] [(0,(1,(.t 9))),(2,(1,(.t 11)))],none,4⟩,⟨none,.st 3 (.t 3) (.t 12),none,3⟩]) qv3)
def x56:XFn:=⟨(.seq (.seq (.reg false [⟨some 1,.box 29 3 (.t 0),none,0⟩,⟨some 2,.new 29 [.nil,.nil,(.int .i64 0)],none,0⟩]) (.frz [1])) qvm),38,[(.cell 2 (some 3))]⟩
theorem q8y:FnOk Try.prog T 56 x56:=⟨Try.f56,[.frz [1],.draw [0,7,1,2,3,4,5,6,8] [4,1,4,4,2,1,1,4,3],.loop [2,3,14,15,16]],Try.func56,by decide +kernel,by kernel_rfl⟩
def qwb:XCode:=(.reg false [⟨some 20,.mv (.t 1),none,0⟩,⟨some 21,.mv (.t 5),none,0⟩,⟨some 22,.ia 1 (.t 20) (.t 21),none,0⟩,⟨some 23,.ld none (.t 22),none,0⟩,⟨some 7,.mv (.t 23),none,0⟩])
def q33:XCode:=(.cond (.t 19) qwb .skip)
def q3e:XCode:=(.reg false [⟨some 36,.ld (some 3) (.t 2),none,0⟩,⟨some 37,.fa 1 (.t 6),none,0⟩,⟨some 38,.ld none (.t 37),none,0⟩,⟨some 39,.call (.c (.fn 85 [])) [(.t 36),(.t 38)],none,0⟩,⟨some 40,.fa 2 (.t 6),none,0⟩,⟨none,.st 1 (.t 40) (.t 39),none,0⟩])
def qvl:XCode:=(.cond (.t 35) q3e .skip)
def q02:XCode:=(.reg false [⟨some 52,.fa 3 (.t 6),none,0⟩,⟨some 53,.ld none (.t 52),none,0⟩,⟨some 54,.bin .add (.t 53) (.c (.int .i64 1)),none,0⟩,⟨some 55,.fa 3 (.t 6),none,0⟩,⟨none,.st 1 (.t 55) (.t 54),none,0⟩])
def qy1:XCode:=(.cond (.t 51) q02 .skip)
def qxq:XCode:=(.seq (.reg false [⟨some 49,.fa 2 (.t 6),none,0⟩,⟨some 50,.ld none (.t 49),none,0⟩,⟨some 51,.bin .geq (.t 50) (.c (.int .i64 0)),none,0⟩]) qy1)
def q0z:XCode:=(.seq (.reg false [⟨some 45,.fa 4 (.t 6),none,0⟩,⟨some 46,.ld none (.t 45),none,0⟩,⟨some 47,.bin .add (.t 46) (.c (.int .i64 1)),none,0⟩,⟨some 48,.fa 4 (.t 6),none,0⟩,⟨none,.st 1 (.t 48) (.t 47),none,0⟩]) qxq)
def q0a:XCode:=(.cond (.t 44) q0z .skip)
def qsf:XCode:=(.reg false [⟨some 56,.fa 1 (.t 2),none,0⟩,⟨some 57,.ld none (.t 56),none,0⟩,⟨some 58,.mv (.t 5),none,0⟩,⟨some 59,.ld (some 5) (.t 6),none,0⟩,⟨some 60,.ia 5 (.t 57) (.t 58),none,0⟩,⟨none,.st 5 (.t 60) (.t 59),none,0⟩])
def qtt:XCode:=(.seq (.seq (.reg false [⟨some 41,.fa 2 (.t 6),none,0⟩,⟨some 42,.ld none (.t 41),none,0⟩,⟨some 43,.mv (.t 7),none,0⟩,⟨some 44,.bin .neq (.t 42) (.t 43),none,0⟩]) q0a) qsf)
def qso:XCode:=(.seq (.seq (.reg false [⟨some 24,.fa 2 (.t 6),none,0⟩,⟨some 25,.ld none (.t 24),none,0⟩,⟨some 26,.bin .lss (.t 25) (.c (.int .i64 0)),none,0⟩,⟨some 27,.mv (.t 26),none,0⟩,⟨some 28,.fa 0 (.t 2),(some (27,false)),0⟩,⟨some 29,.ld none (.t 28),(some (27,false)),0⟩,⟨some 30,.fa 2 (.t 6),(some (27,false)),0⟩,⟨some 31,.ld none (.t 30),(some (27,false)),0⟩,⟨some 32,.ia 3 (.t 29) (.t 31),(some (27,false)),0⟩,⟨some 33,.fa 2 (.t 32),(some (27,false)),0⟩,⟨some 34,.ld none (.t 33),(some (27,false)),0⟩,⟨some 35,.pick (.t 27) (.c (.bool true)) (.t 34),none,0⟩]) qvl) qtt)
def qsx:XCode:=(.seq (.seq (.reg false [⟨some 16,.mv (.t 5),none,0⟩,⟨some 17,.mv (.t 1),none,0⟩,⟨some 18,.len (.t 17),none,0⟩,⟨some 19,.bin .lss (.t 16) (.t 18),none,0⟩]) q33) qso)
def qqu:XCode:=(.seq (.reg false [⟨some 7,.mv (.c (.int .i64 (-2))),none,0⟩]) qsx)
def qtl:XCode:=(.seq (.reg false [⟨some 13,.mv (.t 11),none,0⟩,⟨some 14,.ia 5 (.t 9) (.t 11),none,0⟩,⟨some 15,.ld (some 5) (.t 14),none,0⟩,⟨some 6,.new 39 [.nil,.nil,(.int .i64 0),(.int .i64 0),(.int .i64 0)],none,0⟩,⟨some 5,.mv (.t 13),none,0⟩,⟨none,.st 5 (.t 6) (.t 15),none,0⟩]) qqu)
def q66:XCode:=(.block 0 (.loop [1,2,4,9,10,11] (.seq (.reg false [⟨some 12,.bin .lss (.t 11) (.t 10),none,0⟩]) (.seq (.cond (.t 12) .skip (.exit 0)) (.seq (.block 1 qtl) (.reg false [⟨some 61,.bin .add (.t 11) (.c (.int .i64 1)),none,0⟩,⟨some 11,.mv (.t 61),none,0⟩]))))))
def qr6:XCode:=q66
def qtn:XCode:=(.seq (.seq (.reg false [⟨some 8,.fa 1 (.t 2),none,0⟩,⟨some 9,.ld none (.t 8),none,0⟩,⟨some 10,.len (.t 9),none,0⟩,⟨some 11,.mv (.c (.int .i64 0)),none,0⟩]) qr6) (.seq (.reg false [⟨some 62,.ld (some 3) (.t 2),none,0⟩,⟨none,.st 3 (.t 4) (.t 62),none,0⟩]) .ret))
def x57:XFn:=⟨(.seq (.seq (.reg false [⟨some 2,.box 29 3 (.t 0),none,0⟩,⟨some 4,.new 29 [.nil,.nil,(.int .i64 0)],none,0⟩]) (.frz [2])) qtn),63,[(.cell 4 (some 3))]⟩
theorem q8m:FnOk Try.prog T 57 x57:=⟨Try.f57,[.frz [2],.loop [1,2,4,9,10,11]],Try.func57,by decide +kernel,by kernel_rfl⟩
def qzq:XCode:=(.seq (.reg false [⟨some 21,.build [.nil,.nil,(.int .i64 0)] [],none,0⟩,⟨none,.st 3 (.t 4) (.t 21),none,0⟩,⟨some 5,.mv (.c (.int .i64 0)),none,0⟩,⟨some 6,.mv (.c (.bool false)),none,0⟩]) .ret)
def q15:XCode:=(.cond (.t 20) qzq .skip)
def q20:XCode:=(.reg false [⟨some 29,.mv (.t 7),none,0⟩,⟨some 30,.fa 2 (.t 9),none,0⟩,⟨some 31,.ld none (.t 30),none,0⟩,⟨some 32,.buildS 3 1 [(.int .i64 0)] [(0,(1,(.t 31)))],none,0⟩,⟨some 33,.app 3 1 8 (.t 29) (.t 32),none,0⟩,⟨some 7,.mv (.t 33),none,0⟩])
def qy0:XCode:=(.seq (.seq (.reg false [⟨some 27,.ia 5 (.t 23) (.t 25),none,0⟩,⟨some 28,.ld (some 5) (.t 27),none,0⟩,⟨some 9,.new 39 [.nil,.nil,(.int .i64 0),(.int .i64 0),(.int .i64 0)],none,0⟩,⟨none,.st 5 (.t 9) (.t 28),none,0⟩]) (.frz [9])) q20)
def q7e:XCode:=(.block 0 (.loop [2,3,4,7,23,24,25] (.seq (.reg false [⟨some 26,.bin .lss (.t 25) (.t 24),none,0⟩]) (.seq (.cond (.t 26) .skip (.exit 0)) (.seq (.block 1 qy0) (.reg false [⟨some 34,.bin .add (.t 25) (.c (.int .i64 1)),none,0⟩,⟨some 25,.mv (.t 34),none,0⟩]))))))
def q30:XCode:=q7e
def qwn:XCode:=(.seq (.reg false [⟨some 47,.ld (some 3) (.t 10),none,0⟩,⟨some 48,.call (.c (.fn 20 [])) [(.t 47)],none,0⟩,⟨some 49,.un .not (.t 48),none,0⟩]) (.cond (.t 49) (.reg false [⟨some 11,.mv (.c (.int .i64 4)),none,0⟩]) .skip))
def qwa:XCode:=(.seq (.reg false [⟨some 44,.ld (some 3) (.t 10),none,0⟩,⟨some 45,.mv (.t 7),none,0⟩,⟨some 46,.call (.c (.fn 57 [])) [(.t 44),(.t 45)],none,0⟩,⟨none,.st 3 (.t 10) (.t 46),none,0⟩]) qwn)
def qwz:XCode:=(.cond (.t 43) qwa .skip)
def qqi:XCode:=(.seq (.reg false [⟨some 52,.ld (some 3) (.t 2),none,0⟩,⟨some 53,.call (.c (.fn 56 [])) [(.t 52)],none,0⟩,⟨some 54,.mv (.t 11),none,0⟩,⟨none,.st 3 (.t 4) (.t 53),none,0⟩,⟨some 5,.mv (.t 54),none,0⟩,⟨some 6,.mv (.c (.bool true)),none,0⟩]) .ret)
def qot:XCode:=(.cond (.t 51) qqi .skip)
def qqc:XCode:=(.seq (.reg false [⟨some 55,.ld (some 3) (.t 10),none,0⟩,⟨some 56,.call (.c (.fn 56 [])) [(.t 55)],none,0⟩,⟨none,.st 3 (.t 4) (.t 56),none,0⟩,⟨some 5,.mv (.c (.int .i64 0)),none,0⟩,⟨some 6,.mv (.c (.bool true)),none,0⟩]) .ret)
def qs5:XCode:=(.seq (.seq (.reg false [⟨some 50,.mv (.t 11),none,0⟩,⟨some 51,.bin .neq (.t 50) (.c (.int .i64 0)),none,0⟩]) qot) qqc)
def qo9:XCode:=(.seq (.seq (.reg false [⟨some 42,.mv (.t 11),none,0⟩,⟨some 43,.bin .eql (.t 42) (.c (.int .i64 0)),none,0⟩]) qwz) qs5)
def qtr:XCode:=(.seq (.reg true [⟨some 10,.new 29 [.nil,.nil,(.int .i64 0)],none,1⟩,⟨some 36,.ld (some 3) (.t 2),none,4⟩,⟨some 37,.call (.c (.fn 56 [])) [(.t 36)],none,2⟩,⟨some 38,.ld (some 6) (.t 3),none,1⟩,⟨some 39,.call (.c (.fn 55 [])) [(.t 37),(.t 38)],none,3⟩,⟨some 35,.mv (.t 39),none,4⟩,⟨some 40,.ext (.t 35) 0,none,4⟩,⟨some 41,.ext (.t 35) 1,none,1⟩,⟨none,.st 3 (.t 10) (.t 40),none,3⟩,⟨some 11,.mv (.t 41),none,4⟩]) qo9)
def qps:XCode:=(.seq (.seq (.reg false [⟨some 22,.fa 1 (.t 2),none,0⟩,⟨some 23,.ld none (.t 22),none,0⟩,⟨some 24,.len (.t 23),none,0⟩,⟨some 25,.mv (.c (.int .i64 0)),none,0⟩]) q30) qtr)
def qs2:XCode:=(.seq (.reg false [⟨some 7,.mv (.c .nil),none,0⟩]) qps)
def qs8:XCode:=(.seq (.seq (.reg false [⟨some 12,.ld (some 3) (.t 2),none,0⟩,⟨some 13,.call (.c (.fn 20 [])) [(.t 12)],none,0⟩,⟨some 14,.un .not (.t 13),none,0⟩,⟨some 15,.mv (.t 14),none,0⟩,⟨some 16,.ld (some 3) (.t 2),(some (15,false)),0⟩,⟨some 17,.ld (some 6) (.t 3),(some (15,false)),0⟩,⟨some 18,.call (.c (.fn 54 [])) [(.t 16),(.t 17)],(some (15,false)),0⟩,⟨some 19,.un .not (.t 18),(some (15,false)),0⟩,⟨some 20,.pick (.t 15) (.c (.bool true)) (.t 19),none,0⟩]) q15) qs2)
def x19:XFn:=⟨(.seq (.seq (.reg false [⟨some 2,.box 29 3 (.t 0),none,0⟩,⟨some 3,.box 44 6 (.t 1),none,0⟩,⟨some 4,.new 29 [.nil,.nil,(.int .i64 0)],none,0⟩,⟨some 5,.mv (.c (.int .i64 0)),none,0⟩,⟨some 6,.mv (.c (.bool false)),none,0⟩]) (.frz [2,3])) qs8),57,[(.cell 4 (some 3)),(.t 5),(.t 6)]⟩
theorem q9l:FnOk Try.prog T 19 x19:=⟨Try.f19,[.frz [2,3],.loop [2,3,4,7,23,24,25],.frz [],.frz [9],.draw [7,0,1,2,3,4,5,6,8,9] [1,4,2,1,3,4,4,1,3,4]],Try.func19,by decide +kernel,by kernel_rfl⟩
def qxu:XCode:=(.cond (.t 8) (.seq (.reg false [⟨some 9,.build [.nil,.nil,(.int .i64 0)] [],none,0⟩,⟨none,.st 3 (.t 2) (.t 9),none,0⟩,⟨some 3,.mv (.c (.bool false)),none,0⟩]) .ret) .skip)
def q1c:XCode:=(.reg false [⟨some 16,.fa 0 (.t 4),none,0⟩,⟨some 17,.ld none (.t 16),none,0⟩,⟨some 18,.build [(.int .i64 0),(.int .i64 0),(.bool false)] [(2,(1,(.c (.bool true))))],none,0⟩,⟨some 19,.buildS 86 1 [(.int .i64 0),(.int .i64 0),(.bool false)] [(0,(3,(.t 18)))],none,0⟩,⟨some 20,.app 86 3 24 (.t 17) (.t 19),none,0⟩,⟨some 21,.fa 0 (.t 4),none,0⟩,⟨none,.st 1 (.t 21) (.t 20),none,0⟩])
def q1r:XCode:=(.seq (.block 1 q1c) (.reg false [⟨some 14,.mv (.t 5),none,0⟩,⟨some 15,.bin .add (.t 14) (.c (.int .i64 1)),none,0⟩,⟨some 5,.mv (.t 15),none,0⟩]))
def qvy:XCode:=(.seq (.seq (.reg false [⟨some 11,.mv (.t 5),none,0⟩,⟨some 12,.mv (.t 0),none,0⟩,⟨some 13,.bin .lss (.t 11) (.t 12),none,0⟩]) (.cond (.t 13) .skip (.exit 0))) q1r)
def q7f:XCode:=(.block 0 (.loop [0,2,4,5] qvy))
def q1u:XCode:=q7f
def q14:XCode:=(.seq (.seq (.reg false [⟨some 5,.mv (.c (.int .i64 0)),none,0⟩]) q1u) (.seq (.reg false [⟨some 22,.ld (some 3) (.t 4),none,0⟩,⟨none,.st 3 (.t 2) (.t 22),none,0⟩,⟨some 3,.mv (.c (.bool true)),none,0⟩]) .ret))
def q2l:XCode:=(.seq (.reg false [⟨some 10,.build [.nil,.nil,(.int .i64 0)] [(2,(1,(.c (.int .i64 1))))],none,0⟩,⟨some 4,.new 29 [.nil,.nil,(.int .i64 0)],none,0⟩,⟨none,.st 3 (.t 4) (.t 10),none,0⟩]) q14)
def qx6:XCode:=(.seq (.seq (.reg false [⟨some 6,.mv (.t 0),none,0⟩,⟨some 7,.call (.c (.fn 58 [])) [(.t 6),(.c (.int .i64 1)),(.c (.int .i64 6))],none,0⟩,⟨some 8,.un .not (.t 7),none,0⟩]) qxu) q2l)
def x28:XFn:=⟨(.seq (.reg false [⟨some 2,.new 29 [.nil,.nil,(.int .i64 0)],none,0⟩,⟨some 3,.mv (.c (.bool false)),none,0⟩]) qx6),23,[(.cell 2 (some 3)),(.t 3)]⟩
theorem q84:FnOk Try.prog T 28 x28:=⟨Try.f28,[.loop [0,2,4,5]],Try.func28,by decide +kernel,by kernel_rfl⟩
def q61:XCode:=(.seq (.reg false [⟨some 27,.build [.nil,.nil,(.int .i64 0)] [],none,0⟩,⟨none,.st 3 (.t 4) (.t 27),none,0⟩,⟨some 5,.mv (.c .nil),none,0⟩,⟨some 6,.mv (.c (.bool false)),none,0⟩]) .ret)
def q6k:XCode:=(.cond (.t 26) q61 .skip)
def q63:XCode:=(.seq (.reg false [⟨some 43,.build [.nil,.nil,(.int .i64 0)] [],none,0⟩,⟨none,.st 3 (.t 4) (.t 43),none,0⟩,⟨some 5,.mv (.c .nil),none,0⟩,⟨some 6,.mv (.c (.bool false)),none,0⟩]) .ret)
def q5o:XCode:=(.cond (.t 42) q63 .skip)
def q6a:XCode:=(.reg false [⟨some 45,.mv (.t 9),none,0⟩,⟨some 46,.mv (.t 13),none,0⟩,⟨some 47,.buildS 3 1 [(.int .i64 0)] [(0,(1,(.t 46)))],none,0⟩,⟨some 48,.app 3 1 8 (.t 45) (.t 47),none,0⟩,⟨some 9,.mv (.t 48),none,0⟩])
def q5t:XCode:=(.seq (.reg false [⟨some 44,.ld (some 3) (.t 12),none,0⟩,⟨none,.st 3 (.t 7) (.t 44),none,0⟩]) q6a)
def q5q:XCode:=(.seq (.seq (.reg false [⟨some 41,.mv (.t 14),none,0⟩,⟨some 42,.un .not (.t 41),none,0⟩]) q5o) q5t)
def q5k:XCode:=(.seq (.seq (.reg false [⟨some 35,.ld (some 3) (.t 7),none,0⟩,⟨some 36,.ld (some 6) (.t 11),none,0⟩,⟨some 37,.call (.c (.fn 19 [])) [(.t 35),(.t 36)],none,0⟩,⟨some 34,.mv (.t 37),none,0⟩,⟨some 38,.ext (.t 34) 0,none,0⟩,⟨some 39,.ext (.t 34) 1,none,0⟩,⟨some 40,.ext (.t 34) 2,none,0⟩,⟨some 12,.new 29 [.nil,.nil,(.int .i64 0)],none,0⟩,⟨none,.st 3 (.t 12) (.t 38),none,0⟩,⟨some 13,.mv (.t 39),none,0⟩,⟨some 14,.mv (.t 40),none,0⟩]) (.frz [12])) q5q)
def q6m:XCode:=(.seq (.seq (.reg false [⟨some 32,.ia 6 (.t 28) (.t 30),none,0⟩,⟨some 33,.ld (some 6) (.t 32),none,0⟩,⟨some 11,.new 44 [(.int .i64 0),(.int .i64 0),(.int .i64 0),(.int .i64 0),(.int .i64 0),.nil],none,0⟩,⟨none,.st 6 (.t 11) (.t 33),none,0⟩]) (.frz [11])) q5k)
def q8d:XCode:=(.block 0 (.loop [4,7,9,28,29,30] (.seq (.reg false [⟨some 31,.bin .lss (.t 30) (.t 29),none,0⟩]) (.seq (.cond (.t 31) .skip (.exit 0)) (.seq (.block 1 q6m) (.reg false [⟨some 49,.bin .add (.t 30) (.c (.int .i64 1)),none,0⟩,⟨some 30,.mv (.t 49),none,0⟩]))))))
def qxr:XCode:=q8d
def qv5:XCode:=(.seq (.reg false [⟨some 50,.ld (some 3) (.t 7),none,0⟩,⟨some 51,.mv (.t 9),none,0⟩,⟨none,.st 3 (.t 4) (.t 50),none,0⟩,⟨some 5,.mv (.t 51),none,0⟩,⟨some 6,.mv (.c (.bool true)),none,0⟩]) .ret)
def qyn:XCode:=(.seq (.seq (.reg false [⟨some 28,.mv (.t 1),none,0⟩,⟨some 29,.len (.t 28),none,0⟩,⟨some 30,.mv (.c (.int .i64 0)),none,0⟩]) qxr) qv5)
def qv4:XCode:=(.seq (.reg false [⟨some 9,.mv (.c .nil),none,0⟩]) qyn)
def q3o:XCode:=(.seq (.seq (.reg false [⟨some 20,.mv (.t 8),none,0⟩,⟨some 21,.un .not (.t 20),none,0⟩,⟨some 22,.mv (.t 21),none,0⟩,⟨some 23,.mv (.t 1),(some (22,false)),0⟩,⟨some 24,.len (.t 23),(some (22,false)),0⟩,⟨some 25,.bin .gtr (.t 24) (.c (.int .i64 80)),(some (22,false)),0⟩,⟨some 26,.pick (.t 22) (.c (.bool true)) (.t 25),none,0⟩]) q6k) qv4)
def qzc:XCode:=(.seq (.reg false [⟨some 16,.mv (.t 0),none,0⟩,⟨some 17,.call (.c (.fn 28 [])) [(.t 16)],none,0⟩,⟨some 15,.mv (.t 17),none,0⟩,⟨some 18,.ext (.t 15) 0,none,0⟩,⟨some 19,.ext (.t 15) 1,none,0⟩,⟨some 7,.new 29 [.nil,.nil,(.int .i64 0)],none,0⟩,⟨none,.st 3 (.t 7) (.t 18),none,0⟩,⟨some 8,.mv (.t 19),none,0⟩]) q3o)
def x9:XFn:=⟨(.seq (.reg false [⟨some 4,.new 29 [.nil,.nil,(.int .i64 0)],none,0⟩,⟨some 5,.mv (.c .nil),none,0⟩,⟨some 6,.mv (.c (.bool false)),none,0⟩]) qzc),52,[(.cell 4 (some 3)),(.t 5),(.t 6)]⟩
theorem ok9:FnOk Try.prog T 9 x9:=⟨Try.f9,[.loop [4,7,9,28,29,30],.frz [],.frz [11],.frz [12]],Try.func9,by decide +kernel,by kernel_rfl⟩
def q34:XCode:=(.seq (.seq (.reg false [⟨some 9,.mv (.t 1),none,0⟩,⟨some 10,.bin .lss (.t 9) (.c (.int .i64 0)),none,0⟩]) (.cond (.t 10) (.seq (.reg false [⟨some 4,.mv (.c (.int .i64 (-1))),none,0⟩]) .ret) .skip)) (.seq (.reg false [⟨some 11,.mv (.t 1),none,0⟩,⟨some 4,.mv (.t 11),none,0⟩]) .ret))
def qxf:XCode:=(.seq (.reg false [⟨some 5,.mv (.t 1),none,0⟩,⟨some 6,.mv (.t 0),none,0⟩,⟨some 7,.len (.t 6),none,0⟩,⟨some 8,.bin .sub (.t 5) (.t 7),none,0⟩,⟨some 1,.mv (.t 8),none,0⟩]) q34)
def x70:XFn:=⟨(.seq (.reg false [⟨some 4,.mv (.c (.int .i64 0)),none,0⟩]) qxf),12,[(.t 4)]⟩
theorem q9r:FnOk Try.prog T 70 x70:=⟨Try.f70,[],Try.func70,by decide +kernel,by kernel_rfl⟩
def q3z:XCode:=(.seq (.seq (.reg false [⟨some 9,.mv (.t 1),none,0⟩,⟨some 10,.bin .lss (.t 9) (.c (.int .i64 0)),none,0⟩]) (.cond (.t 10) (.seq (.reg false [⟨some 4,.mv (.c (.int .i64 (-1))),none,0⟩]) .ret) .skip)) (.seq (.reg false [⟨some 11,.mv (.t 1),none,0⟩,⟨some 4,.mv (.t 11),none,0⟩]) .ret))
def qy9:XCode:=(.seq (.reg false [⟨some 5,.fa 5 (.t 2),none,0⟩,⟨some 6,.ld none (.t 5),none,0⟩,⟨some 7,.mv (.t 1),none,0⟩,⟨some 8,.call (.c (.fn 70 [])) [(.t 6),(.t 7)],none,0⟩,⟨some 1,.mv (.t 8),none,0⟩]) q3z)
def x40:XFn:=⟨(.seq (.seq (.reg false [⟨some 2,.box 68 6 (.t 0),none,0⟩,⟨some 4,.mv (.c (.int .i64 0)),none,0⟩]) (.frz [2])) qy9),12,[(.t 4)]⟩
theorem q9x:FnOk Try.prog T 40 x40:=⟨Try.f40,[.frz [2]],Try.func40,by decide +kernel,by kernel_rfl⟩
def q0g:XCode:=(.seq (.reg false [⟨some 24,.mv (.t 1),none,0⟩,⟨some 25,.bin .lss (.t 24) (.c (.int .i64 0)),none,0⟩]) (.cond (.t 25) (.seq (.reg false [⟨some 4,.mv (.c (.int .i64 (-1))),none,0⟩]) .ret) .skip))
def q0q:XCode:=(.seq (.reg false [⟨some 18,.mv (.t 0),none,0⟩,⟨some 19,.mv (.t 5),none,0⟩,⟨some 20,.ia 6 (.t 18) (.t 19),none,0⟩,⟨some 21,.ld (some 6) (.t 20),none,0⟩,⟨some 22,.mv (.t 1),none,0⟩,⟨some 23,.call (.c (.fn 40 [])) [(.t 21),(.t 22)],none,0⟩,⟨some 1,.mv (.t 23),none,0⟩]) q0g)
def q2m:XCode:=(.seq (.block 1 q0q) (.reg false [⟨some 16,.mv (.t 5),none,0⟩,⟨some 17,.bin .add (.t 16) (.c (.int .i64 1)),none,0⟩,⟨some 5,.mv (.t 17),none,0⟩]))
def qyq:XCode:=(.seq (.seq (.reg false [⟨some 12,.mv (.t 5),none,0⟩,⟨some 13,.mv (.t 0),none,0⟩,⟨some 14,.len (.t 13),none,0⟩,⟨some 15,.bin .lss (.t 12) (.t 14),none,0⟩]) (.cond (.t 15) .skip (.exit 0))) q2m)
def q75:XCode:=(.block 0 (.loop [0,1,5] qyq))
def qw2:XCode:=q75
def q0l:XCode:=(.seq (.seq (.reg false [⟨some 5,.mv (.c (.int .i64 0)),none,0⟩]) qw2) (.seq (.reg false [⟨some 26,.mv (.t 1),none,0⟩,⟨some 4,.mv (.t 26),none,0⟩]) .ret))
def q2j:XCode:=(.seq (.seq (.reg false [⟨some 10,.mv (.t 1),none,0⟩,⟨some 11,.bin .lss (.t 10) (.c (.int .i64 0)),none,0⟩]) (.cond (.t 11) (.seq (.reg false [⟨some 4,.mv (.c (.int .i64 (-1))),none,0⟩]) .ret) .skip)) q0l)
def q23:XCode:=(.seq (.reg false [⟨some 6,.mv (.t 1),none,0⟩,⟨some 7,.mv (.t 0),none,0⟩,⟨some 8,.len (.t 7),none,0⟩,⟨some 9,.bin .sub (.t 6) (.t 8),none,0⟩,⟨some 1,.mv (.t 9),none,0⟩]) q2j)
def x29:XFn:=⟨(.seq (.reg false [⟨some 4,.mv (.c (.int .i64 0)),none,0⟩]) q23),27,[(.t 4)]⟩
theorem q8k:FnOk Try.prog T 29 x29:=⟨Try.f29,[.loop [0,1,5]],Try.func29,by decide +kernel,by kernel_rfl⟩
def qwc:XCode:=(.reg false [⟨some 14,.mv (.t 3),none,0⟩,⟨some 15,.mv (.t 4),none,0⟩,⟨some 16,.mv (.t 0),none,0⟩,⟨some 17,.mv (.t 4),none,0⟩,⟨some 18,.ia 1 (.t 16) (.t 17),none,0⟩,⟨some 19,.ld none (.t 18),none,0⟩,⟨some 20,.ia 1 (.t 14) (.t 15),none,0⟩,⟨none,.st 1 (.t 20) (.t 19),none,0⟩])
def qvu:XCode:=(.seq (.block 1 qwc) (.reg false [⟨some 12,.mv (.t 4),none,0⟩,⟨some 13,.bin .add (.t 12) (.c (.int .i64 1)),none,0⟩,⟨some 4,.mv (.t 13),none,0⟩]))
def qw0:XCode:=(.seq (.seq (.reg false [⟨some 8,.mv (.t 4),none,0⟩,⟨some 9,.mv (.t 0),none,0⟩,⟨some 10,.len (.t 9),none,0⟩,⟨some 11,.bin .lss (.t 8) (.t 10),none,0⟩]) (.cond (.t 11) .skip (.exit 0))) qvu)
def q7q:XCode:=(.block 0 (.loop [0,3,4] qw0))
def qxg:XCode:=q7q
def qza:XCode:=(.seq (.seq (.reg false [⟨some 4,.mv (.c (.int .i64 0)),none,0⟩]) qxg) (.seq (.reg false [⟨some 21,.mv (.t 3),none,0⟩,⟨some 2,.mv (.t 21),none,0⟩]) .ret))
def q1m:XCode:=(.seq (.reg false [⟨some 5,.mv (.t 0),none,0⟩,⟨some 6,.len (.t 5),none,0⟩,⟨some 7,.mkS 3 1 8 [(.int .i64 0)] (.t 6) (.t 6),none,0⟩,⟨some 3,.mv (.t 7),none,0⟩]) qza)
def x73:XFn:=⟨(.seq (.reg false [⟨some 2,.mv (.c .nil),none,0⟩]) q1m),22,[(.t 2)]⟩
theorem q8v:FnOk Try.prog T 73 x73:=⟨Try.f73,[.loop [0,3,4]],Try.func73,by decide +kernel,by kernel_rfl⟩
def qvs:XCode:=(.seq (.reg false [⟨some 19,.fa 5 (.t 1),none,0⟩,⟨some 20,.ld none (.t 19),none,0⟩,⟨some 21,.call (.c (.fn 73 [])) [(.t 20)],none,0⟩,⟨some 22,.fa 5 (.t 3),none,0⟩,⟨none,.st 1 (.t 22) (.t 21),none,0⟩]) (.seq (.reg false [⟨some 23,.ld (some 6) (.t 3),none,0⟩,⟨none,.st 6 (.t 2) (.t 23),none,0⟩]) .ret))
def qx3:XCode:=(.seq (.reg false [⟨some 16,.fa 4 (.t 1),none,0⟩,⟨some 17,.ld none (.t 16),none,0⟩,⟨some 18,.fa 4 (.t 3),none,0⟩,⟨none,.st 1 (.t 18) (.t 17),none,0⟩]) qvs)
def qzs:XCode:=(.seq (.reg false [⟨some 13,.fa 3 (.t 1),none,0⟩,⟨some 14,.ld none (.t 13),none,0⟩,⟨some 15,.fa 3 (.t 3),none,0⟩,⟨none,.st 1 (.t 15) (.t 14),none,0⟩]) qx3)
def q4a:XCode:=(.seq (.reg false [⟨some 10,.fa 2 (.t 1),none,0⟩,⟨some 11,.ld none (.t 10),none,0⟩,⟨some 12,.fa 2 (.t 3),none,0⟩,⟨none,.st 1 (.t 12) (.t 11),none,0⟩]) qzs)
def qv0:XCode:=(.seq (.reg false [⟨some 7,.fa 1 (.t 1),none,0⟩,⟨some 8,.ld none (.t 7),none,0⟩,⟨some 9,.fa 1 (.t 3),none,0⟩,⟨none,.st 1 (.t 9) (.t 8),none,0⟩]) q4a)
def q0c:XCode:=(.seq (.reg false [⟨some 4,.fa 0 (.t 1),none,0⟩,⟨some 5,.ld none (.t 4),none,0⟩,⟨some 6,.fa 0 (.t 3),none,0⟩,⟨none,.st 1 (.t 6) (.t 5),none,0⟩]) qv0)
def q3q:XCode:=(.seq (.reg false [⟨some 3,.new 44 [(.int .i64 0),(.int .i64 0),(.int .i64 0),(.int .i64 0),(.int .i64 0),.nil],none,0⟩]) q0c)
def x42:XFn:=⟨(.seq (.seq (.reg false [⟨some 1,.box 68 6 (.t 0),none,0⟩,⟨some 2,.new 44 [(.int .i64 0),(.int .i64 0),(.int .i64 0),(.int .i64 0),(.int .i64 0),.nil],none,0⟩]) (.frz [1])) q3q),24,[(.cell 2 (some 6))]⟩
theorem q8u:FnOk Try.prog T 42 x42:=⟨Try.f42,[.frz [1]],Try.func42,by decide +kernel,by kernel_rfl⟩
def q0j:XCode:=(.reg false [⟨some 14,.mv (.t 3),none,0⟩,⟨some 15,.mv (.t 4),none,0⟩,⟨some 16,.mv (.t 0),none,0⟩,⟨some 17,.mv (.t 4),none,0⟩,⟨some 18,.ia 6 (.t 16) (.t 17),none,0⟩,⟨some 19,.ld (some 6) (.t 18),none,0⟩,⟨some 20,.call (.c (.fn 42 [])) [(.t 19)],none,0⟩,⟨some 21,.ia 6 (.t 14) (.t 15),none,0⟩,⟨none,.st 6 (.t 21) (.t 20),none,0⟩])
def qxw:XCode:=(.seq (.block 1 q0j) (.reg false [⟨some 12,.mv (.t 4),none,0⟩,⟨some 13,.bin .add (.t 12) (.c (.int .i64 1)),none,0⟩,⟨some 4,.mv (.t 13),none,0⟩]))
def qxh:XCode:=(.seq (.seq (.reg false [⟨some 8,.mv (.t 4),none,0⟩,⟨some 9,.mv (.t 0),none,0⟩,⟨some 10,.len (.t 9),none,0⟩,⟨some 11,.bin .lss (.t 8) (.t 10),none,0⟩]) (.cond (.t 11) .skip (.exit 0))) qxw)
def q7r:XCode:=(.block 0 (.loop [0,3,4] qxh))
def q0m:XCode:=q7r
def qw1:XCode:=(.seq (.seq (.reg false [⟨some 4,.mv (.c (.int .i64 0)),none,0⟩]) q0m) (.seq (.reg false [⟨some 22,.mv (.t 3),none,0⟩,⟨some 2,.mv (.t 22),none,0⟩]) .ret))
def qxb:XCode:=(.seq (.reg false [⟨some 5,.mv (.t 0),none,0⟩,⟨some 6,.len (.t 5),none,0⟩,⟨some 7,.mkS 44 6 64 [(.int .i64 0),(.int .i64 0),(.int .i64 0),(.int .i64 0),(.int .i64 0),.nil] (.t 6) (.t 6),none,0⟩,⟨some 3,.mv (.t 7),none,0⟩]) qw1)
def x30:XFn:=⟨(.seq (.reg false [⟨some 2,.mv (.c .nil),none,0⟩]) qxb),23,[(.t 2)]⟩
theorem q9u:FnOk Try.prog T 30 x30:=⟨Try.f30,[.loop [0,3,4]],Try.func30,by decide +kernel,by kernel_rfl⟩
def qvi:XCode:=(.seq (.seq (.reg false [⟨some 15,.fa 2 (.t 2),none,0⟩,⟨some 16,.ld none (.t 15),none,0⟩,⟨some 17,.fa 2 (.t 3),none,0⟩,⟨some 18,.ld none (.t 17),none,0⟩,⟨some 19,.eqb true (.t 16) (.t 18),none,0⟩]) (.cond (.t 19) (.seq (.reg false [⟨some 4,.mv (.c (.bool false)),none,0⟩]) .ret) .skip)) (.seq (.reg false [⟨some 4,.mv (.c (.bool true)),none,0⟩]) .ret))
def q2c:XCode:=(.seq (.seq (.reg false [⟨some 10,.fa 1 (.t 2),none,0⟩,⟨some 11,.ld none (.t 10),none,0⟩,⟨some 12,.fa 1 (.t 3),none,0⟩,⟨some 13,.ld none (.t 12),none,0⟩,⟨some 14,.bin .neq (.t 11) (.t 13),none,0⟩]) (.cond (.t 14) (.seq (.reg false [⟨some 4,.mv (.c (.bool false)),none,0⟩]) .ret) .skip)) qvi)
def q4d:XCode:=(.seq (.seq (.reg false [⟨some 5,.fa 0 (.t 2),none,0⟩,⟨some 6,.ld none (.t 5),none,0⟩,⟨some 7,.fa 0 (.t 3),none,0⟩,⟨some 8,.ld none (.t 7),none,0⟩,⟨some 9,.bin .neq (.t 6) (.t 8),none,0⟩]) (.cond (.t 9) (.seq (.reg false [⟨some 4,.mv (.c (.bool false)),none,0⟩]) .ret) .skip)) q2c)
def x88:XFn:=⟨(.seq (.seq (.reg false [⟨some 2,.box 86 3 (.t 0),none,0⟩,⟨some 3,.box 86 3 (.t 1),none,0⟩,⟨some 4,.mv (.c (.bool false)),none,0⟩]) (.frz [2,3])) q4d),20,[(.t 4)]⟩
theorem q9q:FnOk Try.prog T 88 x88:=⟨Try.f88,[.frz [2,3]],Try.func88,by decide +kernel,by kernel_rfl⟩
def q0v:XCode:=(.seq (.reg true [⟨some 17,.mv (.t 0),none,4⟩,⟨some 18,.mv (.t 5),none,4⟩,⟨some 19,.ia 3 (.t 17) (.t 18),none,4⟩,⟨some 20,.ld (some 3) (.t 19),none,4⟩,⟨some 21,.mv (.t 1),none,4⟩,⟨some 22,.mv (.t 5),none,4⟩,⟨some 23,.ia 3 (.t 21) (.t 22),none,4⟩,⟨some 24,.ld (some 3) (.t 23),none,4⟩,⟨some 25,.call (.c (.fn 88 [])) [(.t 20),(.t 24)],none,3⟩,⟨some 26,.un .not (.t 25),none,4⟩]) (.cond (.t 26) (.seq (.reg false [⟨some 4,.mv (.c (.bool false)),none,0⟩]) .ret) .skip))
def q1y:XCode:=(.seq (.block 1 q0v) (.reg false [⟨some 15,.mv (.t 5),none,0⟩,⟨some 16,.bin .add (.t 15) (.c (.int .i64 1)),none,0⟩,⟨some 5,.mv (.t 16),none,0⟩]))
def q18:XCode:=(.seq (.seq (.reg false [⟨some 11,.mv (.t 5),none,0⟩,⟨some 12,.mv (.t 0),none,0⟩,⟨some 13,.len (.t 12),none,0⟩,⟨some 14,.bin .lss (.t 11) (.t 13),none,0⟩]) (.cond (.t 14) .skip (.exit 0))) q1y)
def q7x:XCode:=(.block 0 (.loop [0,1,5] q18))
def qvh:XCode:=q7x
def q35:XCode:=(.seq (.seq (.reg false [⟨some 5,.mv (.c (.int .i64 0)),none,0⟩]) qvh) (.seq (.reg false [⟨some 4,.mv (.c (.bool true)),none,0⟩]) .ret))
def qw9:XCode:=(.seq (.seq (.reg false [⟨some 6,.mv (.t 0),none,0⟩,⟨some 7,.len (.t 6),none,0⟩,⟨some 8,.mv (.t 1),none,0⟩,⟨some 9,.len (.t 8),none,0⟩,⟨some 10,.bin .neq (.t 7) (.t 9),none,0⟩]) (.cond (.t 10) (.seq (.reg false [⟨some 4,.mv (.c (.bool false)),none,0⟩]) .ret) .skip)) q35)
def x62:XFn:=⟨(.seq (.reg false [⟨some 4,.mv (.c (.bool false)),none,0⟩]) qw9),27,[(.t 4)]⟩
theorem q9s:FnOk Try.prog T 62 x62:=⟨Try.f62,[.loop [0,1,5],.draw [0,1,2,3,4,5,6,7,8,9] [4,4,4,4,4,4,4,4,3,4]],Try.func62,by decide +kernel,by kernel_rfl⟩
def qxo:XCode:=(.seq (.reg true [⟨some 17,.mv (.t 0),none,4⟩,⟨some 18,.mv (.t 5),none,4⟩,⟨some 19,.ia 1 (.t 17) (.t 18),none,4⟩,⟨some 20,.ld none (.t 19),none,4⟩,⟨some 21,.mv (.t 1),none,4⟩,⟨some 22,.mv (.t 5),none,4⟩,⟨some 23,.ia 1 (.t 21) (.t 22),none,4⟩,⟨some 24,.ld none (.t 23),none,4⟩,⟨some 25,.bin .neq (.t 20) (.t 24),none,4⟩]) (.cond (.t 25) (.seq (.reg false [⟨some 4,.mv (.c (.bool false)),none,0⟩]) .ret) .skip))
def q1k:XCode:=(.seq (.block 1 qxo) (.reg false [⟨some 15,.mv (.t 5),none,0⟩,⟨some 16,.bin .add (.t 15) (.c (.int .i64 1)),none,0⟩,⟨some 5,.mv (.t 16),none,0⟩]))
def qv8:XCode:=(.seq (.seq (.reg false [⟨some 11,.mv (.t 5),none,0⟩,⟨some 12,.mv (.t 0),none,0⟩,⟨some 13,.len (.t 12),none,0⟩,⟨some 14,.bin .lss (.t 11) (.t 13),none,0⟩]) (.cond (.t 14) .skip (.exit 0))) q1k)
def q7t:XCode:=(.block 0 (.loop [0,1,5] qv8))
def qx1:XCode:=q7t
def qye:XCode:=(.seq (.seq (.reg false [⟨some 5,.mv (.c (.int .i64 0)),none,0⟩]) qx1) (.seq (.reg false [⟨some 4,.mv (.c (.bool true)),none,0⟩]) .ret))
def qyg:XCode:=(.seq (.seq (.reg false [⟨some 6,.mv (.t 0),none,0⟩,⟨some 7,.len (.t 6),none,0⟩,⟨some 8,.mv (.t 1),none,0⟩,⟨some 9,.len (.t 8),none,0⟩,⟨some 10,.bin .neq (.t 7) (.t 9),none,0⟩]) (.cond (.t 10) (.seq (.reg false [⟨some 4,.mv (.c (.bool false)),none,0⟩]) .ret) .skip)) qye)
def x32:XFn:=⟨(.seq (.reg false [⟨some 4,.mv (.c (.bool false)),none,0⟩]) qyg),26,[(.t 4)]⟩
theorem q85:FnOk Try.prog T 32 x32:=⟨Try.f32,[.loop [0,1,5],.draw [0,1,2,3,4,5,6,7,8] [4,4,4,4,4,4,4,4,4]],Try.func32,by decide +kernel,by kernel_rfl⟩
def qzx:XCode:=(.seq (.seq (.reg false [⟨some 27,.fa 4 (.t 2),none,0⟩,⟨some 28,.ld none (.t 27),none,0⟩,⟨some 29,.fa 4 (.t 3),none,0⟩,⟨some 30,.ld none (.t 29),none,0⟩,⟨some 31,.bin .neq (.t 28) (.t 30),none,0⟩]) (.cond (.t 31) (.seq (.reg false [⟨some 4,.mv (.c (.bool false)),none,0⟩]) .ret) .skip)) (.seq (.reg false [⟨some 4,.mv (.c (.bool true)),none,0⟩]) .ret))
def q1h:XCode:=(.seq (.seq (.reg false [⟨some 22,.fa 3 (.t 2),none,0⟩,⟨some 23,.ld none (.t 22),none,0⟩,⟨some 24,.fa 3 (.t 3),none,0⟩,⟨some 25,.ld none (.t 24),none,0⟩,⟨some 26,.bin .neq (.t 23) (.t 25),none,0⟩]) (.cond (.t 26) (.seq (.reg false [⟨some 4,.mv (.c (.bool false)),none,0⟩]) .ret) .skip)) qzx)
def qzh:XCode:=(.seq (.seq (.reg false [⟨some 17,.fa 2 (.t 2),none,0⟩,⟨some 18,.ld none (.t 17),none,0⟩,⟨some 19,.fa 2 (.t 3),none,0⟩,⟨some 20,.ld none (.t 19),none,0⟩,⟨some 21,.bin .neq (.t 18) (.t 20),none,0⟩]) (.cond (.t 21) (.seq (.reg false [⟨some 4,.mv (.c (.bool false)),none,0⟩]) .ret) .skip)) q1h)
def qx2:XCode:=(.seq (.seq (.reg false [⟨some 11,.fa 1 (.t 2),none,0⟩,⟨some 12,.ld none (.t 11),none,0⟩,⟨some 13,.fa 1 (.t 3),none,0⟩,⟨some 14,.ld none (.t 13),none,0⟩,⟨some 15,.call (.c (.fn 32 [])) [(.t 12),(.t 14)],none,0⟩,⟨some 16,.un .not (.t 15),none,0⟩]) (.cond (.t 16) (.seq (.reg false [⟨some 4,.mv (.c (.bool false)),none,0⟩]) .ret) .skip)) qzh)
def q0e:XCode:=(.seq (.seq (.reg false [⟨some 5,.fa 0 (.t 2),none,0⟩,⟨some 6,.ld none (.t 5),none,0⟩,⟨some 7,.fa 0 (.t 3),none,0⟩,⟨some 8,.ld none (.t 7),none,0⟩,⟨some 9,.call (.c (.fn 32 [])) [(.t 6),(.t 8)],none,0⟩,⟨some 10,.un .not (.t 9),none,0⟩]) (.cond (.t 10) (.seq (.reg false [⟨some 4,.mv (.c (.bool false)),none,0⟩]) .ret) .skip)) qx2)
def x89:XFn:=⟨(.seq (.seq (.reg false [⟨some 2,.box 39 5 (.t 0),none,0⟩,⟨some 3,.box 39 5 (.t 1),none,0⟩,⟨some 4,.mv (.c (.bool false)),none,0⟩]) (.frz [2,3])) q0e),32,[(.t 4)]⟩
theorem q88:FnOk Try.prog T 89 x89:=⟨Try.f89,[.frz [2,3]],Try.func89,by decide +kernel,by kernel_rfl⟩
def qyu:XCode:=(.seq (.reg true [⟨some 17,.mv (.t 0),none,4⟩,⟨some 18,.mv (.t 5),none,4⟩,⟨some 19,.ia 5 (.t 17) (.t 18),none,4⟩,⟨some 20,.ld (some 5) (.t 19),none,4⟩,⟨some 21,.mv (.t 1),none,4⟩,⟨some 22,.mv (.t 5),none,4⟩,⟨some 23,.ia 5 (.t 21) (.t 22),none,4⟩,⟨some 24,.ld (some 5) (.t 23),none,4⟩,⟨some 25,.call (.c (.fn 89 [])) [(.t 20),(.t 24)],none,3⟩,⟨some 26,.un .not (.t 25),none,4⟩]) (.cond (.t 26) (.seq (.reg false [⟨some 4,.mv (.c (.bool false)),none,0⟩]) .ret) .skip))
def q13:XCode:=(.seq (.block 1 qyu) (.reg false [⟨some 15,.mv (.t 5),none,0⟩,⟨some 16,.bin .add (.t 15) (.c (.int .i64 1)),none,0⟩,⟨some 5,.mv (.t 16),none,0⟩]))
def qy3:XCode:=(.seq (.seq (.reg false [⟨some 11,.mv (.t 5),none,0⟩,⟨some 12,.mv (.t 0),none,0⟩,⟨some 13,.len (.t 12),none,0⟩,⟨some 14,.bin .lss (.t 11) (.t 13),none,0⟩]) (.cond (.t 14) .skip (.exit 0))) q13)
def q7n:XCode:=(.block 0 (.loop [0,1,5] qy3))
def qyi:XCode:=q7n
def q2s:XCode:=(.seq (.seq (.reg false [⟨some 5,.mv (.c (.int .i64 0)),none,0⟩]) qyi) (.seq (.reg false [⟨some 4,.mv (.c (.bool true)),none,0⟩]) .ret))
def q09:XCode:=(.seq (.seq (.reg false [⟨some 6,.mv (.t 0),none,0⟩,⟨some 7,.len (.t 6),none,0⟩,⟨some 8,.mv (.t 1),none,0⟩,⟨some 9,.len (.t 8),none,0⟩,⟨some 10,.bin .neq (.t 7) (.t 9),none,0⟩]) (.cond (.t 10) (.seq (.reg false [⟨some 4,.mv (.c (.bool false)),none,0⟩]) .ret) .skip)) q2s)
def x63:XFn:=⟨(.seq (.reg false [⟨some 4,.mv (.c (.bool false)),none,0⟩]) q09),27,[(.t 4)]⟩
theorem q92:FnOk Try.prog T 63 x63:=⟨Try.f63,[.loop [0,1,5],.draw [0,1,2,3,4,5,6,7,8,9] [4,4,4,4,4,4,4,4,3,4]],Try.func63,by decide +kernel,by kernel_rfl⟩
def qw4:XCode:=(.seq (.seq (.reg false [⟨some 17,.fa 2 (.t 2),none,0⟩,⟨some 18,.ld none (.t 17),none,0⟩,⟨some 19,.fa 2 (.t 3),none,0⟩,⟨some 20,.ld none (.t 19),none,0⟩,⟨some 21,.bin .neq (.t 18) (.t 20),none,0⟩]) (.cond (.t 21) (.seq (.reg false [⟨some 4,.mv (.c (.bool false)),none,0⟩]) .ret) .skip)) (.seq (.reg false [⟨some 4,.mv (.c (.bool true)),none,0⟩]) .ret))
def q19:XCode:=(.seq (.seq (.reg false [⟨some 11,.fa 1 (.t 2),none,0⟩,⟨some 12,.ld none (.t 11),none,0⟩,⟨some 13,.fa 1 (.t 3),none,0⟩,⟨some 14,.ld none (.t 13),none,0⟩,⟨some 15,.call (.c (.fn 63 [])) [(.t 12),(.t 14)],none,0⟩,⟨some 16,.un .not (.t 15),none,0⟩]) (.cond (.t 16) (.seq (.reg false [⟨some 4,.mv (.c (.bool false)),none,0⟩]) .ret) .skip)) qw4)
def qvf:XCode:=(.seq (.seq (.reg false [⟨some 5,.fa 0 (.t 2),none,0⟩,⟨some 6,.ld none (.t 5),none,0⟩,⟨some 7,.fa 0 (.t 3),none,0⟩,⟨some 8,.ld none (.t 7),none,0⟩,⟨some 9,.call (.c (.fn 62 [])) [(.t 6),(.t 8)],none,0⟩,⟨some 10,.un .not (.t 9),none,0⟩]) (.cond (.t 10) (.seq (.reg false [⟨some 4,.mv (.c (.bool false)),none,0⟩]) .ret) .skip)) q19)
def x31:XFn:=⟨(.seq (.seq (.reg false [⟨some 2,.box 29 3 (.t 0),none,0⟩,⟨some 3,.box 29 3 (.t 1),none,0⟩,⟨some 4,.mv (.c (.bool false)),none,0⟩]) (.frz [2,3])) qvf),22,[(.t 4)]⟩
theorem q8w:FnOk Try.prog T 31 x31:=⟨Try.f31,[.frz [2,3]],Try.func31,by decide +kernel,by kernel_rfl⟩
def q3f:XCode:=(.seq (.seq (.reg false [⟨some 30,.fa 5 (.t 2),none,0⟩,⟨some 31,.ld none (.t 30),none,0⟩,⟨some 32,.fa 5 (.t 3),none,0⟩,⟨some 33,.ld none (.t 32),none,0⟩,⟨some 34,.call (.c (.fn 32 [])) [(.t 31),(.t 33)],none,0⟩,⟨some 35,.un .not (.t 34),none,0⟩]) (.cond (.t 35) (.seq (.reg false [⟨some 4,.mv (.c (.bool false)),none,0⟩]) .ret) .skip)) (.seq (.reg false [⟨some 4,.mv (.c (.bool true)),none,0⟩]) .ret))
def q3s:XCode:=(.seq (.seq (.reg false [⟨some 25,.fa 4 (.t 2),none,0⟩,⟨some 26,.ld none (.t 25),none,0⟩,⟨some 27,.fa 4 (.t 3),none,0⟩,⟨some 28,.ld none (.t 27),none,0⟩,⟨some 29,.bin .neq (.t 26) (.t 28),none,0⟩]) (.cond (.t 29) (.seq (.reg false [⟨some 4,.mv (.c (.bool false)),none,0⟩]) .ret) .skip)) q3f)
def qzj:XCode:=(.seq (.seq (.reg false [⟨some 20,.fa 3 (.t 2),none,0⟩,⟨some 21,.ld none (.t 20),none,0⟩,⟨some 22,.fa 3 (.t 3),none,0⟩,⟨some 23,.ld none (.t 22),none,0⟩,⟨some 24,.bin .neq (.t 21) (.t 23),none,0⟩]) (.cond (.t 24) (.seq (.reg false [⟨some 4,.mv (.c (.bool false)),none,0⟩]) .ret) .skip)) q3s)
def qxj:XCode:=(.seq (.seq (.reg false [⟨some 15,.fa 2 (.t 2),none,0⟩,⟨some 16,.ld none (.t 15),none,0⟩,⟨some 17,.fa 2 (.t 3),none,0⟩,⟨some 18,.ld none (.t 17),none,0⟩,⟨some 19,.bin .neq (.t 16) (.t 18),none,0⟩]) (.cond (.t 19) (.seq (.reg false [⟨some 4,.mv (.c (.bool false)),none,0⟩]) .ret) .skip)) qzj)
def q2o:XCode:=(.seq (.seq (.reg false [⟨some 10,.fa 1 (.t 2),none,0⟩,⟨some 11,.ld none (.t 10),none,0⟩,⟨some 12,.fa 1 (.t 3),none,0⟩,⟨some 13,.ld none (.t 12),none,0⟩,⟨some 14,.bin .neq (.t 11) (.t 13),none,0⟩]) (.cond (.t 14) (.seq (.reg false [⟨some 4,.mv (.c (.bool false)),none,0⟩]) .ret) .skip)) qxj)
def qys:XCode:=(.seq (.seq (.reg false [⟨some 5,.fa 0 (.t 2),none,0⟩,⟨some 6,.ld none (.t 5),none,0⟩,⟨some 7,.fa 0 (.t 3),none,0⟩,⟨some 8,.ld none (.t 7),none,0⟩,⟨some 9,.bin .neq (.t 6) (.t 8),none,0⟩]) (.cond (.t 9) (.seq (.reg false [⟨some 4,.mv (.c (.bool false)),none,0⟩]) .ret) .skip)) q2o)
def x43:XFn:=⟨(.seq (.seq (.reg false [⟨some 2,.box 44 6 (.t 0),none,0⟩,⟨some 3,.box 44 6 (.t 1),none,0⟩,⟨some 4,.mv (.c (.bool false)),none,0⟩]) (.frz [2,3])) qys),36,[(.t 4)]⟩
theorem q9w:FnOk Try.prog T 43 x43:=⟨Try.f43,[.frz [2,3]],Try.func43,by decide +kernel,by kernel_rfl⟩
def qyf:XCode:=(.seq (.reg true [⟨some 17,.mv (.t 0),none,4⟩,⟨some 18,.mv (.t 5),none,4⟩,⟨some 19,.ia 6 (.t 17) (.t 18),none,4⟩,⟨some 20,.ld (some 6) (.t 19),none,4⟩,⟨some 21,.mv (.t 1),none,4⟩,⟨some 22,.mv (.t 5),none,4⟩,⟨some 23,.ia 6 (.t 21) (.t 22),none,4⟩,⟨some 24,.ld (some 6) (.t 23),none,4⟩,⟨some 25,.call (.c (.fn 43 [])) [(.t 20),(.t 24)],none,3⟩,⟨some 26,.un .not (.t 25),none,4⟩]) (.cond (.t 26) (.seq (.reg false [⟨some 4,.mv (.c (.bool false)),none,0⟩]) .ret) .skip))
def q2q:XCode:=(.seq (.block 1 qyf) (.reg false [⟨some 15,.mv (.t 5),none,0⟩,⟨some 16,.bin .add (.t 15) (.c (.int .i64 1)),none,0⟩,⟨some 5,.mv (.t 16),none,0⟩]))
def qxk:XCode:=(.seq (.seq (.reg false [⟨some 11,.mv (.t 5),none,0⟩,⟨some 12,.mv (.t 0),none,0⟩,⟨some 13,.len (.t 12),none,0⟩,⟨some 14,.bin .lss (.t 11) (.t 13),none,0⟩]) (.cond (.t 14) .skip (.exit 0))) q2q)
def q7z:XCode:=(.block 0 (.loop [0,1,5] qxk))
def qwd:XCode:=q7z
def qwq:XCode:=(.seq (.seq (.reg false [⟨some 5,.mv (.c (.int .i64 0)),none,0⟩]) qwd) (.seq (.reg false [⟨some 4,.mv (.c (.bool true)),none,0⟩]) .ret))
def qyb:XCode:=(.seq (.seq (.reg false [⟨some 6,.mv (.t 0),none,0⟩,⟨some 7,.len (.t 6),none,0⟩,⟨some 8,.mv (.t 1),none,0⟩,⟨some 9,.len (.t 8),none,0⟩,⟨some 10,.bin .neq (.t 7) (.t 9),none,0⟩]) (.cond (.t 10) (.seq (.reg false [⟨some 4,.mv (.c (.bool false)),none,0⟩]) .ret) .skip)) qwq)
def x33:XFn:=⟨(.seq (.reg false [⟨some 4,.mv (.c (.bool false)),none,0⟩]) qyb),27,[(.t 4)]⟩
theorem q9t:FnOk Try.prog T 33 x33:=⟨Try.f33,[.loop [0,1,5],.draw [0,1,2,3,4,5,6,7,8,9] [4,4,4,4,4,4,4,4,3,4]],Try.func33,by decide +kernel,by kernel_rfl⟩
def qv2:XCode:=(.seq (.reg false [⟨some 12,.mv (.t 0),none,0⟩,⟨some 13,.mv (.t 5),none,0⟩,⟨some 14,.mv (.t 1),none,0⟩,⟨some 15,.ia 1 (.t 12) (.t 13),none,0⟩,⟨none,.st 1 (.t 15) (.t 14),none,0⟩]) (.reg false [⟨some 16,.mv (.t 1),none,0⟩,⟨some 17,.bin .add (.t 16) (.c (.int .i64 1)),none,0⟩,⟨some 1,.mv (.t 17),none,0⟩]))
def q1l:XCode:=(.seq (.block 1 qv2) (.reg false [⟨some 10,.mv (.t 5),none,0⟩,⟨some 11,.bin .add (.t 10) (.c (.int .i64 1)),none,0⟩,⟨some 5,.mv (.t 11),none,0⟩]))
def qx7:XCode:=(.seq (.seq (.reg false [⟨some 6,.mv (.t 5),none,0⟩,⟨some 7,.mv (.t 0),none,0⟩,⟨some 8,.len (.t 7),none,0⟩,⟨some 9,.bin .lss (.t 6) (.t 8),none,0⟩]) (.cond (.t 9) .skip (.exit 0))) q1l)
def q7c:XCode:=(.block 0 (.loop [0,1,5] qx7))
def qz3:XCode:=q7c
def q0o:XCode:=(.seq (.seq (.reg false [⟨some 5,.mv (.c (.int .i64 0)),none,0⟩]) qz3) (.seq (.reg false [⟨some 18,.mv (.t 1),none,0⟩,⟨some 4,.mv (.t 18),none,0⟩]) .ret))
def x36:XFn:=⟨(.seq (.reg false [⟨some 4,.mv (.c (.int .i64 0)),none,0⟩]) q0o),19,[(.t 4)]⟩
theorem q8o:FnOk Try.prog T 36 x36:=⟨Try.f36,[.loop [0,1,5]],Try.func36,by decide +kernel,by kernel_rfl⟩
def q1d:XCode:=(.reg false [⟨some 47,.mv (.t 0),none,0⟩,⟨some 48,.mv (.t 5),none,0⟩,⟨some 49,.ia 6 (.t 47) (.t 48),none,0⟩,⟨some 50,.fa 5 (.t 49),none,0⟩,⟨some 51,.ld none (.t 50),none,0⟩,⟨some 52,.mv (.t 1),none,0⟩,⟨some 53,.call (.c (.fn 36 [])) [(.t 51),(.t 52)],none,0⟩,⟨some 1,.mv (.t 53),none,0⟩])
def q01:XCode:=(.seq (.reg false [⟨some 45,.mv (.t 1),none,0⟩,⟨some 46,.bin .add (.t 45) (.c (.int .i64 1)),none,0⟩,⟨some 1,.mv (.t 46),none,0⟩]) q1d)
def qyo:XCode:=(.seq (.reg false [⟨some 40,.mv (.t 0),none,0⟩,⟨some 41,.mv (.t 5),none,0⟩,⟨some 42,.mv (.t 1),none,0⟩,⟨some 43,.ia 6 (.t 40) (.t 41),none,0⟩,⟨some 44,.fa 4 (.t 43),none,0⟩,⟨none,.st 1 (.t 44) (.t 42),none,0⟩]) q01)
def qya:XCode:=(.seq (.reg false [⟨some 38,.mv (.t 1),none,0⟩,⟨some 39,.bin .add (.t 38) (.c (.int .i64 1)),none,0⟩,⟨some 1,.mv (.t 39),none,0⟩]) qyo)
def qvo:XCode:=(.seq (.reg false [⟨some 33,.mv (.t 0),none,0⟩,⟨some 34,.mv (.t 5),none,0⟩,⟨some 35,.mv (.t 1),none,0⟩,⟨some 36,.ia 6 (.t 33) (.t 34),none,0⟩,⟨some 37,.fa 3 (.t 36),none,0⟩,⟨none,.st 1 (.t 37) (.t 35),none,0⟩]) qya)
def qzi:XCode:=(.seq (.reg false [⟨some 31,.mv (.t 1),none,0⟩,⟨some 32,.bin .add (.t 31) (.c (.int .i64 1)),none,0⟩,⟨some 1,.mv (.t 32),none,0⟩]) qvo)
def q0k:XCode:=(.seq (.reg false [⟨some 26,.mv (.t 0),none,0⟩,⟨some 27,.mv (.t 5),none,0⟩,⟨some 28,.mv (.t 1),none,0⟩,⟨some 29,.ia 6 (.t 26) (.t 27),none,0⟩,⟨some 30,.fa 2 (.t 29),none,0⟩,⟨none,.st 1 (.t 30) (.t 28),none,0⟩]) qzi)
def qwx:XCode:=(.seq (.reg false [⟨some 24,.mv (.t 1),none,0⟩,⟨some 25,.bin .add (.t 24) (.c (.int .i64 1)),none,0⟩,⟨some 1,.mv (.t 25),none,0⟩]) q0k)
def qzu:XCode:=(.seq (.reg false [⟨some 19,.mv (.t 0),none,0⟩,⟨some 20,.mv (.t 5),none,0⟩,⟨some 21,.mv (.t 1),none,0⟩,⟨some 22,.ia 6 (.t 19) (.t 20),none,0⟩,⟨some 23,.fa 1 (.t 22),none,0⟩,⟨none,.st 1 (.t 23) (.t 21),none,0⟩]) qwx)
def qsg:XCode:=(.seq (.reg false [⟨some 17,.mv (.t 1),none,0⟩,⟨some 18,.bin .add (.t 17) (.c (.int .i64 1)),none,0⟩,⟨some 1,.mv (.t 18),none,0⟩]) qzu)
def qra:XCode:=(.seq (.reg false [⟨some 12,.mv (.t 0),none,0⟩,⟨some 13,.mv (.t 5),none,0⟩,⟨some 14,.mv (.t 1),none,0⟩,⟨some 15,.ia 6 (.t 12) (.t 13),none,0⟩,⟨some 16,.fa 0 (.t 15),none,0⟩,⟨none,.st 1 (.t 16) (.t 14),none,0⟩]) qsg)
def qsi:XCode:=(.seq (.block 1 qra) (.reg false [⟨some 10,.mv (.t 5),none,0⟩,⟨some 11,.bin .add (.t 10) (.c (.int .i64 1)),none,0⟩,⟨some 5,.mv (.t 11),none,0⟩]))
def qpz:XCode:=(.seq (.seq (.reg false [⟨some 6,.mv (.t 5),none,0⟩,⟨some 7,.mv (.t 0),none,0⟩,⟨some 8,.len (.t 7),none,0⟩,⟨some 9,.bin .lss (.t 6) (.t 8),none,0⟩]) (.cond (.t 9) .skip (.exit 0))) qsi)
def q64:XCode:=(.block 0 (.loop [0,1,5] qpz))
def qq1:XCode:=q64
def qrc:XCode:=(.seq (.seq (.reg false [⟨some 5,.mv (.c (.int .i64 0)),none,0⟩]) qq1) (.seq (.reg false [⟨some 54,.mv (.t 1),none,0⟩,⟨some 4,.mv (.t 54),none,0⟩]) .ret))
def x34:XFn:=⟨(.seq (.reg false [⟨some 4,.mv (.c (.int .i64 0)),none,0⟩]) qrc),55,[(.t 4)]⟩
theorem q8z:FnOk Try.prog T 34 x34:=⟨Try.f34,[.loop [0,1,5]],Try.func34,by decide +kernel,by kernel_rfl⟩
def qxx:XCode:=(.seq (.reg false [⟨some 26,.mv (.t 0),none,0⟩,⟨some 27,.mv (.t 5),none,0⟩,⟨some 28,.mv (.t 1),none,0⟩,⟨some 29,.bin .rem (.t 28) (.c (.int .i64 3)),none,0⟩,⟨some 30,.bin .eql (.t 29) (.c (.int .i64 0)),none,0⟩,⟨some 31,.ia 3 (.t 26) (.t 27),none,0⟩,⟨some 32,.fa 2 (.t 31),none,0⟩,⟨none,.st 1 (.t 32) (.t 30),none,0⟩]) (.reg false [⟨some 33,.mv (.t 1),none,0⟩,⟨some 34,.bin .add (.t 33) (.c (.int .i64 1)),none,0⟩,⟨some 1,.mv (.t 34),none,0⟩]))
def q2g:XCode:=(.seq (.reg false [⟨some 24,.mv (.t 1),none,0⟩,⟨some 25,.bin .add (.t 24) (.c (.int .i64 1)),none,0⟩,⟨some 1,.mv (.t 25),none,0⟩]) qxx)
def qzw:XCode:=(.seq (.reg false [⟨some 19,.mv (.t 0),none,0⟩,⟨some 20,.mv (.t 5),none,0⟩,⟨some 21,.mv (.t 1),none,0⟩,⟨some 22,.ia 3 (.t 19) (.t 20),none,0⟩,⟨some 23,.fa 1 (.t 22),none,0⟩,⟨none,.st 1 (.t 23) (.t 21),none,0⟩]) q2g)
def q06:XCode:=(.seq (.reg false [⟨some 17,.mv (.t 1),none,0⟩,⟨some 18,.bin .add (.t 17) (.c (.int .i64 1)),none,0⟩,⟨some 1,.mv (.t 18),none,0⟩]) qzw)
def qv7:XCode:=(.seq (.reg false [⟨some 12,.mv (.t 0),none,0⟩,⟨some 13,.mv (.t 5),none,0⟩,⟨some 14,.mv (.t 1),none,0⟩,⟨some 15,.ia 3 (.t 12) (.t 13),none,0⟩,⟨some 16,.fa 0 (.t 15),none,0⟩,⟨none,.st 1 (.t 16) (.t 14),none,0⟩]) q06)
def qww:XCode:=(.seq (.block 1 qv7) (.reg false [⟨some 10,.mv (.t 5),none,0⟩,⟨some 11,.bin .add (.t 10) (.c (.int .i64 1)),none,0⟩,⟨some 5,.mv (.t 11),none,0⟩]))
def q24:XCode:=(.seq (.seq (.reg false [⟨some 6,.mv (.t 5),none,0⟩,⟨some 7,.mv (.t 0),none,0⟩,⟨some 8,.len (.t 7),none,0⟩,⟨some 9,.bin .lss (.t 6) (.t 8),none,0⟩]) (.cond (.t 9) .skip (.exit 0))) qww)
def q7g:XCode:=(.block 0 (.loop [0,1,5] q24))
def qyy:XCode:=q7g
def qpt:XCode:=(.seq (.seq (.reg false [⟨some 5,.mv (.c (.int .i64 0)),none,0⟩]) qyy) (.seq (.reg false [⟨some 35,.mv (.t 1),none,0⟩,⟨some 4,.mv (.t 35),none,0⟩]) .ret))
def x64:XFn:=⟨(.seq (.reg false [⟨some 4,.mv (.c (.int .i64 0)),none,0⟩]) qpt),36,[(.t 4)]⟩
theorem q8p:FnOk Try.prog T 64 x64:=⟨Try.f64,[.loop [0,1,5]],Try.func64,by decide +kernel,by kernel_rfl⟩
def qyx:XCode:=(.seq (.reg false [⟨some 40,.mv (.t 0),none,0⟩,⟨some 41,.mv (.t 5),none,0⟩,⟨some 42,.mv (.t 1),none,0⟩,⟨some 43,.ia 5 (.t 40) (.t 41),none,0⟩,⟨some 44,.fa 4 (.t 43),none,0⟩,⟨none,.st 1 (.t 44) (.t 42),none,0⟩]) (.reg false [⟨some 45,.mv (.t 1),none,0⟩,⟨some 46,.bin .add (.t 45) (.c (.int .i64 1)),none,0⟩,⟨some 1,.mv (.t 46),none,0⟩]))
def qwy:XCode:=(.seq (.reg false [⟨some 38,.mv (.t 1),none,0⟩,⟨some 39,.bin .add (.t 38) (.c (.int .i64 1)),none,0⟩,⟨some 1,.mv (.t 39),none,0⟩]) qyx)
def qxl:XCode:=(.seq (.reg false [⟨some 33,.mv (.t 0),none,0⟩,⟨some 34,.mv (.t 5),none,0⟩,⟨some 35,.mv (.t 1),none,0⟩,⟨some 36,.ia 5 (.t 33) (.t 34),none,0⟩,⟨some 37,.fa 3 (.t 36),none,0⟩,⟨none,.st 1 (.t 37) (.t 35),none,0⟩]) qwy)
def qzp:XCode:=(.seq (.reg false [⟨some 31,.mv (.t 1),none,0⟩,⟨some 32,.bin .add (.t 31) (.c (.int .i64 1)),none,0⟩,⟨some 1,.mv (.t 32),none,0⟩]) qxl)
def q3n:XCode:=(.seq (.reg false [⟨some 26,.mv (.t 0),none,0⟩,⟨some 27,.mv (.t 5),none,0⟩,⟨some 28,.mv (.t 1),none,0⟩,⟨some 29,.ia 5 (.t 26) (.t 27),none,0⟩,⟨some 30,.fa 2 (.t 29),none,0⟩,⟨none,.st 1 (.t 30) (.t 28),none,0⟩]) qzp)
def q2e:XCode:=(.seq (.reg false [⟨some 19,.mv (.t 0),none,0⟩,⟨some 20,.mv (.t 5),none,0⟩,⟨some 21,.ia 5 (.t 19) (.t 20),none,0⟩,⟨some 22,.fa 1 (.t 21),none,0⟩,⟨some 23,.ld none (.t 22),none,0⟩,⟨some 24,.mv (.t 1),none,0⟩,⟨some 25,.call (.c (.fn 36 [])) [(.t 23),(.t 24)],none,0⟩,⟨some 1,.mv (.t 25),none,0⟩]) q3n)
def q0b:XCode:=(.seq (.reg false [⟨some 12,.mv (.t 0),none,0⟩,⟨some 13,.mv (.t 5),none,0⟩,⟨some 14,.ia 5 (.t 12) (.t 13),none,0⟩,⟨some 15,.fa 0 (.t 14),none,0⟩,⟨some 16,.ld none (.t 15),none,0⟩,⟨some 17,.mv (.t 1),none,0⟩,⟨some 18,.call (.c (.fn 36 [])) [(.t 16),(.t 17)],none,0⟩,⟨some 1,.mv (.t 18),none,0⟩]) q2e)
def qwh:XCode:=(.seq (.block 1 q0b) (.reg false [⟨some 10,.mv (.t 5),none,0⟩,⟨some 11,.bin .add (.t 10) (.c (.int .i64 1)),none,0⟩,⟨some 5,.mv (.t 11),none,0⟩]))
def q3x:XCode:=(.seq (.seq (.reg false [⟨some 6,.mv (.t 5),none,0⟩,⟨some 7,.mv (.t 0),none,0⟩,⟨some 8,.len (.t 7),none,0⟩,⟨some 9,.bin .lss (.t 6) (.t 8),none,0⟩]) (.cond (.t 9) .skip (.exit 0))) qwh)
def q6q:XCode:=(.block 0 (.loop [0,1,5] q3x))
def qqp:XCode:=q6q
def qs9:XCode:=(.seq (.seq (.reg false [⟨some 5,.mv (.c (.int .i64 0)),none,0⟩]) qqp) (.seq (.reg false [⟨some 47,.mv (.t 1),none,0⟩,⟨some 4,.mv (.t 47),none,0⟩]) .ret))
def x65:XFn:=⟨(.seq (.reg false [⟨some 4,.mv (.c (.int .i64 0)),none,0⟩]) qs9),48,[(.t 4)]⟩
theorem q9j:FnOk Try.prog T 65 x65:=⟨Try.f65,[.loop [0,1,5]],Try.func65,by decide +kernel,by kernel_rfl⟩
def qwm:XCode:=(.seq (.reg false [⟨some 9,.fa 1 (.t 2),none,0⟩,⟨some 10,.ld none (.t 9),none,0⟩,⟨some 11,.mv (.t 1),none,0⟩,⟨some 12,.call (.c (.fn 65 [])) [(.t 10),(.t 11)],none,0⟩,⟨some 1,.mv (.t 12),none,0⟩]) (.seq (.reg false [⟨some 13,.mv (.t 1),none,0⟩,⟨some 4,.mv (.t 13),none,0⟩]) .ret))
def qym:XCode:=(.seq (.reg false [⟨some 5,.fa 0 (.t 2),none,0⟩,⟨some 6,.ld none (.t 5),none,0⟩,⟨some 7,.mv (.t 1),none,0⟩,⟨some 8,.call (.c (.fn 64 [])) [(.t 6),(.t 7)],none,0⟩,⟨some 1,.mv (.t 8),none,0⟩]) qwm)
def x35:XFn:=⟨(.seq (.seq (.reg false [⟨some 2,.box 29 3 (.t 0),none,0⟩,⟨some 4,.mv (.c (.int .i64 0)),none,0⟩]) (.frz [2])) qym),14,[(.t 4)]⟩
theorem q9z:FnOk Try.prog T 35 x35:=⟨Try.f35,[.frz [2]],Try.func35,by decide +kernel,by kernel_rfl⟩
def q3m:XCode:=(.seq (.seq (.reg false [⟨some 30,.mv (.t 0),none,0⟩,⟨some 31,.mv (.t 5),none,0⟩,⟨some 32,.ia 3 (.t 30) (.t 31),none,0⟩,⟨some 33,.fa 2 (.t 32),none,0⟩,⟨some 34,.ld none (.t 33),none,0⟩,⟨some 35,.mv (.t 1),none,0⟩,⟨some 36,.bin .rem (.t 35) (.c (.int .i64 3)),none,0⟩,⟨some 37,.bin .eql (.t 36) (.c (.int .i64 0)),none,0⟩,⟨some 38,.eqb true (.t 34) (.t 37),none,0⟩]) (.cond (.t 38) (.seq (.reg false [⟨some 4,.mv (.c (.int .i64 (-1))),none,0⟩]) .ret) .skip)) (.reg false [⟨some 39,.mv (.t 1),none,0⟩,⟨some 40,.bin .add (.t 39) (.c (.int .i64 1)),none,0⟩,⟨some 1,.mv (.t 40),none,0⟩]))
def qz2:XCode:=(.seq (.reg false [⟨some 28,.mv (.t 1),none,0⟩,⟨some 29,.bin .add (.t 28) (.c (.int .i64 1)),none,0⟩,⟨some 1,.mv (.t 29),none,0⟩]) q3m)
def q04:XCode:=(.seq (.seq (.reg false [⟨some 21,.mv (.t 0),none,0⟩,⟨some 22,.mv (.t 5),none,0⟩,⟨some 23,.ia 3 (.t 21) (.t 22),none,0⟩,⟨some 24,.fa 1 (.t 23),none,0⟩,⟨some 25,.ld none (.t 24),none,0⟩,⟨some 26,.mv (.t 1),none,0⟩,⟨some 27,.bin .neq (.t 25) (.t 26),none,0⟩]) (.cond (.t 27) (.seq (.reg false [⟨some 4,.mv (.c (.int .i64 (-1))),none,0⟩]) .ret) .skip)) qz2)
def q0n:XCode:=(.seq (.reg false [⟨some 19,.mv (.t 1),none,0⟩,⟨some 20,.bin .add (.t 19) (.c (.int .i64 1)),none,0⟩,⟨some 1,.mv (.t 20),none,0⟩]) q04)
def q3i:XCode:=(.seq (.seq (.reg false [⟨some 12,.mv (.t 0),none,0⟩,⟨some 13,.mv (.t 5),none,0⟩,⟨some 14,.ia 3 (.t 12) (.t 13),none,0⟩,⟨some 15,.fa 0 (.t 14),none,0⟩,⟨some 16,.ld none (.t 15),none,0⟩,⟨some 17,.mv (.t 1),none,0⟩,⟨some 18,.bin .neq (.t 16) (.t 17),none,0⟩]) (.cond (.t 18) (.seq (.reg false [⟨some 4,.mv (.c (.int .i64 (-1))),none,0⟩]) .ret) .skip)) q0n)
def q3v:XCode:=(.seq (.block 1 q3i) (.reg false [⟨some 10,.mv (.t 5),none,0⟩,⟨some 11,.bin .add (.t 10) (.c (.int .i64 1)),none,0⟩,⟨some 5,.mv (.t 11),none,0⟩]))
def q32:XCode:=(.seq (.seq (.reg false [⟨some 6,.mv (.t 5),none,0⟩,⟨some 7,.mv (.t 0),none,0⟩,⟨some 8,.len (.t 7),none,0⟩,⟨some 9,.bin .lss (.t 6) (.t 8),none,0⟩]) (.cond (.t 9) .skip (.exit 0))) q3v)
def q78:XCode:=(.block 0 (.loop [0,1,5] q32))
def qx9:XCode:=q78
def qsj:XCode:=(.seq (.seq (.reg false [⟨some 5,.mv (.c (.int .i64 0)),none,0⟩]) qx9) (.seq (.reg false [⟨some 41,.mv (.t 1),none,0⟩,⟨some 4,.mv (.t 41),none,0⟩]) .ret))
def x66:XFn:=⟨(.seq (.reg false [⟨some 4,.mv (.c (.int .i64 0)),none,0⟩]) qsj),42,[(.t 4)]⟩
theorem q9n:FnOk Try.prog T 66 x66:=⟨Try.f66,[.loop [0,1,5]],Try.func66,by decide +kernel,by kernel_rfl⟩
def qw8:XCode:=(.seq (.seq (.reg false [⟨some 12,.mv (.t 0),none,0⟩,⟨some 13,.mv (.t 5),none,0⟩,⟨some 14,.ia 1 (.t 12) (.t 13),none,0⟩,⟨some 15,.ld none (.t 14),none,0⟩,⟨some 16,.mv (.t 1),none,0⟩,⟨some 17,.bin .neq (.t 15) (.t 16),none,0⟩]) (.cond (.t 17) (.seq (.reg false [⟨some 4,.mv (.c (.int .i64 (-1))),none,0⟩]) .ret) .skip)) (.reg false [⟨some 18,.mv (.t 1),none,0⟩,⟨some 19,.bin .add (.t 18) (.c (.int .i64 1)),none,0⟩,⟨some 1,.mv (.t 19),none,0⟩]))
def qze:XCode:=(.seq (.block 1 qw8) (.reg false [⟨some 10,.mv (.t 5),none,0⟩,⟨some 11,.bin .add (.t 10) (.c (.int .i64 1)),none,0⟩,⟨some 5,.mv (.t 11),none,0⟩]))
def q2n:XCode:=(.seq (.seq (.reg false [⟨some 6,.mv (.t 5),none,0⟩,⟨some 7,.mv (.t 0),none,0⟩,⟨some 8,.len (.t 7),none,0⟩,⟨some 9,.bin .lss (.t 6) (.t 8),none,0⟩]) (.cond (.t 9) .skip (.exit 0))) qze)
def q7d:XCode:=(.block 0 (.loop [0,1,5] q2n))
def q37:XCode:=q7d
def qvg:XCode:=(.seq (.seq (.reg false [⟨some 5,.mv (.c (.int .i64 0)),none,0⟩]) q37) (.seq (.reg false [⟨some 20,.mv (.t 1),none,0⟩,⟨some 4,.mv (.t 20),none,0⟩]) .ret))
def x38:XFn:=⟨(.seq (.reg false [⟨some 4,.mv (.c (.int .i64 0)),none,0⟩]) qvg),21,[(.t 4)]⟩
theorem q91:FnOk Try.prog T 38 x38:=⟨Try.f38,[.loop [0,1,5]],Try.func38,by decide +kernel,by kernel_rfl⟩
def qw3:XCode:=(.seq (.seq (.reg false [⟨some 48,.mv (.t 0),none,0⟩,⟨some 49,.mv (.t 5),none,0⟩,⟨some 50,.ia 5 (.t 48) (.t 49),none,0⟩,⟨some 51,.fa 4 (.t 50),none,0⟩,⟨some 52,.ld none (.t 51),none,0⟩,⟨some 53,.mv (.t 1),none,0⟩,⟨some 54,.bin .neq (.t 52) (.t 53),none,0⟩]) (.cond (.t 54) (.seq (.reg false [⟨some 4,.mv (.c (.int .i64 (-1))),none,0⟩]) .ret) .skip)) (.reg false [⟨some 55,.mv (.t 1),none,0⟩,⟨some 56,.bin .add (.t 55) (.c (.int .i64 1)),none,0⟩,⟨some 1,.mv (.t 56),none,0⟩]))
def q3k:XCode:=(.seq (.reg false [⟨some 46,.mv (.t 1),none,0⟩,⟨some 47,.bin .add (.t 46) (.c (.int .i64 1)),none,0⟩,⟨some 1,.mv (.t 47),none,0⟩]) qw3)
def qz5:XCode:=(.seq (.seq (.reg false [⟨some 39,.mv (.t 0),none,0⟩,⟨some 40,.mv (.t 5),none,0⟩,⟨some 41,.ia 5 (.t 39) (.t 40),none,0⟩,⟨some 42,.fa 3 (.t 41),none,0⟩,⟨some 43,.ld none (.t 42),none,0⟩,⟨some 44,.mv (.t 1),none,0⟩,⟨some 45,.bin .neq (.t 43) (.t 44),none,0⟩]) (.cond (.t 45) (.seq (.reg false [⟨some 4,.mv (.c (.int .i64 (-1))),none,0⟩]) .ret) .skip)) q3k)
def q3t:XCode:=(.seq (.reg false [⟨some 37,.mv (.t 1),none,0⟩,⟨some 38,.bin .add (.t 37) (.c (.int .i64 1)),none,0⟩,⟨some 1,.mv (.t 38),none,0⟩]) qz5)
def qwv:XCode:=(.seq (.seq (.reg false [⟨some 30,.mv (.t 0),none,0⟩,⟨some 31,.mv (.t 5),none,0⟩,⟨some 32,.ia 5 (.t 30) (.t 31),none,0⟩,⟨some 33,.fa 2 (.t 32),none,0⟩,⟨some 34,.ld none (.t 33),none,0⟩,⟨some 35,.mv (.t 1),none,0⟩,⟨some 36,.bin .neq (.t 34) (.t 35),none,0⟩]) (.cond (.t 36) (.seq (.reg false [⟨some 4,.mv (.c (.int .i64 (-1))),none,0⟩]) .ret) .skip)) q3t)
def qz1:XCode:=(.seq (.seq (.reg false [⟨some 28,.mv (.t 1),none,0⟩,⟨some 29,.bin .lss (.t 28) (.c (.int .i64 0)),none,0⟩]) (.cond (.t 29) (.seq (.reg false [⟨some 4,.mv (.c (.int .i64 (-1))),none,0⟩]) .ret) .skip)) qwv)
def qxn:XCode:=(.seq (.reg false [⟨some 21,.mv (.t 0),none,0⟩,⟨some 22,.mv (.t 5),none,0⟩,⟨some 23,.ia 5 (.t 21) (.t 22),none,0⟩,⟨some 24,.fa 1 (.t 23),none,0⟩,⟨some 25,.ld none (.t 24),none,0⟩,⟨some 26,.mv (.t 1),none,0⟩,⟨some 27,.call (.c (.fn 38 [])) [(.t 25),(.t 26)],none,0⟩,⟨some 1,.mv (.t 27),none,0⟩]) qz1)
def q3j:XCode:=(.seq (.seq (.reg false [⟨some 19,.mv (.t 1),none,0⟩,⟨some 20,.bin .lss (.t 19) (.c (.int .i64 0)),none,0⟩]) (.cond (.t 20) (.seq (.reg false [⟨some 4,.mv (.c (.int .i64 (-1))),none,0⟩]) .ret) .skip)) qxn)
def q28:XCode:=(.seq (.reg false [⟨some 12,.mv (.t 0),none,0⟩,⟨some 13,.mv (.t 5),none,0⟩,⟨some 14,.ia 5 (.t 12) (.t 13),none,0⟩,⟨some 15,.fa 0 (.t 14),none,0⟩,⟨some 16,.ld none (.t 15),none,0⟩,⟨some 17,.mv (.t 1),none,0⟩,⟨some 18,.call (.c (.fn 38 [])) [(.t 16),(.t 17)],none,0⟩,⟨some 1,.mv (.t 18),none,0⟩]) q3j)
def qpq:XCode:=(.seq (.block 1 q28) (.reg false [⟨some 10,.mv (.t 5),none,0⟩,⟨some 11,.bin .add (.t 10) (.c (.int .i64 1)),none,0⟩,⟨some 5,.mv (.t 11),none,0⟩]))
def qrq:XCode:=(.seq (.seq (.reg false [⟨some 6,.mv (.t 5),none,0⟩,⟨some 7,.mv (.t 0),none,0⟩,⟨some 8,.len (.t 7),none,0⟩,⟨some 9,.bin .lss (.t 6) (.t 8),none,0⟩]) (.cond (.t 9) .skip (.exit 0))) qpq)
def q62:XCode:=(.block 0 (.loop [0,1,5] qrq))
def qr2:XCode:=q62
def qo6:XCode:=(.seq (.seq (.reg false [⟨some 5,.mv (.c (.int .i64 0)),none,0⟩]) qr2) (.seq (.reg false [⟨some 57,.mv (.t 1),none,0⟩,⟨some 4,.mv (.t 57),none,0⟩]) .ret))
def x67:XFn:=⟨(.seq (.reg false [⟨some 4,.mv (.c (.int .i64 0)),none,0⟩]) qo6),58,[(.t 4)]⟩
theorem q9g:FnOk Try.prog T 67 x67:=⟨Try.f67,[.loop [0,1,5]],Try.func67,by decide +kernel,by kernel_rfl⟩
def q0p:XCode:=(.seq (.seq (.reg false [⟨some 15,.mv (.t 1),none,0⟩,⟨some 16,.bin .lss (.t 15) (.c (.int .i64 0)),none,0⟩]) (.cond (.t 16) (.seq (.reg false [⟨some 4,.mv (.c (.int .i64 (-1))),none,0⟩]) .ret) .skip)) (.seq (.reg false [⟨some 17,.mv (.t 1),none,0⟩,⟨some 4,.mv (.t 17),none,0⟩]) .ret))
def q3a:XCode:=(.seq (.reg false [⟨some 11,.fa 1 (.t 2),none,0⟩,⟨some 12,.ld none (.t 11),none,0⟩,⟨some 13,.mv (.t 1),none,0⟩,⟨some 14,.call (.c (.fn 67 [])) [(.t 12),(.t 13)],none,0⟩,⟨some 1,.mv (.t 14),none,0⟩]) q0p)
def q2y:XCode:=(.seq (.seq (.reg false [⟨some 9,.mv (.t 1),none,0⟩,⟨some 10,.bin .lss (.t 9) (.c (.int .i64 0)),none,0⟩]) (.cond (.t 10) (.seq (.reg false [⟨some 4,.mv (.c (.int .i64 (-1))),none,0⟩]) .ret) .skip)) q3a)
def qx4:XCode:=(.seq (.reg false [⟨some 5,.fa 0 (.t 2),none,0⟩,⟨some 6,.ld none (.t 5),none,0⟩,⟨some 7,.mv (.t 1),none,0⟩,⟨some 8,.call (.c (.fn 66 [])) [(.t 6),(.t 7)],none,0⟩,⟨some 1,.mv (.t 8),none,0⟩]) q2y)
def x37:XFn:=⟨(.seq (.seq (.reg false [⟨some 2,.box 29 3 (.t 0),none,0⟩,⟨some 4,.mv (.c (.int .i64 0)),none,0⟩]) (.frz [2])) qx4),18,[(.t 4)]⟩
theorem q83:FnOk Try.prog T 37 x37:=⟨Try.f37,[.frz [2]],Try.func37,by decide +kernel,by kernel_rfl⟩
def q51:XCode:=(.seq (.seq (.reg false [⟨some 135,.mv (.t 15),none,0⟩,⟨some 136,.mv (.t 14),none,0⟩,⟨some 137,.bin .neq (.t 135) (.t 136),none,0⟩]) (.cond (.t 137) (.seq (.reg false [⟨some 4,.mv (.c (.bool false)),none,0⟩]) .ret) .skip)) (.seq (.reg false [⟨some 4,.mv (.c (.bool true)),none,0⟩]) .ret))
def q6d:XCode:=(.seq (.seq (.reg false [⟨some 133,.mv (.t 15),none,0⟩,⟨some 134,.bin .lss (.t 133) (.c (.int .i64 0)),none,0⟩]) (.cond (.t 134) (.seq (.reg false [⟨some 4,.mv (.c (.bool false)),none,0⟩]) .ret) .skip)) q51)
def q6h:XCode:=(.seq (.reg false [⟨some 130,.mv (.t 11),none,0⟩,⟨some 131,.mv (.t 15),none,0⟩,⟨some 132,.call (.c (.fn 38 [])) [(.t 130),(.t 131)],none,0⟩,⟨some 15,.mv (.t 132),none,0⟩]) q6d)
def q69:XCode:=(.seq (.seq (.reg false [⟨some 128,.mv (.t 15),none,0⟩,⟨some 129,.bin .lss (.t 128) (.c (.int .i64 0)),none,0⟩]) (.cond (.t 129) (.seq (.reg false [⟨some 4,.mv (.c (.bool false)),none,0⟩]) .ret) .skip)) q6h)
def q50:XCode:=(.seq (.reg false [⟨some 125,.ld (some 3) (.t 10),none,0⟩,⟨some 126,.mv (.t 15),none,0⟩,⟨some 127,.call (.c (.fn 37 [])) [(.t 125),(.t 126)],none,0⟩,⟨some 15,.mv (.t 127),none,0⟩]) q69)
def q6s:XCode:=(.seq (.reg false [⟨some 15,.mv (.c (.int .i64 1)),none,0⟩]) q50)
def q5m:XCode:=(.seq (.seq (.reg false [⟨some 110,.ld (some 3) (.t 16),none,0⟩,⟨some 111,.ld (some 3) (.t 6),none,0⟩,⟨some 112,.call (.c (.fn 31 [])) [(.t 110),(.t 111)],none,0⟩,⟨some 113,.un .not (.t 112),none,0⟩,⟨some 114,.mv (.t 113),none,0⟩,⟨some 115,.mv (.t 17),(some (114,false)),0⟩,⟨some 116,.mv (.t 7),(some (114,false)),0⟩,⟨some 117,.call (.c (.fn 32 [])) [(.t 115),(.t 116)],(some (114,false)),0⟩,⟨some 118,.un .not (.t 117),(some (114,false)),0⟩,⟨some 119,.pick (.t 114) (.c (.bool true)) (.t 118),none,0⟩,⟨some 120,.mv (.t 119),none,0⟩,⟨some 121,.mv (.t 18),(some (120,false)),0⟩,⟨some 122,.mv (.t 8),(some (120,false)),0⟩,⟨some 123,.eqb true (.t 121) (.t 122),(some (120,false)),0⟩,⟨some 124,.pick (.t 120) (.c (.bool true)) (.t 123),none,0⟩]) (.cond (.t 124) (.seq (.reg false [⟨some 4,.mv (.c (.bool false)),none,0⟩]) .ret) .skip)) q6s)
def q7a:XCode:=(.seq (.seq (.reg false [⟨some 103,.mv (.t 0),none,0⟩,⟨some 104,.mv (.t 1),none,0⟩,⟨some 105,.call (.c (.fn 30 [])) [(.t 104)],none,0⟩,⟨some 106,.call (.c (.fn 8 [])) [(.t 103),(.t 105)],none,0⟩,⟨some 102,.mv (.t 106),none,0⟩,⟨some 107,.ext (.t 102) 0,none,0⟩,⟨some 108,.ext (.t 102) 1,none,0⟩,⟨some 109,.ext (.t 102) 2,none,0⟩,⟨some 16,.new 29 [.nil,.nil,(.int .i64 0)],none,0⟩,⟨none,.st 3 (.t 16) (.t 107),none,0⟩,⟨some 17,.mv (.t 108),none,0⟩,⟨some 18,.mv (.t 109),none,0⟩]) (.frz [16])) q5m)
def q6u:XCode:=(.seq (.seq (.reg false [⟨some 99,.mv (.t 15),none,0⟩,⟨some 100,.mv (.t 14),none,0⟩,⟨some 101,.bin .neq (.t 99) (.t 100),none,0⟩]) (.cond (.t 101) (.seq (.reg false [⟨some 4,.mv (.c (.bool false)),none,0⟩]) .ret) .skip)) q7a)
def q1w:XCode:=(.seq (.seq (.reg false [⟨some 97,.mv (.t 15),none,0⟩,⟨some 98,.bin .lss (.t 97) (.c (.int .i64 0)),none,0⟩]) (.cond (.t 98) (.seq (.reg false [⟨some 4,.mv (.c (.bool false)),none,0⟩]) .ret) .skip)) q6u)
def qx0:XCode:=(.seq (.reg false [⟨some 94,.mv (.t 11),none,0⟩,⟨some 95,.mv (.t 15),none,0⟩,⟨some 96,.call (.c (.fn 38 [])) [(.t 94),(.t 95)],none,0⟩,⟨some 15,.mv (.t 96),none,0⟩]) q1w)
def qyh:XCode:=(.seq (.seq (.reg false [⟨some 92,.mv (.t 15),none,0⟩,⟨some 93,.bin .lss (.t 92) (.c (.int .i64 0)),none,0⟩]) (.cond (.t 93) (.seq (.reg false [⟨some 4,.mv (.c (.bool false)),none,0⟩]) .ret) .skip)) qx0)
def q31:XCode:=(.seq (.reg false [⟨some 89,.ld (some 3) (.t 10),none,0⟩,⟨some 90,.mv (.t 15),none,0⟩,⟨some 91,.call (.c (.fn 37 [])) [(.t 89),(.t 90)],none,0⟩,⟨some 15,.mv (.t 91),none,0⟩]) qyh)
def qy6:XCode:=(.seq (.reg false [⟨some 15,.mv (.c (.int .i64 1)),none,0⟩]) q31)
def qwu:XCode:=(.seq (.reg false [⟨some 86,.mv (.t 11),none,0⟩,⟨some 87,.mv (.t 14),none,0⟩,⟨some 88,.call (.c (.fn 36 [])) [(.t 86),(.t 87)],none,0⟩,⟨some 14,.mv (.t 88),none,0⟩]) qy6)
def qw6:XCode:=(.seq (.reg false [⟨some 83,.ld (some 3) (.t 10),none,0⟩,⟨some 84,.mv (.t 14),none,0⟩,⟨some 85,.call (.c (.fn 35 [])) [(.t 83),(.t 84)],none,0⟩,⟨some 14,.mv (.t 85),none,0⟩]) qwu)
def q1i:XCode:=(.seq (.reg false [⟨some 14,.mv (.c (.int .i64 1)),none,0⟩]) qw6)
def q0d:XCode:=(.seq (.seq (.reg false [⟨some 64,.mv (.t 13),none,0⟩,⟨some 65,.bin .lss (.t 64) (.c (.int .i64 0)),none,0⟩,⟨some 66,.mv (.t 65),none,0⟩,⟨some 67,.ld (some 3) (.t 10),(some (66,false)),0⟩,⟨some 68,.ld (some 3) (.t 6),(some (66,false)),0⟩,⟨some 69,.call (.c (.fn 31 [])) [(.t 67),(.t 68)],(some (66,false)),0⟩,⟨some 70,.un .not (.t 69),(some (66,false)),0⟩,⟨some 71,.pick (.t 66) (.c (.bool true)) (.t 70),none,0⟩,⟨some 72,.mv (.t 71),none,0⟩,⟨some 73,.mv (.t 11),(some (72,false)),0⟩,⟨some 74,.mv (.t 7),(some (72,false)),0⟩,⟨some 75,.call (.c (.fn 32 [])) [(.t 73),(.t 74)],(some (72,false)),0⟩,⟨some 76,.un .not (.t 75),(some (72,false)),0⟩,⟨some 77,.pick (.t 72) (.c (.bool true)) (.t 76),none,0⟩,⟨some 78,.mv (.t 77),none,0⟩,⟨some 79,.mv (.t 12),(some (78,false)),0⟩,⟨some 80,.mv (.t 8),(some (78,false)),0⟩,⟨some 81,.eqb true (.t 79) (.t 80),(some (78,false)),0⟩,⟨some 82,.pick (.t 78) (.c (.bool true)) (.t 81),none,0⟩]) (.cond (.t 82) (.seq (.reg false [⟨some 4,.mv (.c (.bool false)),none,0⟩]) .ret) .skip)) q1i)
def qxm:XCode:=(.seq (.reg false [⟨some 61,.mv (.t 9),none,0⟩,⟨some 62,.mv (.t 13),none,0⟩,⟨some 63,.call (.c (.fn 34 [])) [(.t 61),(.t 62)],none,0⟩,⟨some 13,.mv (.t 63),none,0⟩]) q0d)
def q2p:XCode:=(.seq (.reg false [⟨some 13,.mv (.c (.int .i64 1)),none,0⟩]) qxm)
def q2z:XCode:=(.seq (.seq (.reg false [⟨some 56,.mv (.t 9),none,0⟩,⟨some 57,.mv (.t 1),none,0⟩,⟨some 58,.call (.c (.fn 30 [])) [(.t 57)],none,0⟩,⟨some 59,.call (.c (.fn 33 [])) [(.t 56),(.t 58)],none,0⟩,⟨some 60,.un .not (.t 59),none,0⟩]) (.cond (.t 60) (.seq (.reg false [⟨some 4,.mv (.c (.bool false)),none,0⟩]) .ret) .skip)) q2p)
def qz7:XCode:=(.seq (.seq (.reg false [⟨some 41,.ld (some 3) (.t 10),none,0⟩,⟨some 42,.ld (some 3) (.t 6),none,0⟩,⟨some 43,.call (.c (.fn 31 [])) [(.t 41),(.t 42)],none,0⟩,⟨some 44,.un .not (.t 43),none,0⟩,⟨some 45,.mv (.t 44),none,0⟩,⟨some 46,.mv (.t 11),(some (45,false)),0⟩,⟨some 47,.mv (.t 7),(some (45,false)),0⟩,⟨some 48,.call (.c (.fn 32 [])) [(.t 46),(.t 47)],(some (45,false)),0⟩,⟨some 49,.un .not (.t 48),(some (45,false)),0⟩,⟨some 50,.pick (.t 45) (.c (.bool true)) (.t 49),none,0⟩,⟨some 51,.mv (.t 50),none,0⟩,⟨some 52,.mv (.t 12),(some (51,false)),0⟩,⟨some 53,.mv (.t 8),(some (51,false)),0⟩,⟨some 54,.eqb true (.t 52) (.t 53),(some (51,false)),0⟩,⟨some 55,.pick (.t 51) (.c (.bool true)) (.t 54),none,0⟩]) (.cond (.t 55) (.seq (.reg false [⟨some 4,.mv (.c (.bool false)),none,0⟩]) .ret) .skip)) q2z)
def qyw:XCode:=(.seq (.seq (.reg false [⟨some 35,.mv (.t 0),none,0⟩,⟨some 36,.mv (.t 9),none,0⟩,⟨some 37,.call (.c (.fn 8 [])) [(.t 35),(.t 36)],none,0⟩,⟨some 34,.mv (.t 37),none,0⟩,⟨some 38,.ext (.t 34) 0,none,0⟩,⟨some 39,.ext (.t 34) 1,none,0⟩,⟨some 40,.ext (.t 34) 2,none,0⟩,⟨some 10,.new 29 [.nil,.nil,(.int .i64 0)],none,0⟩,⟨none,.st 3 (.t 10) (.t 38),none,0⟩,⟨some 11,.mv (.t 39),none,0⟩,⟨some 12,.mv (.t 40),none,0⟩]) (.frz [10])) qz7)
def qwj:XCode:=(.seq (.reg false [⟨some 32,.mv (.t 1),none,0⟩,⟨some 33,.call (.c (.fn 30 [])) [(.t 32)],none,0⟩,⟨some 9,.mv (.t 33),none,0⟩]) qyw)
def q3h:XCode:=(.seq (.seq (.reg false [⟨some 25,.mv (.t 0),none,0⟩,⟨some 26,.mv (.t 1),none,0⟩,⟨some 27,.call (.c (.fn 30 [])) [(.t 26)],none,0⟩,⟨some 28,.call (.c (.fn 9 [])) [(.t 25),(.t 27)],none,0⟩,⟨some 24,.mv (.t 28),none,0⟩,⟨some 29,.ext (.t 24) 0,none,0⟩,⟨some 30,.ext (.t 24) 1,none,0⟩,⟨some 31,.ext (.t 24) 2,none,0⟩,⟨some 6,.new 29 [.nil,.nil,(.int .i64 0)],none,0⟩,⟨none,.st 3 (.t 6) (.t 29),none,0⟩,⟨some 7,.mv (.t 30),none,0⟩,⟨some 8,.mv (.t 31),none,0⟩]) (.frz [6])) qwj)
def q3w:XCode:=(.seq (.seq (.reg false [⟨some 22,.mv (.t 5),none,0⟩,⟨some 23,.bin .lss (.t 22) (.c (.int .i64 0)),none,0⟩]) (.cond (.t 23) (.seq (.reg false [⟨some 4,.mv (.c (.bool true)),none,0⟩]) .ret) .skip)) q3h)
def qxz:XCode:=(.seq (.reg false [⟨some 19,.mv (.t 1),none,0⟩,⟨some 20,.mv (.t 5),none,0⟩,⟨some 21,.call (.c (.fn 29 [])) [(.t 19),(.t 20)],none,0⟩,⟨some 5,.mv (.t 21),none,0⟩]) q3w)
def qzm:XCode:=(.seq (.reg false [⟨some 5,.mv (.c (.int .i64 1048576)),none,0⟩]) qxz)
def x5:XFn:=⟨(.seq (.reg false [⟨some 4,.mv (.c (.bool false)),none,0⟩]) qzm),138,[(.t 4)]⟩
theorem ok5:FnOk Try.prog T 5 x5:=⟨Try.f5,[.frz [],.frz [],.frz [],.frz [],.frz [],.frz [6],.frz [],.frz [10],.frz [],.frz [],.frz [],.frz [],.frz [],.frz [],.frz [],.frz [],.frz [],.frz [],.frz [],.frz [],.frz [],.frz [],.frz [],.frz [],.frz [],.frz [],.frz [],.frz [],.frz [16]],Try.func5,by decide +kernel,by kernel_rfl⟩
def fl:List (Nat × XFn):=[(46,x46),(47,x47),(75,x75),(48,x48),(76,x76),(96,x96),(80,x80),(98,x98),(94,x94),(95,x95),(79,x79),(97,x97),(93,x93),(77,x77),(78,x78),(49,x49),(8,x8),(58,x58),(82,x82),(84,x84),(85,x85),(86,x86),(59,x59),(20,x20),(54,x54),(83,x83),(55,x55),(56,x56),(57,x57),(19,x19),(28,x28),(9,x9),(70,x70),(40,x40),(29,x29),(73,x73),(42,x42),(30,x30),(88,x88),(62,x62),(32,x32),(89,x89),(63,x63),(31,x31),(43,x43),(33,x33),(36,x36),(34,x34),(64,x64),(65,x65),(35,x35),(66,x66),(38,x38),(67,x67),(37,x37),(5,x5)]
theorem q7u:∀ p∈fl,FnOk Try.prog T p.1 p.2:=by
 simp only [fl,List.forall_mem_cons]
 exact ⟨q8q,q9y,q9d,q9m,q9a,q87,q9k,q9e,q9h,q89,q93,q9v,q8s,q9i,q82,q9f,ok8,q90,q9p,q81,q86,q8n,q9c,q8t,q9o,q8r,q80,q8y,q8m,q9l,q84,ok9,q9r,q9x,q8k,q8v,q8u,q9u,q9q,q9s,q85,q88,q92,q8w,q9w,q9t,q8o,q8z,q8p,q9j,q9z,q9n,q91,q9g,q83,ok5,fun _ h=>by cases h⟩
def roL:List Nat:=[5,20,29,31,32,33,37,38,40,43,46,48,54,58,59,62,63,66,67,70,75,78,79,80,82,83,84,85,86,88,89,95,96]
def mkL:List Nat:=[8,9,19,28,30,42,47,49,56,73,76]
def coL:List Nat:=[]
def q74 (n:Nat) : Nat:=if roL.contains n then 1 else if mkL.contains n then 2 else if coL.contains n then 3 else 0
def ol:List (Nat × Orc):=[]
theorem q7w:∀ p∈ol,OrcOk Try.prog (szL tl) p.1 p.2:=fun _ h=>by cases h
def E:Env:=⟨qu6 fl,q74,szL tl,quq ol⟩
end Go.Proofs.Ytjloihcijdcpeaa.X
