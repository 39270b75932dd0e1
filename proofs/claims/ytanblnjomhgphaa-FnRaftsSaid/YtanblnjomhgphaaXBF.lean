/- The seat's types and functions as X has them; the kernel checks each against the program. -/
import Derived.Test.YtanblnjomhgphaaZSlE
set_option linter.unusedVariables false
set_option linter.unusedSimpArgs false
set_option maxRecDepth 100000
set_option maxHeartbeats 1000000
namespace Go.Proofs.Ytanblnjomhgphaa.X
open Go
abbrev Ma (a:Nat):XOp:=.mv (.t a)
abbrev La (a:Nat):XOp:=.ld none (.t a)
abbrev Fa (k a:Nat):XOp:=.fa k (.t a)
abbrev Na (a:Nat):XOp:=.len (.t a)
abbrev Ia (e a b:Nat):XOp:=.ia e (.t a) (.t b)
abbrev Ya (o:BinOp) (a b:Nat):XOp:=.bin o (.t a) (.t b)
abbrev Ka (n a:Nat):XOp:=.ld (some n) (.t a)
abbrev Ca (n:Int):XO:=.c (.int .i64 n)
abbrev P0 (d:Nat) (x:XOp):XOper:=⟨some d,x,none,0⟩
abbrev P4 (d:Nat) (x:XOp):XOper:=⟨some d,x,none,4⟩
abbrev M0 (d a:Nat):XOper:=⟨some d,.mv (.t a),none,0⟩
abbrev M4 (d a:Nat):XOper:=⟨some d,.mv (.t a),none,4⟩
abbrev L0 (d a:Nat):XOper:=⟨some d,.ld none (.t a),none,0⟩
abbrev L4 (d a:Nat):XOper:=⟨some d,.ld none (.t a),none,4⟩
abbrev F0 (d k a:Nat):XOper:=⟨some d,.fa k (.t a),none,0⟩
abbrev F4 (d k a:Nat):XOper:=⟨some d,.fa k (.t a),none,4⟩
abbrev N0 (d a:Nat):XOper:=⟨some d,.len (.t a),none,0⟩
abbrev N4 (d a:Nat):XOper:=⟨some d,.len (.t a),none,4⟩
abbrev I0 (d e a b:Nat):XOper:=⟨some d,.ia e (.t a) (.t b),none,0⟩
abbrev I4 (d e a b:Nat):XOper:=⟨some d,.ia e (.t a) (.t b),none,4⟩
abbrev Y0 (d:Nat) (o:BinOp) (a b:Nat):XOper:=⟨some d,.bin o (.t a) (.t b),none,0⟩
abbrev Y4 (d:Nat) (o:BinOp) (a b:Nat):XOper:=⟨some d,.bin o (.t a) (.t b),none,4⟩
abbrev K0 (d n a:Nat):XOper:=⟨some d,.ld (some n) (.t a),none,0⟩
abbrev K4 (d n a:Nat):XOper:=⟨some d,.ld (some n) (.t a),none,4⟩
abbrev S0 (n a b:Nat):XOper:=⟨none,.st n (.t a) (.t b),none,0⟩
abbrev S3 (n a b:Nat):XOper:=⟨none,.st n (.t a) (.t b),none,3⟩
abbrev G1 (d:Nat) (x:XOp) (g:Nat):XOper:=⟨some d,x,some (g,true),0⟩
abbrev G2 (d:Nat) (x:XOp) (g:Nat):XOper:=⟨some d,x,some (g,false),0⟩
abbrev G5 (d:Nat) (x:XOp) (g:Nat):XOper:=⟨some d,x,some (g,true),4⟩
abbrev G6 (d:Nat) (x:XOp) (g:Nat):XOper:=⟨some d,x,some (g,false),4⟩
abbrev R0 (l:List XOper):XCode:=.reg false l
abbrev R1 (l:List XOper):XCode:=.reg true l
abbrev Sq (a b:XCode):XCode:=.seq a b
abbrev Cd (a:Nat) (x:XCode):XCode:=.cond (.t a) x .skip
def tl:List (Nat × TI):=[(1,⟨.other,1,8,[.nilfn]⟩),
 (2,⟨(.int .i64),1,8,[.int .i64 0]⟩),
 (3,⟨(.int .i64),1,8,[.int .i64 0]⟩),
 (4,⟨.bool,1,1,[.bool false]⟩),
 (5,⟨(.int .u8),1,1,[.int .u8 0]⟩),
 (6,⟨(.int .u8),1,1,[.int .u8 0]⟩),
 (7,⟨(.struct [(0,2),(1,3),(2,4),(3,6)]),4,24,[.int .i64 0,.int .i64 0,.bool false,.int .u8 0]⟩),
 (8,⟨(.struct [(0,2),(1,3),(2,4),(3,6)]),4,24,[.int .i64 0,.int .i64 0,.bool false,.int .u8 0]⟩),
 (9,⟨.str,1,16,[(.str (ByteArray.mk #[]))]⟩),
 (10,⟨.str,1,16,[(.str (ByteArray.mk #[]))]⟩),
 (11,⟨.str,1,16,[(.str (ByteArray.mk #[]))]⟩),
 (12,⟨(.int .u64),1,8,[.int .u64 0]⟩),
 (15,⟨.ptr,1,8,[.nilptr]⟩),
 (16,⟨.ptr,1,8,[.nilptr]⟩),
 (17,⟨.ptr,1,8,[.nilptr]⟩),
 (21,⟨(.int .i32),1,4,[.int .i32 0]⟩),
 (22,⟨(.slice 5),1,24,[.nil]⟩),
 (23,⟨(.slice 57),1,24,[.nil]⟩),
 (25,⟨.other,1,8,[.nilfn]⟩),
 (26,⟨(.slice 43),1,24,[.nil]⟩),
 (27,⟨(.slice 86),1,24,[.nil]⟩),
 (28,⟨(.struct [(0,26),(1,27)]),2,48,[.nil,.nil]⟩),
 (29,⟨(.struct [(0,26),(1,27)]),2,48,[.nil,.nil]⟩),
 (30,⟨(.slice 4),1,24,[.nil]⟩),
 (32,⟨.other,1,8,[.nilfn]⟩),
 (33,⟨.other,1,8,[.nilfn]⟩),
 (34,⟨.other,1,8,[.nilfn]⟩),
 (35,⟨(.slice 65),1,24,[.nil]⟩),
 (37,⟨.other,1,8,[.nilfn]⟩),
 (38,⟨(.slice 3),1,24,[.nil]⟩),
 (40,⟨.other,1,8,[.nilfn]⟩),
 (41,⟨.other,1,8,[.nilfn]⟩),
 (42,⟨(.struct [(0,3),(1,4),(2,35),(3,3),(4,38)]),5,72,[.int .i64 0,.bool false,.nil,.int .i64 0,.nil]⟩),
 (43,⟨(.struct [(0,3),(1,4),(2,35),(3,3),(4,38)]),5,72,[.int .i64 0,.bool false,.nil,.int .i64 0,.nil]⟩),
 (44,⟨.other,1,8,[.nilfn]⟩),
 (46,⟨.other,1,8,[.nilfn]⟩),
 (47,⟨.other,1,8,[.nilfn]⟩),
 (48,⟨(.slice 89),1,24,[.nil]⟩),
 (49,⟨.other,1,8,[.nilfn]⟩),
 (50,⟨.other,1,8,[.nilfn]⟩),
 (51,⟨.other,1,8,[.nilfn]⟩),
 (52,⟨.other,1,8,[.nilfn]⟩),
 (53,⟨.other,1,8,[.nilfn]⟩),
 (54,⟨.other,1,8,[.nilfn]⟩),
 (55,⟨.other,1,8,[.nilfn]⟩),
 (56,⟨(.struct [(0,3),(1,3),(2,3),(3,3)]),4,32,[.int .i64 0,.int .i64 0,.int .i64 0,.int .i64 0]⟩),
 (57,⟨(.struct [(0,3),(1,3),(2,3),(3,3)]),4,32,[.int .i64 0,.int .i64 0,.int .i64 0,.int .i64 0]⟩),
 (59,⟨.other,1,8,[.nilfn]⟩),
 (61,⟨.other,1,8,[.nilfn]⟩),
 (63,⟨.other,1,8,[.nilfn]⟩),
 (64,⟨(.struct [(0,3),(1,3)]),2,16,[.int .i64 0,.int .i64 0]⟩),
 (65,⟨(.struct [(0,3),(1,3)]),2,16,[.int .i64 0,.int .i64 0]⟩),
 (67,⟨.other,1,8,[.nilfn]⟩),
 (68,⟨.other,1,8,[.nilfn]⟩),
 (70,⟨.other,1,8,[.nilfn]⟩),
 (71,⟨.other,1,8,[.nilfn]⟩),
 (72,⟨.other,1,8,[.nilfn]⟩),
 (73,⟨.other,1,8,[.nilfn]⟩),
 (74,⟨.other,1,8,[.nilfn]⟩),
 (75,⟨.ptr,1,8,[.nilptr]⟩),
 (76,⟨(.int .u64),1,8,[.int .u64 0]⟩),
 (77,⟨(.struct [(0,22),(1,3),(2,76)]),3,40,[.nil,.int .i64 0,.int .u64 0]⟩),
 (78,⟨(.struct [(0,22),(1,3),(2,76)]),3,40,[.nil,.int .i64 0,.int .u64 0]⟩),
 (79,⟨.other,1,8,[.nilfn]⟩),
 (80,⟨.other,1,8,[.nilfn]⟩),
 (81,⟨.other,1,8,[.nilfn]⟩),
 (82,⟨.other,1,8,[.nilfn]⟩),
 (83,⟨.other,1,8,[.nilfn]⟩),
 (84,⟨.other,1,8,[.nilfn]⟩),
 (85,⟨(.struct [(0,4),(1,3),(2,3),(3,3),(4,3),(5,3),(6,35),(7,3),(8,3)]),9,88,[.bool false,.int .i64 0,.int .i64 0,.int .i64 0,.int .i64 0,.int .i64 0,.nil,.int .i64 0,.int .i64 0]⟩),
 (86,⟨(.struct [(0,4),(1,3),(2,3),(3,3),(4,3),(5,3),(6,35),(7,3),(8,3)]),9,88,[.bool false,.int .i64 0,.int .i64 0,.int .i64 0,.int .i64 0,.int .i64 0,.nil,.int .i64 0,.int .i64 0]⟩),
 (87,⟨.other,1,8,[.nilfn]⟩),
 (88,⟨.other,1,8,[.nilfn]⟩),
 (89,⟨(.struct [(0,3),(1,3),(2,3),(3,3)]),4,32,[.int .i64 0,.int .i64 0,.int .i64 0,.int .i64 0]⟩),
 (90,⟨.other,1,8,[.nilfn]⟩),
 (91,⟨.other,1,8,[.nilfn]⟩),
 (92,⟨.other,1,8,[.nilfn]⟩),
 (93,⟨.other,1,8,[.nilfn]⟩),
 (94,⟨.other,1,8,[.nilfn]⟩),
 (95,⟨.other,1,8,[.nilfn]⟩),
 (96,⟨.other,1,8,[.nilfn]⟩),
 (97,⟨.other,1,8,[.nilfn]⟩),
 (98,⟨.other,1,8,[.nilfn]⟩),
 (99,⟨.other,1,8,[.nilfn]⟩),
 (100,⟨.other,1,8,[.nilfn]⟩),
 (101,⟨.other,1,8,[.nilfn]⟩),
 (102,⟨.other,1,8,[.nilfn]⟩),
 (103,⟨(.int .u64),1,8,[.int .u64 0]⟩),
 (104,⟨.other,1,8,[.nilfn]⟩),
 (105,⟨.other,1,8,[.nilfn]⟩),
 (106,⟨.other,1,8,[.nilfn]⟩),
 (107,⟨.other,1,8,[.nilfn]⟩),
 (108,⟨.other,1,8,[.nilfn]⟩),
 (109,⟨.other,1,8,[.nilfn]⟩),
 (110,⟨.other,1,8,[.nilfn]⟩),
 (111,⟨.other,1,8,[.nilfn]⟩),
 (112,⟨.other,1,8,[.nilfn]⟩),
 (113,⟨.other,1,8,[.nilfn]⟩),
 (114,⟨.other,1,8,[.nilfn]⟩),
 (115,⟨.other,1,8,[.nilfn]⟩),
 (116,⟨.other,1,8,[.nilfn]⟩),
 (117,⟨.ptr,1,8,[.nilptr]⟩),
 (118,⟨.other,1,8,[.nilfn]⟩),
 (119,⟨.other,1,8,[.nilfn]⟩),
 (120,⟨.other,1,8,[.nilfn]⟩),
 (121,⟨.ptr,1,8,[.nilptr]⟩),
 (122,⟨.other,1,8,[.nilfn]⟩),
 (123,⟨.other,1,8,[.nilfn]⟩),
 (124,⟨.other,1,8,[.nilfn]⟩),
 (125,⟨.other,1,8,[.nilfn]⟩),
 (126,⟨.other,1,8,[.nilfn]⟩),
 (127,⟨.other,1,8,[.nilfn]⟩),
 (128,⟨(.int .u32),1,4,[.int .u32 0]⟩),
 (129,⟨.other,1,8,[.nilfn]⟩),
 (130,⟨.other,1,8,[.nilfn]⟩),
 (131,⟨.other,1,8,[.nilfn]⟩),
 (132,⟨.other,1,8,[.nilfn]⟩),
 (133,⟨.other,1,8,[.nilfn]⟩),
 (136,⟨(.array 0 16),0,0,[]⟩),
 (139,⟨(.int .u8),1,1,[.int .u8 0]⟩),
 (140,⟨(.int .u8),1,1,[.int .u8 0]⟩),
 (141,⟨.other,1,8,[.nilfn]⟩),
 (142,⟨.ptr,1,8,[.nilptr]⟩),
 (143,⟨(.int .i32),1,4,[.int .i32 0]⟩),
 (144,⟨(.int .i32),1,4,[.int .i32 0]⟩)]
abbrev T:Tab:=qnf tl
theorem zed:∀ p∈tl,qoj Try.prog p.1=some p.2:=by
 simp only [tl,List.forall_mem_cons]
 exact ⟨by kernel_rfl,by kernel_rfl,by kernel_rfl,by kernel_rfl,by kernel_rfl,by kernel_rfl,by kernel_rfl,by kernel_rfl,by kernel_rfl,by kernel_rfl,by kernel_rfl,by kernel_rfl,by kernel_rfl,by kernel_rfl,by kernel_rfl,by kernel_rfl,by kernel_rfl,by kernel_rfl,by kernel_rfl,by kernel_rfl,by kernel_rfl,by kernel_rfl,by kernel_rfl,by kernel_rfl,by kernel_rfl,by kernel_rfl,by kernel_rfl,by kernel_rfl,by kernel_rfl,by kernel_rfl,by kernel_rfl,by kernel_rfl,by kernel_rfl,by kernel_rfl,by kernel_rfl,by kernel_rfl,by kernel_rfl,by kernel_rfl,by kernel_rfl,by kernel_rfl,by kernel_rfl,by kernel_rfl,by kernel_rfl,by kernel_rfl,by kernel_rfl,by kernel_rfl,by kernel_rfl,by kernel_rfl,by kernel_rfl,by kernel_rfl,by kernel_rfl,by kernel_rfl,by kernel_rfl,by kernel_rfl,by kernel_rfl,by kernel_rfl,by kernel_rfl,by kernel_rfl,by kernel_rfl,by kernel_rfl,by kernel_rfl,by kernel_rfl,by kernel_rfl,by kernel_rfl,by kernel_rfl,by kernel_rfl,by kernel_rfl,by kernel_rfl,by kernel_rfl,by kernel_rfl,by kernel_rfl,by kernel_rfl,by kernel_rfl,by kernel_rfl,by kernel_rfl,by kernel_rfl,by kernel_rfl,by kernel_rfl,by kernel_rfl,by kernel_rfl,by kernel_rfl,by kernel_rfl,by kernel_rfl,by kernel_rfl,by kernel_rfl,by kernel_rfl,by kernel_rfl,by kernel_rfl,by kernel_rfl,by kernel_rfl,by kernel_rfl,by kernel_rfl,by kernel_rfl,by kernel_rfl,by kernel_rfl,by kernel_rfl,by kernel_rfl,by kernel_rfl,by kernel_rfl,by kernel_rfl,by kernel_rfl,by kernel_rfl,by kernel_rfl,by kernel_rfl,by kernel_rfl,by kernel_rfl,by kernel_rfl,by kernel_rfl,by kernel_rfl,by kernel_rfl,by kernel_rfl,by kernel_rfl,by kernel_rfl,by kernel_rfl,by kernel_rfl,by kernel_rfl,by kernel_rfl,by kernel_rfl,by kernel_rfl,by kernel_rfl,by kernel_rfl,by kernel_rfl,by kernel_rfl,by kernel_rfl,by kernel_rfl,fun _ h=>by cases h⟩
def q5v:XCode:=(R1 [M4 14 0,P4 15 (.chk (.t 14)),F4 16 0 15,L4 17 16,M4 18 0,P4 19 (.chk (.t 18)),F4 20 1 19,L4 21 20,I4 22 1 17 21,L4 23 22,P4 24 (.cvt .i64 (.t 23)),M4 3 24])
def q57:XCode:=(Cd 13 q5v)
def q2m:XCode:=(.cond (.t 53) (Sq (R0 [M0 54 3,M0 2 54]) .ret) .skip)
def q9t:XCode:=(Sq (R0 [M0 55 0,P0 56 (.chk (.t 55)),F0 57 2 56,L0 58 57,P0 59 (.bin .shr (.t 58) (.c (.int .u64 40))),P0 60 (.bin .and (.t 59) (.c (.int .u64 255))),P0 61 (.cvt .i64 (.t 60)),M0 2 61]) .ret)
def q6v:XCode:=(Sq (Sq (R1 [M4 44 0,P4 45 (.chk (.t 44)),F4 46 1 45,L4 47 46,M4 48 0,P4 49 (.chk (.t 48)),F4 50 0 49,L4 51 50,N4 52 51,Y4 53 .leq 47 52]) q2m) q9t)
def q7z:XCode:=(Sq (R0 [M0 32 0,M0 33 0,P0 34 (.chk (.t 33)),F0 35 2 34,L0 36 35,P0 37 (.bin .mul (.t 36) (.c (.int .u64 6364136223846793005))),M0 38 3,P0 39 (.cvt .u64 (.t 38)),Y0 40 .add 37 39,P0 41 (.bin .add (.t 40) (.c (.int .u64 1442695040888963407))),P0 42 (.chk (.t 32)),F0 43 2 42,S0 1 43 41]) q6v)
def q8g:XCode:=(Sq (R0 [M0 25 0,P0 26 (.chk (.t 25)),F0 27 1 26,L0 28 27,P0 29 (.bin .add (.t 28) (Ca 1)),P0 30 (.chk (.t 25)),F0 31 1 30,S0 1 31 29]) q7z)
def q8p:XCode:=(Sq (Sq (R1 [M4 4 0,P4 5 (.chk (.t 4)),F4 6 1 5,L4 7 6,M4 8 0,P4 9 (.chk (.t 8)),F4 10 0 9,L4 11 10,N4 12 11,Y4 13 .lss 7 12]) q57) q8g)
def q2r:XCode:=(Sq (R0 [P0 3 (.mv (Ca 0))]) q8p)
def x69:XFn:=⟨(Sq (R0 [P0 2 (.mv (Ca 0))]) q2r),62,[.t 2]⟩
theorem zge:FnOk Try.prog T 69 x69:=⟨Try.f69,[.draw [0,1,2,3,4,5,6,7,8,9] [4,4,4,4,4,4,4,4,4,4],.draw [0,1,2,3,4,5,6,7,8,9,10,11] [4,4,4,4,4,4,4,4,4,4,4,4],.draw [0,1,2,3,4,5,6,7,8,9] [4,4,4,4,4,4,4,4,4,4]],Try.func69,by decide +kernel,by kernel_rfl⟩
def q27:XCode:=(R0 [M0 12 5,P0 13 (.bin .mul (.t 12) (Ca 256)),M0 14 0,P0 15 (.call (.c (.fn 69 [])) [.t 14]),Y0 16 .add 13 15,M0 5 16])
def q6d:XCode:=(Cd 11 q27)
def qrp:XCode:=(Sq (R0 [M0 17 5,M0 18 1,Y0 19 .rem 17 18,M0 4 19]) .ret)
def q80:XCode:=(Sq (Sq (R0 [M0 10 1,P0 11 (.bin .gtr (.t 10) (Ca 200))]) q6d) qrp)
def q9k:XCode:=(Sq (R0 [M0 8 0,P0 9 (.call (.c (.fn 69 [])) [.t 8]),M0 5 9]) q80)
def q9w:XCode:=(Sq (Sq (R0 [M0 6 1,P0 7 (.bin .leq (.t 6) (Ca 1))]) (.cond (.t 7) (Sq (R0 [P0 4 (.mv (Ca 0))]) .ret) .skip)) q9k)
def x42:XFn:=⟨(Sq (R0 [P0 4 (.mv (Ca 0))]) q9w),20,[.t 4]⟩
theorem zfi:FnOk Try.prog T 42 x42:=⟨Try.f42,[],Try.func42,by decide +kernel,by kernel_rfl⟩
def q88:XCode:=(Sq (R0 [M0 7 0,M0 8 1,Y0 9 .geq 7 8,M0 10 9,G1 11 (Ma 0) 10,G1 12 (Ma 2) 10,G1 13 (Ya .leq 11 12) 10,P0 14 (.pick (.t 10) (.t 13) (.c (.bool false))),M0 6 14]) .ret)
def x63:XFn:=⟨(Sq (R0 [P0 6 (.mv (.c (.bool false)))]) q88),15,[.t 6]⟩
theorem zf8:FnOk Try.prog T 63 x63:=⟨Try.f63,[],Try.func63,by decide +kernel,by kernel_rfl⟩
def q9f:XCode:=(.cond (.t 8) (Sq (R0 [P0 9 (.build [.nil,.nil] []),S0 2 2 9,P0 3 (.mv (.c (.bool false)))]) .ret) .skip)
def q78:XCode:=(R1 [F4 15 0 4,L4 16 15,M4 17 0,P4 18 (.mkS 3 1 8 [.int .i64 0] (.t 17) (.t 17)),P4 19 (.build [.int .i64 0,.bool false,.nil,.int .i64 0,.nil] [(4,(1,(.t 18)))]),P4 20 (.buildS 43 1 [.int .i64 0,.bool false,.nil,.int .i64 0,.nil] [(0,(5,(.t 19)))]),⟨some 21,.app 43 5 72 (.t 16) (.t 20),none,3⟩,F4 22 0 4,S3 1 22 21])
def q33:XCode:=(Sq (.block 1 q78) (R0 [M0 13 5,P0 14 (.bin .add (.t 13) (Ca 1)),M0 5 14]))
def q9b:XCode:=(Sq (Sq (R0 [M0 10 5,M0 11 0,Y0 12 .lss 10 11]) (.cond (.t 12) .skip (.exit 0))) q33)
def zea:XCode:=(.block 0 (.loop [0,2,4,5] q9b))
def q6s:XCode:=zea
def q56:XCode:=(Sq (Sq (R0 [P0 5 (.mv (Ca 0))]) q6s) (Sq (R0 [K0 23 2 4,S0 2 2 23,P0 3 (.mv (.c (.bool true)))]) .ret))
def q2z:XCode:=(Sq (R0 [P0 4 (.new 29 [.nil,.nil])]) q56)
def q62:XCode:=(Sq (Sq (R0 [M0 6 0,P0 7 (.call (.c (.fn 63 [])) [.t 6,(Ca 1),(Ca 5)]),P0 8 (.un .not (.t 7))]) q9f) q2z)
def x40:XFn:=⟨(Sq (R0 [P0 2 (.new 29 [.nil,.nil]),P0 3 (.mv (.c (.bool false)))]) q62),24,[(.cell 2 (some 2)),.t 3]⟩
theorem zgo:FnOk Try.prog T 40 x40:=⟨Try.f40,[.loop [0,2,4,5],.draw [0,1,2,3,4,5,6,7,8] [4,4,4,4,4,4,3,4,3]],Try.func40,by decide +kernel,by kernel_rfl⟩
def q93:XCode:=(Sq (R0 [M0 5 1,P0 6 (.bin .geq (.t 5) (Ca 0)),M0 7 6,G1 8 (Ma 1) 7,G1 9 (Fa 0 2) 7,G1 10 (La 9) 7,G1 11 (Na 10) 7,G1 12 (Ya .lss 8 11) 7,P0 13 (.pick (.t 7) (.t 12) (.c (.bool false))),M0 4 13]) .ret)
def x64:XFn:=⟨(Sq (Sq (R0 [P0 2 (.box 29 2 (.t 0)),P0 4 (.mv (.c (.bool false)))]) (.frz [2])) q93),14,[.t 4]⟩
theorem zgz:FnOk Try.prog T 64 x64:=⟨Try.f64,[.frz [2]],Try.func64,by decide +kernel,by kernel_rfl⟩
def q2i:XCode:=(.cond (.t 40) (Sq (R0 [K0 41 2 2,S0 2 4 41]) .ret) .skip)
def q73:XCode:=(R0 [P0 70 (.buildS 65 0 [] []),F0 71 2 5,L0 72 71,F0 73 4 3,L0 74 73,P0 75 (.slc 65 2 (.t 72) none (some (.t 74)) none),P0 76 (.app 65 2 16 (.t 70) (.t 75)),F0 77 2 5,S0 1 77 76])
def q82:XCode:=(Cd 69 q73)
def q6r:XCode:=(R0 [F0 89 2 5,L0 90 89,K0 91 2 7,P0 92 (.buildS 65 1 [.int .i64 0,.int .i64 0] [(0,(2,(.t 91)))]),P0 93 (.app 65 2 16 (.t 90) (.t 92)),F0 94 2 5,S0 1 94 93])
def q6u:XCode:=(Cd 88 q6r)
def q8e:XCode:=(.cond (.t 100) (R0 [M0 101 6,P0 102 (.bin .add (.t 101) (Ca 1)),M0 6 102]) .skip)
def q71:XCode:=(Sq (R0 [F0 95 2 5,L0 96 95,N0 97 96,F0 98 4 3,L0 99 98,Y0 100 .gtr 97 99]) q8e)
def q50:XCode:=(Sq (Sq (R0 [F0 78 2 5,L0 79 78,N0 80 79,F0 81 4 3,L0 82 81,Y0 83 .eql 80 82,M0 84 83,G1 85 (Fa 4 3) 84,G1 86 (La 85) 84,G1 87 (.bin .lss (.t 86) (Ca 30)) 84,P0 88 (.pick (.t 84) (.t 87) (.c (.bool false)))]) q6u) q71)
def q4z:XCode:=(Sq (Sq (R1 [F4 52 2 5,L4 53 52,N4 54 53,F4 55 4 3,L4 56 55,Y4 57 .gtr 54 56,M4 58 57,G5 59 (Fa 2 5) 58,G5 60 (La 59) 58,G5 61 (Fa 4 3) 58,G5 62 (La 61) 58,G5 63 (Ia 2 60 62) 58,G5 64 (Fa 0 63) 58,G5 65 (La 64) 58,G5 66 (Fa 0 7) 58,G5 67 (La 66) 58,G5 68 (Ya .neq 65 67) 58,P4 69 (.pick (.t 58) (.t 68) (.c (.bool false)))]) q82) q50)
def qua:XCode:=(Sq (Sq (R0 [F0 48 6 3,L0 49 48,P0 50 (.ia 2 (.t 49) (Ca 0)),K0 51 2 50,P0 7 (.new 65 [.int .i64 0,.int .i64 0]),S0 2 7 51]) (.frz [7])) q4z)
def qsf:XCode:=(Cd 47 qua)
def qv9:XCode:=(R0 [F0 109 2 5,L0 110 109,N0 111 110,F0 112 3 5,S0 1 112 111])
def qut:XCode:=(Cd 108 qv9)
def qz6:XCode:=(.cond (.t 117) (R0 [M0 118 6,M0 8 118]) .skip)
def qyh:XCode:=(.cond (.t 122) (R0 [M0 123 8,F0 124 3 5,S0 1 124 123]) .skip)
def qxg:XCode:=(R0 [F0 138 4 5,L0 139 138,M0 140 9,F0 141 2 5,L0 142 141,N0 143 142,I0 144 1 139 140,S0 1 144 143])
def qzl:XCode:=(Cd 137 qxg)
def qwv:XCode:=(Sq (R0 [M0 133 10,F0 134 2 5,L0 135 134,N0 136 135,Y0 137 .gtr 133 136]) qzl)
def qu4:XCode:=(Sq (R0 [M0 130 128,I0 131 1 126 128,L0 132 131,M0 9 130,M0 10 132]) qwv)
def zcg:XCode:=(.block 0 (.loop [2,3,4,5,6,126,127,128] (Sq (R0 [Y0 129 .lss 128 127]) (Sq (.cond (.t 129) .skip (.exit 0)) (Sq (.block 1 qu4) (R0 [P0 145 (.bin .add (.t 128) (Ca 1)),M0 128 145]))))))
def qyx:XCode:=zcg
def qxv:XCode:=(R0 [F0 156 1 2,L0 157 156,F0 158 2 3,L0 159 158,F0 160 1 3,L0 161 160,F0 162 0 5,L0 163 162,M0 164 6,P0 165 (.build [.bool false,.int .i64 0,.int .i64 0,.int .i64 0,.int .i64 0,.int .i64 0,.nil,.int .i64 0,.int .i64 0] [(0,(1,(.c (.bool true)))),(1,(1,(.t 159))),(2,(1,(.t 161))),(3,(1,(.t 163))),(8,(1,(.t 164)))]),P0 166 (.buildS 86 1 [.bool false,.int .i64 0,.int .i64 0,.int .i64 0,.int .i64 0,.int .i64 0,.nil,.int .i64 0,.int .i64 0] [(0,(9,(.t 165)))]),P0 167 (.app 86 9 88 (.t 157) (.t 166)),F0 168 1 2,S0 1 168 167])
def qwy:XCode:=(Cd 155 qxv)
def qtt:XCode:=(Sq (Sq (R0 [F0 152 1 2,L0 153 152,N0 154 153,P0 155 (.bin .lss (.t 154) (Ca 20))]) qwy) (Sq (R0 [K0 169 2 2,S0 2 4 169]) .ret))
def qsi:XCode:=(Sq (R0 [F0 146 0 2,L0 147 146,F0 148 2 3,L0 149 148,K0 150 5 5,I0 151 5 147 149,S0 5 151 150]) qtt)
def qus:XCode:=(Sq (Sq (R0 [F0 125 4 5,L0 126 125,N0 127 126,P0 128 (.mv (Ca 0))]) qyx) qsi)
def qzm:XCode:=(Sq (Sq (R0 [M0 119 8,F0 120 3 5,L0 121 120,Y0 122 .gtr 119 121]) qyh) qus)
def qs0:XCode:=(Sq (Sq (R0 [M0 115 8,M0 116 6,Y0 117 .gtr 115 116]) qz6) qzm)
def qzr:XCode:=(Sq (R0 [F0 113 7 3,L0 114 113,M0 8 114]) qs0)
def qw4:XCode:=(Sq (Sq (R0 [F0 103 3 5,L0 104 103,F0 105 2 5,L0 106 105,N0 107 106,Y0 108 .gtr 104 107]) qut) qzr)
def qun:XCode:=(Sq (Sq (R0 [F0 44 6 3,L0 45 44,N0 46 45,P0 47 (.bin .gtr (.t 46) (Ca 0))]) qsf) qw4)
def qzh:XCode:=(Sq (R0 [F0 42 4 3,L0 43 42,M0 6 43]) qun)
def qxe:XCode:=(Sq (Sq (R1 [F4 17 2 5,L4 18 17,N4 19 18,F4 20 4 3,L4 21 20,Y4 22 .lss 19 21,M4 23 22,G6 24 (Fa 4 3) 23,G6 25 (La 24) 23,G6 26 (.bin .gtr (.t 25) (Ca 0)) 23,G6 27 (Ma 26) 23,G5 28 (Fa 2 5) 27,G5 29 (La 28) 27,G5 30 (Fa 4 3) 27,G5 31 (La 30) 27,G5 32 (.bin .sub (.t 31) (Ca 1)) 27,G5 33 (Ia 2 29 32) 27,G5 34 (Fa 0 33) 27,G5 35 (La 34) 27,G5 36 (Fa 5 3) 27,G5 37 (La 36) 27,G5 38 (Ya .neq 35 37) 27,G6 39 (.pick (.t 27) (.t 38) (.c (.bool false))) 23,P4 40 (.pick (.t 23) (.c (.bool true)) (.t 39))]) q2i) qzh)
def qwj:XCode:=(Sq (R0 [F0 11 0 2,L0 12 11,F0 13 2 3,L0 14 13,I0 15 5 12 14,K0 16 5 15,P0 5 (.new 43 [.int .i64 0,.bool false,.nil,.int .i64 0,.nil]),S0 5 5 16]) qxe)
def x93:XFn:=⟨(Sq (Sq (R0 [P0 2 (.box 29 2 (.t 0)),P0 3 (.box 86 9 (.t 1)),P0 4 (.new 29 [.nil,.nil])]) (.frz [3])) qwj),170,[(.cell 4 (some 2))]⟩
theorem zgu:FnOk Try.prog T 93 x93:=⟨Try.f93,[.frz [3],.draw [0,1,2,3,4,5,6,7,8,9,10,11,12,13,14,15,16,17,18,19,20,21,22,23] [4,4,4,4,4,4,4,4,4,4,4,4,4,4,4,4,4,4,4,4,4,4,4,4],.frz [],.frz [],.frz [],.frz [],.frz [7],.draw [0,1,2,3,4,5,6,7,8,9,10,11,12,13,14,15,16,17] [4,4,4,4,4,4,4,4,4,4,4,4,4,4,4,4,4,4],.loop [2,3,4,5,6,126,127,128]],Try.func93,by decide +kernel,by kernel_rfl⟩
def q7x:XCode:=(R0 [F0 26 0 2,L0 27 26,F0 28 2 3,L0 29 28,K0 30 5 5,I0 31 5 27 29,S0 5 31 30])
def q3g:XCode:=(Sq (R0 [F0 21 0 2,L0 22 21,N0 23 22,P0 24 (.mkS 3 1 8 [.int .i64 0] (.t 23) (.t 23)),F0 25 4 5,S0 1 25 24]) q7x)
def q6j:XCode:=(Sq (R0 [F0 20 1 5,⟨none,.st 1 (.t 20) (.c (.bool false)),none,0⟩]) q3g)
def q4j:XCode:=(Sq (R0 [F0 17 3 3,L0 18 17,F0 19 0 5,S0 1 19 18]) q6j)
def q5j:XCode:=(Cd 16 q4j)
def qrf:XCode:=(Sq (R0 [K0 43 2 2,K0 44 9 3,P0 45 (.call (.c (.fn 93 [])) [.t 43,.t 44]),S0 2 4 45]) .ret)
def q6f:XCode:=(R1 [F4 68 0 2,L4 69 68,F4 70 2 3,L4 71 70,I4 72 5 69 71,F4 73 4 72,L4 74 73,F4 75 1 3,L4 76 75,F4 77 8 3,L4 78 77,I4 79 1 74 76,S3 1 79 78])
def qrg:XCode:=(Cd 46 q6f)
def qr8:XCode:=(Sq (R1 [F4 47 1 5,L4 48 47,M4 49 48,G5 50 (Fa 8 3) 49,G5 51 (La 50) 49,G5 52 (Fa 4 5) 49,G5 53 (La 52) 49,G5 54 (Fa 1 3) 49,G5 55 (La 54) 49,G5 56 (Ia 1 53 55) 49,G5 57 (La 56) 49,G5 58 (Ya .gtr 51 57) 49,P4 59 (.pick (.t 49) (.t 58) (.c (.bool false))),M4 60 59,G5 61 (Fa 8 3) 60,G5 62 (La 61) 60,G5 63 (Fa 2 5) 60,G5 64 (La 63) 60,G5 65 (Na 64) 60,G5 66 (Ya .leq 62 65) 60,P4 67 (.pick (.t 60) (.t 66) (.c (.bool false))),M4 46 67]) qrg)
def qo4:XCode:=(.cond (.t 39) qrf qr8)
def qo0:XCode:=(Sq (R0 [F0 40 0 3,L0 41 40,P0 42 (.un .not (.t 41)),M0 39 42]) qo4)
def qpe:XCode:=(.cond (.t 32) (Sq (R0 [K0 38 2 2,S0 2 4 38]) .ret) qo0)
def qo2:XCode:=(Sq (R0 [F0 33 3 3,L0 34 33,F0 35 0 5,L0 36 35,Y0 37 .neq 34 36,M0 32 37]) qpe)
def qou:XCode:=(Sq (.block 0 qo2) (Sq (R0 [K0 80 2 2,S0 2 4 80]) .ret))
def qt4:XCode:=(Sq (Sq (R0 [F0 12 3 3,L0 13 12,F0 14 0 5,L0 15 14,Y0 16 .gtr 13 15]) q5j) qou)
def quk:XCode:=(Sq (R0 [F0 6 0 2,L0 7 6,F0 8 2 3,L0 9 8,I0 10 5 7 9,K0 11 5 10,P0 5 (.new 43 [.int .i64 0,.bool false,.nil,.int .i64 0,.nil]),S0 5 5 11]) qt4)
def x76:XFn:=⟨(Sq (Sq (R0 [P0 2 (.box 29 2 (.t 0)),P0 3 (.box 86 9 (.t 1)),P0 4 (.new 29 [.nil,.nil])]) (.frz [2,3])) quk),81,[(.cell 4 (some 2))]⟩
theorem zfx:FnOk Try.prog T 76 x76:=⟨Try.f76,[.frz [2,3],.draw [0,1,2,3,4,5,6,7,8,9,10,11,12,13,14,15,16,17,18,19,20,21] [4,4,4,4,4,4,4,4,4,4,4,4,4,4,4,4,4,4,4,4,4,4],.draw [0,1,2,3,4,5,6,7,8,9,10,11,12] [4,4,4,4,4,4,4,4,4,4,4,4,3]],Try.func76,by decide +kernel,by kernel_rfl⟩
def q3n:XCode:=(R0 [M0 18 3,M0 19 4,P0 20 (.buildS 3 1 [.int .i64 0] [(0,(1,(.t 19)))]),P0 21 (.app 3 1 8 (.t 18) (.t 20)),M0 3 21])
def q5o:XCode:=(Cd 17 q3n)
def q2n:XCode:=(Sq (R0 [M0 12 0,M0 13 4,P0 14 (.cvt .u64 (.t 13)),Y0 15 .shr 12 14,P0 16 (.bin .and (.t 15) (Ca 1)),P0 17 (.bin .eql (.t 16) (Ca 1))]) q5o)
def q4a:XCode:=(Sq (.block 1 q2n) (R0 [M0 10 4,P0 11 (.bin .add (.t 10) (Ca 1)),M0 4 11]))
def q9m:XCode:=(Sq (Sq (R0 [M0 5 0,M0 6 4,P0 7 (.cvt .u64 (.t 6)),Y0 8 .shr 5 7,P0 9 (.bin .gtr (.t 8) (Ca 0))]) (.cond (.t 9) .skip (.exit 0))) q4a)
def zfc:XCode:=(.block 0 (.loop [0,3,4] q9m))
def q9e:XCode:=zfc
def q77:XCode:=(Sq (Sq (R0 [P0 4 (.mv (Ca 0))]) q9e) (Sq (R0 [M0 22 3,M0 2 22]) .ret))
def q4q:XCode:=(Sq (R0 [P0 3 (.mv (.c .nil))]) q77)
def x94:XFn:=⟨(Sq (R0 [P0 2 (.mv (.c .nil))]) q4q),23,[.t 2]⟩
theorem zgl:FnOk Try.prog T 94 x94:=⟨Try.f94,[.loop [0,3,4]],Try.func94,by decide +kernel,by kernel_rfl⟩
def q9o:XCode:=(Sq (R0 [M0 14 6,P0 15 (.bin .lss (.t 14) (Ca 0)),M0 16 15,G2 17 (Ma 6) 16,G2 18 (Ma 1) 16,G2 19 (Ya .geq 17 18) 16,P0 20 (.pick (.t 16) (.c (.bool true)) (.t 19)),M0 21 20,G2 22 (Ma 5) 21,G2 23 (.bin .gtr (.t 22) (Ca 0)) 21,G2 24 (Ma 23) 21,G1 25 (Ma 0) 24,G1 26 (Ma 5) 24,G1 27 (.bin .sub (.t 26) (Ca 1)) 24,G1 28 (Ia 1 25 27) 24,G1 29 (La 28) 24,G1 30 (Ma 6) 24,G1 31 (Ya .geq 29 30) 24,G2 32 (.pick (.t 24) (.t 31) (.c (.bool false))) 21,P0 33 (.pick (.t 21) (.c (.bool true)) (.t 32))]) (.cond (.t 33) (Sq (R0 [P0 4 (.mv (.c (.bool false)))]) .ret) .skip))
def q8l:XCode:=(Sq (R0 [M0 11 9,I0 12 1 7 9,L0 13 12,M0 5 11,M0 6 13]) q9o)
def zej:XCode:=(.block 0 (.loop [0,1,7,8,9] (Sq (R0 [Y0 10 .lss 9 8]) (Sq (.cond (.t 10) .skip (.exit 0)) (Sq (.block 1 q8l) (R0 [P0 34 (.bin .add (.t 9) (Ca 1)),M0 9 34]))))))
def q4b:XCode:=zej
def q39:XCode:=(Sq (Sq (R0 [M0 7 0,N0 8 7,P0 9 (.mv (Ca 0))]) q4b) (Sq (R0 [P0 4 (.mv (.c (.bool true)))]) .ret))
def x95:XFn:=⟨(Sq (R0 [P0 4 (.mv (.c (.bool false)))]) q39),35,[.t 4]⟩
theorem zfu:FnOk Try.prog T 95 x95:=⟨Try.f95,[.loop [0,1,7,8,9]],Try.func95,by decide +kernel,by kernel_rfl⟩
def q45:XCode:=(Sq (R0 [M0 13 6,M0 14 1,Y0 15 .eql 13 14]) (.cond (.t 15) (Sq (R0 [P0 4 (.mv (.c (.bool true)))]) .ret) .skip))
def q65:XCode:=(Sq (R0 [I0 11 1 7 9,L0 12 11,M0 6 12]) q45)
def ze0:XCode:=(.block 0 (.loop [1,7,8,9] (Sq (R0 [Y0 10 .lss 9 8]) (Sq (.cond (.t 10) .skip (.exit 0)) (Sq (.block 1 q65) (R0 [P0 16 (.bin .add (.t 9) (Ca 1)),M0 9 16]))))))
def q3b:XCode:=ze0
def q6a:XCode:=(Sq (Sq (R0 [M0 7 0,N0 8 7,P0 9 (.mv (Ca 0))]) q3b) (Sq (R0 [P0 4 (.mv (.c (.bool false)))]) .ret))
def x96:XFn:=⟨(Sq (R0 [P0 4 (.mv (.c (.bool false)))]) q6a),17,[.t 4]⟩
theorem zfo:FnOk Try.prog T 96 x96:=⟨Try.f96,[.loop [1,7,8,9]],Try.func96,by decide +kernel,by kernel_rfl⟩
def quu:XCode:=(Sq (R0 [M0 6 0,M0 7 0,N0 8 7,P0 9 (.bin .sub (.t 8) (Ca 1)),I0 10 2 6 9,F0 11 0 10,L0 12 11,M0 2 12]) .ret)
def qvb:XCode:=(Sq (Sq (R0 [M0 3 0,N0 4 3,P0 5 (.bin .eql (.t 4) (Ca 0))]) (.cond (.t 5) (Sq (R0 [P0 2 (.mv (.c (.int .i64 (-1))))]) .ret) .skip)) quu)
def qr1:XFn:=⟨(Sq (R0 [P0 2 (.mv (Ca 0))]) qvb),13,[.t 2]⟩
theorem zef:FnOk Try.prog T 105 qr1:=⟨Try.f105,[],Try.func105,by decide +kernel,by kernel_rfl⟩
def q20:XCode:=(Sq (R0 [M0 5 0,P0 6 (.call (.c (.fn 105 [])) [.t 5]),M0 7 1,P0 8 (.call (.c (.fn 105 [])) [.t 7]),Y0 9 .gtr 6 8,M0 10 9,G2 11 (Ma 0) 10,G2 12 (.call (.c (.fn 105 [])) [.t 11]) 10,G2 13 (Ma 1) 10,G2 14 (.call (.c (.fn 105 [])) [.t 13]) 10,G2 15 (Ya .eql 12 14) 10,G2 16 (Ma 15) 10,G1 17 (Ma 0) 16,G1 18 (Na 17) 16,G1 19 (Ma 1) 16,G1 20 (Na 19) 16,G1 21 (Ya .geq 18 20) 16,G2 22 (.pick (.t 16) (.t 21) (.c (.bool false))) 10,P0 23 (.pick (.t 10) (.c (.bool true)) (.t 22)),M0 4 23]) .ret)
def x97:XFn:=⟨(Sq (R0 [P0 4 (.mv (.c (.bool false)))]) q20),24,[.t 4]⟩
theorem zgx:FnOk Try.prog T 97 x97:=⟨Try.f97,[],Try.func97,by decide +kernel,by kernel_rfl⟩
def q4u:XCode:=(.cond (.t 36) (Sq (R0 [K0 37 2 3,S0 2 6 37,P0 7 (.mv (.c (.bool false)))]) .ret) .skip)
def qr5:XCode:=(.cond (.t 57) (Sq (R0 [K0 58 2 3,S0 2 6 58,P0 7 (.mv (.c (.bool false)))]) .ret) .skip)
def qq5:XCode:=(R0 [F0 67 0 3,L0 68 67,M0 69 11,I0 70 5 68 69,F0 71 0 70,L0 72 71,M0 9 72])
def qrl:XCode:=(Cd 66 qq5)
def qrr:XCode:=(Sq (R0 [F0 59 0 3,L0 60 59,M0 61 11,I0 62 5 60 61,F0 63 0 62,L0 64 63,M0 65 9,Y0 66 .gtr 64 65]) qrl)
def q7i:XCode:=(Sq (Sq (R1 [F4 44 0 3,L4 45 44,M4 46 1,I4 47 5 45 46,F4 48 2 47,L4 49 48,F4 50 0 3,L4 51 50,M4 52 11,I4 53 5 51 52,F4 54 2 53,L4 55 54,⟨some 56,.call (.c (.fn 97 [])) [.t 49,.t 55],none,3⟩,P4 57 (.un .not (.t 56))]) qr5) qrr)
def q4x:XCode:=(Sq (R0 [I0 42 1 38 40,L0 43 42,M0 11 43]) q7i)
def ze6:XCode:=(.block 0 (.loop [1,3,6,8,9,38,39,40] (Sq (R0 [Y0 41 .lss 40 39]) (Sq (.cond (.t 41) .skip (.exit 0)) (Sq (.block 1 q4x) (R0 [P0 73 (.bin .add (.t 40) (Ca 1)),M0 40 73]))))))
def q8b:XCode:=ze6
def qta:XCode:=(.cond (.t 75) (Sq (R0 [K0 76 2 3,S0 2 6 76,P0 7 (.mv (.c (.bool false)))]) .ret) .skip)
def qy4:XCode:=(R1 [F4 98 0 3,L4 99 98,M4 100 13,F4 101 0 3,L4 102 101,N4 103 102,P4 104 (.mkS 3 1 8 [.int .i64 0] (.t 103) (.t 103)),I4 105 5 99 100,F4 106 4 105,S3 1 106 104])
def qv3:XCode:=(Sq (R0 [F0 90 0 3,L0 91 90,M0 92 13,M0 93 13,M0 94 1,Y0 95 .eql 93 94,I0 96 5 91 92,F0 97 1 96,S0 1 97 95]) qy4)
def q0a:XCode:=(Sq (R0 [F0 83 0 3,L0 84 83,M0 85 13,M0 86 9,P0 87 (.bin .add (.t 86) (Ca 1)),I0 88 5 84 85,F0 89 0 88,S0 1 89 87]) qv3)
def qz3:XCode:=(Sq (R0 [I0 81 1 77 79,L0 82 81,M0 13 82]) q0a)
def zcr:XCode:=(.block 2 (.loop [1,3,6,9,77,78,79] (Sq (R0 [Y0 80 .lss 79 78]) (Sq (.cond (.t 80) .skip (.exit 2)) (Sq (.block 3 qz3) (R0 [P0 107 (.bin .add (.t 79) (Ca 1)),M0 79 107]))))))
def qzb:XCode:=zcr
def qyi:XCode:=(Sq (R1 [F4 108 0 3,L4 109 108,M4 110 1,I4 111 5 109 110,F4 112 4 111,L4 113 112,M4 114 1,F4 115 0 3,L4 116 115,M4 117 1,I4 118 5 116 117,F4 119 2 118,L4 120 119,N4 121 120,I4 122 1 113 114,S3 1 122 121]) (Sq (R0 [K0 123 2 3,S0 2 6 123,P0 7 (.mv (.c (.bool true)))]) .ret))
def qxj:XCode:=(Sq (Sq (R0 [M0 77 8,N0 78 77,P0 79 (.mv (Ca 0))]) qzb) qyi)
def qs4:XCode:=(Sq (Sq (R0 [M0 74 9,P0 75 (.bin .eql (.t 74) (Ca 100))]) qta) qxj)
def qtj:XCode:=(Sq (Sq (R0 [M0 38 8,N0 39 38,P0 40 (.mv (Ca 0))]) q8b) qs4)
def qxz:XCode:=(Sq (R0 [P0 9 (.mv (Ca 0))]) qtj)
def qvc:XCode:=(Sq (Sq (R0 [M0 16 8,F0 17 0 3,L0 18 17,N0 19 18,P0 20 (.call (.c (.fn 95 [])) [.t 16,.t 19]),P0 21 (.un .not (.t 20)),M0 22 21,G2 23 (Ma 8) 22,G2 24 (Ma 1) 22,G2 25 (.call (.c (.fn 96 [])) [.t 23,.t 24]) 22,G2 26 (.un .not (.t 25)) 22,P0 27 (.pick (.t 22) (.c (.bool true)) (.t 26)),M0 28 27,G2 29 (Ma 8) 28,G2 30 (Na 29) 28,G2 31 (.bin .mul (Ca 2) (.t 30)) 28,G2 32 (Fa 0 3) 28,G2 33 (La 32) 28,G2 34 (Na 33) 28,G2 35 (Ya .leq 31 34) 28,P0 36 (.pick (.t 28) (.c (.bool true)) (.t 35))]) q4u) qxz)
def qs2:XCode:=(Sq (R0 [M0 14 2,P0 15 (.call (.c (.fn 94 [])) [.t 14]),M0 8 15]) qvc)
def x77:XFn:=⟨(Sq (Sq (R0 [P0 3 (.box 29 2 (.t 0)),P0 6 (.new 29 [.nil,.nil]),P0 7 (.mv (.c (.bool false)))]) (.frz [3])) qs2),124,[(.cell 6 (some 2)),.t 7]⟩
theorem zgm:FnOk Try.prog T 77 x77:=⟨Try.f77,[.frz [3],.loop [1,3,6,8,9,38,39,40],.draw [0,1,2,3,4,5,6,7,8,9,10,11,12,13] [4,4,4,4,4,4,4,4,4,4,4,4,3,4],.loop [1,3,6,9,77,78,79],.draw [0,1,2,3,4,5,6,7,8,9] [4,4,4,4,4,4,4,4,4,3],.draw [0,1,2,3,4,5,6,7,8,9,10,11,12,13,14,15] [4,4,4,4,4,4,4,4,4,4,4,4,4,4,4,3]],Try.func77,by decide +kernel,by kernel_rfl⟩
def q3t:XCode:=(.cond (.t 44) (Sq (R0 [K0 45 2 2,S0 2 4 45,P0 5 (.mv (.c (.bool false)))]) .ret) .skip)
def q69:XCode:=(R0 [F0 60 2 6,L0 61 60,F0 62 3 3,L0 63 62,P0 64 (.bin .sub (.t 63) (Ca 1)),I0 65 2 61 64,F0 66 0 65,L0 67 66,F0 68 5 7,S0 1 68 67])
def q7f:XCode:=(Cd 59 q69)
def q4o:XCode:=(R0 [F0 75 2 6,L0 76 75,F0 77 3 3,L0 78 77,I0 79 2 76 78,K0 80 2 79,P0 81 (.buildS 65 1 [.int .i64 0,.int .i64 0] [(0,(2,(.t 80)))]),F0 82 6 7,S0 1 82 81])
def q8t:XCode:=(Cd 74 q4o)
def q8w:XCode:=(Sq (R0 [F0 83 1 2,L0 84 83,K0 85 9 7,P0 86 (.buildS 86 1 [.bool false,.int .i64 0,.int .i64 0,.int .i64 0,.int .i64 0,.int .i64 0,.nil,.int .i64 0,.int .i64 0] [(0,(9,(.t 85)))]),P0 87 (.app 86 9 88 (.t 84) (.t 86)),F0 88 1 2,S0 1 88 87]) (Sq (R0 [K0 89 2 2,S0 2 4 89,P0 5 (.mv (.c (.bool true)))]) .ret))
def q3j:XCode:=(Sq (Sq (R0 [F0 69 3 3,L0 70 69,F0 71 2 6,L0 72 71,N0 73 72,Y0 74 .lss 70 73]) q8t) q8w)
def q21:XCode:=(Sq (Sq (R0 [F0 57 3 3,L0 58 57,P0 59 (.bin .gtr (.t 58) (Ca 0))]) q7f) q3j)
def q3q:XCode:=(Sq (R0 [F0 46 1 3,L0 47 46,F0 48 2 3,L0 49 48,F0 50 0 6,L0 51 50,F0 52 3 3,L0 53 52,F0 54 3 6,L0 55 54,P0 56 (.build [.bool false,.int .i64 0,.int .i64 0,.int .i64 0,.int .i64 0,.int .i64 0,.nil,.int .i64 0,.int .i64 0] [(1,(1,(.t 47))),(2,(1,(.t 49))),(3,(1,(.t 51))),(4,(1,(.t 53))),(5,(1,(.c (.int .i64 (-1))))),(7,(1,(.t 55)))]),P0 7 (.new 86 [.bool false,.int .i64 0,.int .i64 0,.int .i64 0,.int .i64 0,.int .i64 0,.nil,.int .i64 0,.int .i64 0]),S0 9 7 56]) q21)
def q0b:XCode:=(Sq (Sq (R0 [K0 14 2 2,F0 15 2 3,L0 16 15,P0 17 (.call (.c (.fn 64 [])) [.t 14,.t 16]),P0 18 (.un .not (.t 17)),M0 19 18,G2 20 (Fa 2 3) 19,G2 21 (La 20) 19,G2 22 (Fa 1 3) 19,G2 23 (La 22) 19,G2 24 (Ya .eql 21 23) 19,P0 25 (.pick (.t 19) (.c (.bool true)) (.t 24)),M0 26 25,G2 27 (Fa 3 3) 26,G2 28 (La 27) 26,G2 29 (.bin .lss (.t 28) (Ca 0)) 26,P0 30 (.pick (.t 26) (.c (.bool true)) (.t 29)),M0 31 30,G2 32 (Fa 3 3) 31,G2 33 (La 32) 31,G2 34 (Fa 2 6) 31,G2 35 (La 34) 31,G2 36 (Na 35) 31,G2 37 (Ya .gtr 33 36) 31,P0 38 (.pick (.t 31) (.c (.bool true)) (.t 37)),M0 39 38,G2 40 (Fa 1 2) 39,G2 41 (La 40) 39,G2 42 (Na 41) 39,G2 43 (.bin .eql (.t 42) (Ca 20)) 39,P0 44 (.pick (.t 39) (.c (.bool true)) (.t 43))]) q3t) q3q)
def qvl:XCode:=(Sq (Sq (R0 [F0 8 0 2,L0 9 8,F0 10 1 3,L0 11 10,I0 12 5 9 11,K0 13 5 12,P0 6 (.new 43 [.int .i64 0,.bool false,.nil,.int .i64 0,.nil]),S0 5 6 13]) (.frz [6])) q0b)
def x78:XFn:=⟨(Sq (Sq (R0 [P0 2 (.box 29 2 (.t 0)),P0 3 (.box 57 4 (.t 1)),P0 4 (.new 29 [.nil,.nil]),P0 5 (.mv (.c (.bool false)))]) (.frz [3])) qvl),90,[(.cell 4 (some 2)),.t 5]⟩
theorem zgv:FnOk Try.prog T 78 x78:=⟨Try.f78,[.frz [3],.frz [6]],Try.func78,by decide +kernel,by kernel_rfl⟩
def q7g:XCode:=(.cond (.t 39) (Sq (R0 [K0 40 2 3,S0 2 6 40,P0 7 (.mv (.c (.bool false)))]) .ret) .skip)
def q3d:XCode:=(.cond (.t 50) (R0 [M0 51 9,P0 52 (.bin .add (.t 51) (Ca 1)),M0 9 52]) .skip)
def q5s:XCode:=(Sq (R0 [M0 48 11,M0 49 2,Y0 50 .geq 48 49]) q3d)
def q3l:XCode:=(Sq (R0 [I0 46 1 42 44,L0 47 46,M0 11 47]) q5s)
def zei:XCode:=(.block 0 (.loop [1,2,3,6,9,42,43,44] (Sq (R0 [Y0 45 .lss 44 43]) (Sq (.cond (.t 45) .skip (.exit 0)) (Sq (.block 1 q3l) (R0 [P0 53 (.bin .add (.t 44) (Ca 1)),M0 44 53]))))))
def q5c:XCode:=zei
def q86:XCode:=(.cond (.t 59) (Sq (R0 [K0 60 2 3,S0 2 6 60,P0 7 (.mv (.c (.bool false)))]) .ret) .skip)
def q89:XCode:=(Sq (R0 [F0 61 0 3,L0 62 61,M0 63 1,M0 64 2,I0 65 5 62 63,F0 66 3 65,S0 1 66 64]) (Sq (R0 [K0 67 2 3,S0 2 6 67,P0 7 (.mv (.c (.bool true)))]) .ret))
def q51:XCode:=(Sq (Sq (R0 [M0 54 9,P0 55 (.bin .mul (Ca 2) (.t 54)),F0 56 0 3,L0 57 56,N0 58 57,Y0 59 .leq 55 58]) q86) q89)
def qym:XCode:=(Sq (Sq (R0 [F0 41 4 8,L0 42 41,N0 43 42,P0 44 (.mv (Ca 0))]) q5c) q51)
def q0e:XCode:=(Sq (R0 [P0 9 (.mv (Ca 0))]) qym)
def qz0:XCode:=(Sq (Sq (R1 [M4 17 2,F4 18 3 8,L4 19 18,Y4 20 .leq 17 19,M4 21 20,G6 22 (Ma 2) 21,G6 23 (Fa 2 8) 21,G6 24 (La 23) 21,G6 25 (Na 24) 21,G6 26 (Ya .gtr 22 25) 21,P4 27 (.pick (.t 21) (.c (.bool true)) (.t 26)),M4 28 27,G6 29 (Fa 2 8) 28,G6 30 (La 29) 28,G6 31 (Ma 2) 28,G6 32 (.bin .sub (.t 31) (Ca 1)) 28,G6 33 (Ia 2 30 32) 28,G6 34 (Fa 0 33) 28,G6 35 (La 34) 28,G6 36 (Fa 0 8) 28,G6 37 (La 36) 28,G6 38 (Ya .neq 35 37) 28,P4 39 (.pick (.t 28) (.c (.bool true)) (.t 38))]) q7g) q0e)
def qy2:XCode:=(Sq (Sq (R0 [F0 12 0 3,L0 13 12,M0 14 1,I0 15 5 13 14,K0 16 5 15,P0 8 (.new 43 [.int .i64 0,.bool false,.nil,.int .i64 0,.nil]),S0 5 8 16]) (.frz [8])) qz0)
def x79:XFn:=⟨(Sq (Sq (R0 [P0 3 (.box 29 2 (.t 0)),P0 6 (.new 29 [.nil,.nil]),P0 7 (.mv (.c (.bool false)))]) (.frz [3])) qy2),68,[(.cell 6 (some 2)),.t 7]⟩
theorem zgq:FnOk Try.prog T 79 x79:=⟨Try.f79,[.frz [3],.frz [8],.draw [0,1,2,3,4,5,6,7,8,9,10,11,12,13,14,15,16,17,18,19,20,21,22] [4,4,4,4,4,4,4,4,4,4,4,4,4,4,4,4,4,4,4,4,4,4,4],.loop [1,2,3,6,9,42,43,44]],Try.func79,by decide +kernel,by kernel_rfl⟩
def q22:XCode:=(.cond (.t 31) (Sq (R0 [K0 32 2 2,S0 2 4 32,P0 5 (.mv (.c (.bool false)))]) .ret) .skip)
def q9v:XCode:=(.cond (.t 45) (Sq (R0 [K0 46 2 2,S0 2 4 46,P0 5 (.mv (.c (.bool false)))]) .ret) .skip)
def q7o:XCode:=(Sq (R0 [F0 47 1 2,L0 48 47,K0 49 9 6,P0 50 (.buildS 86 1 [.bool false,.int .i64 0,.int .i64 0,.int .i64 0,.int .i64 0,.int .i64 0,.nil,.int .i64 0,.int .i64 0] [(0,(9,(.t 49)))]),P0 51 (.app 86 9 88 (.t 48) (.t 50)),F0 52 1 2,S0 1 52 51]) (Sq (R0 [K0 53 2 2,S0 2 4 53,P0 5 (.mv (.c (.bool true)))]) .ret))
def q75:XCode:=(Sq (Sq (R0 [F0 42 1 2,L0 43 42,N0 44 43,P0 45 (.bin .eql (.t 44) (Ca 20))]) q9v) q7o)
def q8y:XCode:=(Cd 41 q75)
def q5h:XCode:=(R0 [K0 72 2 2,K0 73 9 6,P0 74 (.call (.c (.fn 76 [])) [.t 72,.t 73]),S0 2 2 74])
def q9l:XCode:=(Cd 71 q5h)
def q4p:XCode:=(Sq (Sq (R0 [F0 69 0 3,L0 70 69,P0 71 (.bin .eql (.t 70) (Ca 4))]) q9l) (Sq (R0 [K0 75 2 2,S0 2 4 75,P0 5 (.mv (.c (.bool true)))]) .ret))
def q43:XCode:=(Sq (R1 [P4 54 (.buildS 86 0 [] []),F4 55 1 2,L4 56 55,F4 57 1 3,L4 58 57,P4 59 (.slc 86 9 (.t 56) none (some (.t 58)) none),⟨some 60,.app 86 9 88 (.t 54) (.t 59),none,2⟩,⟨some 61,.fa 1 (.t 2),none,1⟩,⟨some 62,.ld none (.t 61),none,1⟩,⟨some 63,.fa 1 (.t 3),none,1⟩,⟨some 64,.ld none (.t 63),none,1⟩,⟨some 65,.bin .add (.t 64) (Ca 1),none,1⟩,⟨some 66,.slc 86 9 (.t 62) (some (.t 65)) none none,none,1⟩,⟨some 67,.app 86 9 88 (.t 60) (.t 66),none,3⟩,F4 68 1 2,S3 1 68 67]) q4p)
def qzw:XCode:=(Sq (Sq (R0 [F0 39 0 3,L0 40 39,P0 41 (.bin .eql (.t 40) (Ca 6))]) q8y) q43)
def qvn:XCode:=(Sq (Sq (R0 [F0 33 1 2,L0 34 33,F0 35 1 3,L0 36 35,I0 37 9 34 36,K0 38 9 37,P0 6 (.new 86 [.bool false,.int .i64 0,.int .i64 0,.int .i64 0,.int .i64 0,.int .i64 0,.nil,.int .i64 0,.int .i64 0]),S0 9 6 38]) (.frz [6])) qzw)
def qwt:XCode:=(Sq (Sq (R0 [F0 11 1 3,L0 12 11,P0 13 (.bin .lss (.t 12) (Ca 0)),M0 14 13,G2 15 (Fa 1 3) 14,G2 16 (La 15) 14,G2 17 (Fa 1 2) 14,G2 18 (La 17) 14,G2 19 (Na 18) 14,G2 20 (Ya .geq 16 19) 14,P0 21 (.pick (.t 14) (.c (.bool true)) (.t 20)),M0 22 21,G2 23 (Fa 2 3) 22,G2 24 (La 23) 22,G2 25 (.bin .neq (.t 24) (Ca 0)) 22,P0 26 (.pick (.t 22) (.c (.bool true)) (.t 25)),M0 27 26,G2 28 (Fa 3 3) 27,G2 29 (La 28) 27,G2 30 (.bin .neq (.t 29) (Ca 0)) 27,P0 31 (.pick (.t 27) (.c (.bool true)) (.t 30))]) q22) qvn)
def qyg:XCode:=(Cd 10 qwt)
def qu6:XCode:=(.cond (.t 90) (Sq (R0 [K0 91 2 2,S0 2 4 91,P0 5 (.mv (.c (.bool false)))]) .ret) .skip)
def qz4:XCode:=(Sq (R0 [K0 107 2 2,F0 108 1 3,L0 109 108,F0 110 3 3,L0 111 110,P0 112 (.call (.c (.fn 77 [])) [.t 107,.t 109,.t 111]),P0 113 (.ext (.t 112) 0),P0 114 (.ext (.t 112) 1),S0 2 4 113,M0 5 114]) .ret)
def qt3:XCode:=(Sq (R1 [F4 155 0 2,L4 156 155,F4 157 1 3,L4 158 157,I4 159 5 156 158,F4 160 4 159,L4 161 160,F4 162 1 3,L4 163 162,F4 164 0 2,L4 165 164,F4 166 1 3,L4 167 166,I4 168 5 165 167,F4 169 2 168,L4 170 169,N4 171 170,I4 172 1 161 163,S3 1 172 171]) (Sq (R0 [K0 173 2 2,S0 2 4 173,P0 5 (.mv (.c (.bool true)))]) .ret))
def qvx:XCode:=(Sq (R1 [⟨some 135,.fa 0 (.t 2),none,1⟩,⟨some 136,.ld none (.t 135),none,1⟩,⟨some 137,.fa 1 (.t 3),none,1⟩,⟨some 138,.ld none (.t 137),none,1⟩,F4 139 0 2,L4 140 139,F4 141 1 3,L4 142 141,I4 143 5 140 142,F4 144 2 143,L4 145 144,F4 146 0 7,L4 147 146,F4 148 3 3,L4 149 148,P4 150 (.build [.int .i64 0,.int .i64 0] [(0,(1,(.t 147))),(1,(1,(.t 149)))]),P4 151 (.buildS 65 1 [.int .i64 0,.int .i64 0] [(0,(2,(.t 150)))]),⟨some 152,.app 65 2 16 (.t 145) (.t 151),none,2⟩,I4 153 5 136 138,F4 154 2 153,S3 1 154 152]) qt3)
def qyt:XCode:=(Sq (R0 [K0 178 2 2,K0 179 4 3,P0 180 (.call (.c (.fn 78 [])) [.t 178,.t 179]),P0 181 (.ext (.t 180) 0),P0 182 (.ext (.t 180) 1),S0 2 4 181,M0 5 182]) .ret)
def qu2:XCode:=(Sq (R0 [K0 187 2 2,F0 188 1 3,L0 189 188,F0 190 3 3,L0 191 190,P0 192 (.call (.c (.fn 79 [])) [.t 187,.t 189,.t 191]),P0 193 (.ext (.t 192) 0),P0 194 (.ext (.t 192) 1),S0 2 4 193,M0 5 194]) .ret)
def q0f:XCode:=(Cd 183 qu2)
def qzk:XCode:=(Sq (R0 [F0 184 0 3,L0 185 184,P0 186 (.bin .eql (.t 185) (Ca 7)),M0 183 186]) q0f)
def qvq:XCode:=(.cond (.t 174) qyt qzk)
def qsw:XCode:=(Sq (R0 [F0 175 0 3,L0 176 175,P0 177 (.bin .eql (.t 176) (Ca 3)),M0 174 177]) qvq)
def qx8:XCode:=(.cond (.t 120) qvx qsw)
def qwa:XCode:=(Sq (R0 [F0 121 0 3,L0 122 121,P0 123 (.bin .eql (.t 122) (Ca 2)),M0 124 123,G1 125 (Fa 3 3) 124,G1 126 (La 125) 124,G1 127 (.call (.c (.fn 63 [])) [.t 126,(Ca 0),(Ca 99)]) 124,P0 128 (.pick (.t 124) (.t 127) (.c (.bool false))),M0 129 128,G1 130 (Fa 2 7) 129,G1 131 (La 130) 129,G1 132 (Na 131) 129,G1 133 (.bin .lss (.t 132) (Ca 30)) 129,P0 134 (.pick (.t 129) (.t 133) (.c (.bool false))),M0 120 134]) qx8)
def qzt:XCode:=(.cond (.t 115) (Sq (R0 [K0 119 2 2,S0 2 4 119,P0 5 (.mv (.c (.bool false)))]) .ret) qwa)
def qxq:XCode:=(Sq (R0 [F0 116 1 7,L0 117 116,P0 118 (.un .not (.t 117)),M0 115 118]) qzt)
def qtv:XCode:=(.cond (.t 98) qz4 qxq)
def qtq:XCode:=(Sq (R0 [F0 99 0 3,L0 100 99,P0 101 (.bin .eql (.t 100) (Ca 1)),M0 102 101,G1 103 (Fa 3 3) 102,G1 104 (La 103) 102,G1 105 (.call (.c (.fn 63 [])) [.t 104,(Ca 1),(Ca 31)]) 102,P0 106 (.pick (.t 102) (.t 105) (.c (.bool false))),M0 98 106]) qtv)
def qyf:XCode:=(Sq (.block 0 qtq) (Sq (R0 [K0 195 2 2,S0 2 4 195,P0 5 (.mv (.c (.bool false)))]) .ret))
def qyy:XCode:=(Sq (Sq (R0 [F0 92 0 2,L0 93 92,F0 94 1 3,L0 95 94,I0 96 5 93 95,K0 97 5 96,P0 7 (.new 43 [.int .i64 0,.bool false,.nil,.int .i64 0,.nil]),S0 5 7 97]) (.frz [7])) qyf)
def qsb:XCode:=(Sq (Sq (R0 [K0 76 2 2,F0 77 1 3,L0 78 77,P0 79 (.call (.c (.fn 64 [])) [.t 76,.t 78]),P0 80 (.un .not (.t 79)),M0 81 80,G2 82 (Fa 0 3) 81,G2 83 (La 82) 81,G2 84 (.bin .neq (.t 83) (Ca 3)) 81,G2 85 (Ma 84) 81,G1 86 (Fa 2 3) 85,G1 87 (La 86) 85,G1 88 (.bin .neq (.t 87) (Ca 0)) 85,G2 89 (.pick (.t 85) (.t 88) (.c (.bool false))) 81,P0 90 (.pick (.t 81) (.c (.bool true)) (.t 89))]) qu6) qyy)
def qzx:XCode:=(Sq (Sq (R0 [F0 8 0 3,L0 9 8,P0 10 (.call (.c (.fn 63 [])) [.t 9,(Ca 4),(Ca 6)])]) qyg) qsb)
def x47:XFn:=⟨(Sq (Sq (R0 [P0 2 (.box 29 2 (.t 0)),P0 3 (.box 57 4 (.t 1)),P0 4 (.new 29 [.nil,.nil]),P0 5 (.mv (.c (.bool false)))]) (.frz [3])) qzx),196,[(.cell 4 (some 2)),.t 5]⟩
theorem zgj:FnOk Try.prog T 47 x47:=⟨Try.f47,[.frz [3],.frz [],.frz [],.frz [],.frz [6],.draw [0,1,2,3,4,5,6,7,8,9,10,11,12,13,14,15] [4,4,4,4,4,4,2,1,1,1,1,1,1,3,4,3],.frz [],.frz [],.frz [],.frz [],.frz [],.frz [],.frz [7],.draw [0,1,2,3,4,5,6,7,8,9,10,11,12,13,14,15,16,17,18,19,20] [1,1,1,1,4,4,4,4,4,4,4,4,4,4,4,4,4,2,4,4,3],.draw [0,1,2,3,4,5,6,7,8,9,10,11,12,13,14,15,16,17,18] [4,4,4,4,4,4,4,4,4,4,4,4,4,4,4,4,4,4,3]],Try.func47,by decide +kernel,by kernel_rfl⟩
def q8h:XCode:=(R0 [F0 25 0 3,L0 26 25,K0 27 5 5,P0 28 (.buildS 43 1 [.int .i64 0,.bool false,.nil,.int .i64 0,.nil] [(0,(5,(.t 27)))]),P0 29 (.app 43 5 72 (.t 26) (.t 28)),F0 30 0 3,S0 1 30 29])
def q8c:XCode:=(Sq (R0 [P0 20 (.buildS 3 0 [] []),F0 21 4 5,L0 22 21,P0 23 (.app 3 1 8 (.t 20) (.t 22)),F0 24 4 5,S0 1 24 23]) q8h)
def q5d:XCode:=(Sq (R0 [P0 15 (.buildS 65 0 [] []),F0 16 2 5,L0 17 16,P0 18 (.app 65 2 16 (.t 15) (.t 17)),F0 19 2 5,S0 1 19 18]) q8c)
def q8i:XCode:=(Sq (R0 [I0 13 5 9 11,K0 14 5 13,P0 5 (.new 43 [.int .i64 0,.bool false,.nil,.int .i64 0,.nil]),S0 5 5 14]) q5d)
def zd7:XCode:=(.block 0 (.loop [1,2,3,9,10,11] (Sq (R0 [Y0 12 .lss 11 10]) (Sq (.cond (.t 12) .skip (.exit 0)) (Sq (.block 1 q8i) (R0 [P0 31 (.bin .add (.t 11) (Ca 1)),M0 11 31]))))))
def q41:XCode:=zd7
def q5i:XCode:=(R0 [F0 44 1 3,L0 45 44,K0 46 9 7,P0 47 (.buildS 86 1 [.bool false,.int .i64 0,.int .i64 0,.int .i64 0,.int .i64 0,.int .i64 0,.nil,.int .i64 0,.int .i64 0] [(0,(9,(.t 46)))]),P0 48 (.app 86 9 88 (.t 45) (.t 47)),F0 49 1 3,S0 1 49 48])
def q66:XCode:=(Sq (R0 [P0 39 (.buildS 65 0 [] []),F0 40 6 7,L0 41 40,P0 42 (.app 65 2 16 (.t 39) (.t 41)),F0 43 6 7,S0 1 43 42]) q5i)
def q3f:XCode:=(Sq (R0 [I0 37 9 33 35,K0 38 9 37,P0 7 (.new 86 [.bool false,.int .i64 0,.int .i64 0,.int .i64 0,.int .i64 0,.int .i64 0,.nil,.int .i64 0,.int .i64 0]),S0 9 7 38]) q66)
def zcm:XCode:=(.block 2 (.loop [2,3,33,34,35] (Sq (R0 [Y0 36 .lss 35 34]) (Sq (.cond (.t 36) .skip (.exit 2)) (Sq (.block 3 q3f) (R0 [P0 50 (.bin .add (.t 35) (Ca 1)),M0 35 50]))))))
def qvw:XCode:=zcm
def qy6:XCode:=(Sq (Sq (R0 [F0 32 1 1,L0 33 32,N0 34 33,P0 35 (.mv (Ca 0))]) qvw) (Sq (R0 [K0 51 2 3,S0 2 2 51]) .ret))
def qw2:XCode:=(Sq (Sq (R0 [F0 8 0 1,L0 9 8,N0 10 9,P0 11 (.mv (Ca 0))]) q41) qy6)
def qwq:XCode:=(Sq (R0 [P0 3 (.new 29 [.nil,.nil])]) qw2)
def x48:XFn:=⟨(Sq (Sq (R0 [P0 1 (.box 29 2 (.t 0)),P0 2 (.new 29 [.nil,.nil])]) (.frz [1])) qwq),52,[(.cell 2 (some 2))]⟩
theorem zfv:FnOk Try.prog T 48 x48:=⟨Try.f48,[.frz [1],.loop [1,2,3,9,10,11],.loop [2,3,33,34,35]],Try.func48,by decide +kernel,by kernel_rfl⟩
def q4m:XCode:=(Sq (R0 [M0 5 0,M0 6 1,P0 7 (.call (.c (.fn 42 [])) [.t 5,.t 6]),P0 8 (.bin .eql (.t 7) (Ca 0)),M0 4 8]) .ret)
def x67:XFn:=⟨(Sq (R0 [P0 4 (.mv (.c (.bool false)))]) q4m),9,[.t 4]⟩
theorem zgf:FnOk Try.prog T 67 x67:=⟨Try.f67,[],Try.func67,by decide +kernel,by kernel_rfl⟩
def q5a:XCode:=(Sq (R0 [M0 5 1,M0 6 0,M0 7 1,N0 8 7,P0 9 (.call (.c (.fn 42 [])) [.t 6,.t 8]),I0 10 1 5 9,L0 11 10,M0 4 11]) .ret)
def x70:XFn:=⟨(Sq (R0 [P0 4 (.mv (Ca 0))]) q5a),12,[.t 4]⟩
theorem zfk:FnOk Try.prog T 70 x70:=⟨Try.f70,[],Try.func70,by decide +kernel,by kernel_rfl⟩
def q87:XCode:=(R0 [M0 17 0,P0 18 (.call (.c (.fn 42 [])) [.t 17,(Ca 12)]),P0 19 (.bin .add (Ca 90) (.t 18)),M0 6 19])
def q9y:XCode:=(Cd 16 q87)
def q7b:XCode:=(.cond (.t 39) (R0 [F0 40 0 9,⟨none,.st 1 (.t 40) (Ca 1),none,0⟩]) .skip)
def q3z:XCode:=(R1 [⟨some 102,.fa 1 (.t 9),none,1⟩,⟨some 103,.ld none (.t 102),none,1⟩,⟨some 104,.cvt .u64 (.t 103),none,1⟩,⟨some 105,.bin .shl (Ca 1) (.t 104),none,1⟩,M4 106 0,M4 107 1,P4 108 (.cvt .u64 (.t 107)),P4 109 (.bin .shl (Ca 1) (.t 108)),⟨some 110,.call (.c (.fn 42 [])) [.t 106,.t 109],none,2⟩,Y4 111 .or 105 110,F4 112 3 9,S3 1 112 111])
def q3k:XCode:=(Sq (R0 [M0 98 0,M0 99 1,P0 100 (.call (.c (.fn 42 [])) [.t 98,.t 99]),F0 101 1 9,S0 1 101 100]) q3z)
def q4e:XCode:=(.cond (.t 113) .skip (R0 [P0 116 (.bin .eql (.t 42) (Ca 6)),M0 113 116]))
def q4k:XCode:=(Sq (R0 [P0 115 (.bin .eql (.t 42) (Ca 5)),M0 113 115]) q4e)
def q30:XCode:=(.cond (.t 113) .skip q4k)
def q37:XCode:=(R0 [M0 117 0,P0 118 (.call (.c (.fn 42 [])) [.t 117,(Ca 4)]),F0 119 1 9,S0 1 119 118])
def qup:XCode:=(R0 [F0 65 1 9,L0 66 65,P0 67 (.bin .add (.t 66) (Ca 1)),M0 68 1,Y0 69 .rem 67 68,F0 70 1 9,S0 1 70 69])
def qwk:XCode:=(Sq (.block 4 qup) (R0 [M0 63 10,P0 64 (.bin .add (.t 63) (Ca 1)),M0 10 64]))
def qzy:XCode:=(Sq (Sq (R0 [M0 47 8,M0 48 47,G1 49 (Ma 10) 48,G1 50 (Ma 1) 48,G1 51 (Ya .lss 49 50) 48,P0 52 (.pick (.t 48) (.t 51) (.c (.bool false))),M0 53 52,G1 54 (Fa 0 7) 53,G1 55 (La 54) 53,G1 56 (Fa 1 9) 53,G1 57 (La 56) 53,G1 58 (Ia 5 55 57) 53,G1 59 (Fa 1 58) 53,G1 60 (La 59) 53,G1 61 (.un .not (.t 60)) 53,P0 62 (.pick (.t 53) (.t 61) (.c (.bool false)))]) (.cond (.t 62) .skip (.exit 3))) qwk)
def zbr:XCode:=(.block 3 (.loop [0,1,5,6,7,8,9,10] qzy))
def quw:XCode:=zbr
def qxr:XCode:=(R0 [M0 84 0,F0 85 0 7,L0 86 85,F0 87 1 9,L0 88 87,I0 89 5 86 88,F0 90 2 89,L0 91 90,N0 92 91,P0 93 (.bin .add (.t 92) (Ca 1)),P0 94 (.call (.c (.fn 42 [])) [.t 84,.t 93]),F0 95 3 9,S0 1 95 94])
def qy8:XCode:=(Sq (R0 [M0 80 0,M0 81 1,P0 82 (.call (.c (.fn 42 [])) [.t 80,.t 81]),F0 83 2 9,S0 1 83 82]) qxr)
def qtu:XCode:=(Cd 79 qy8)
def qzd:XCode:=(Sq (R0 [M0 74 8,M0 75 74,G1 76 (Fa 0 9) 75,G1 77 (La 76) 75,G1 78 (.bin .eql (.t 77) (Ca 3)) 75,P0 79 (.pick (.t 75) (.t 78) (.c (.bool false)))]) qtu)
def qwz:XCode:=(Sq (R0 [M0 71 0,P0 72 (.call (.c (.fn 42 [])) [.t 71,(Ca 6)]),F0 73 3 9,S0 1 73 72]) qzd)
def qv7:XCode:=(Sq (Sq (R0 [P0 10 (.mv (Ca 0))]) quw) qwz)
def qst:XCode:=(Sq (R0 [M0 43 0,M0 44 1,P0 45 (.call (.c (.fn 42 [])) [.t 43,.t 44]),F0 46 1 9,S0 1 46 45]) qv7)
def qug:XCode:=(.cond (.t 113) q37 qst)
def qu8:XCode:=(Sq (Sq (R0 [P0 114 (.bin .eql (.t 42) (Ca 4)),M0 113 114]) q30) qug)
def qyp:XCode:=(.cond (.t 96) q3k qu8)
def qwu:XCode:=(Sq (R0 [P0 97 (.bin .eql (.t 42) (Ca 1)),M0 96 97]) qyp)
def qxh:XCode:=(.block 2 qwu)
def qu1:XCode:=(.cond (.t 128) (R0 [K0 129 2 11,S0 2 7 129]) .skip)
def qw0:XCode:=(Sq (R0 [M0 128 12]) qu1)
def qtf:XCode:=(Sq (Sq (R1 [⟨some 11,.new 29 [.nil,.nil],none,1⟩,K4 122 2 7,⟨some 123,.call (.c (.fn 48 [])) [.t 122],none,2⟩,⟨some 124,.ld (some 4) (.t 9),none,1⟩,⟨some 125,.call (.c (.fn 47 [])) [.t 123,.t 124],none,3⟩,M4 121 125,P4 126 (.ext (.t 121) 0),⟨some 127,.ext (.t 121) 1,none,1⟩,S3 2 11 126,M4 12 127]) (.frz [11])) qw0)
def qyz:XCode:=(Cd 120 qtf)
def qvf:XCode:=(R0 [M0 130 5,K0 131 4 9,P0 132 (.buildS 57 1 [.int .i64 0,.int .i64 0,.int .i64 0,.int .i64 0] [(0,(4,(.t 131)))]),P0 133 (.app 57 4 32 (.t 130) (.t 132)),M0 5 133])
def qum:XCode:=(Sq (Sq (R0 [M0 120 8]) qyz) qvf)
def qzf:XCode:=(Sq (Sq (R0 [F0 41 0 9,L0 42 41]) qxh) qum)
def qyd:XCode:=(Sq (Sq (R0 [M0 33 5,N0 34 33,P0 35 (.bin .eql (.t 34) (Ca 0)),M0 36 35,G2 37 (Ma 0) 36,G2 38 (.call (.c (.fn 67 [])) [.t 37,(Ca 12)]) 36,P0 39 (.pick (.t 36) (.c (.bool true)) (.t 38))]) q7b) qzf)
def qts:XCode:=(Sq (R0 [M0 29 0,P0 30 (.buildS 3 15 [.int .i64 0,.int .i64 0,.int .i64 0,.int .i64 0,.int .i64 0,.int .i64 0,.int .i64 0,.int .i64 0,.int .i64 0,.int .i64 0,.int .i64 0,.int .i64 0,.int .i64 0,.int .i64 0,.int .i64 0] [(0,(1,(Ca 2))),(1,(1,(Ca 2))),(2,(1,(Ca 3))),(3,(1,(Ca 3))),(4,(1,(Ca 3))),(5,(1,(Ca 4))),(6,(1,(Ca 4))),(7,(1,(Ca 4))),(8,(1,(Ca 4))),(9,(1,(Ca 4))),(10,(1,(Ca 4))),(11,(1,(Ca 5))),(12,(1,(Ca 6))),(13,(1,(Ca 7))),(14,(1,(Ca 7)))]),P0 31 (.call (.c (.fn 70 [])) [.t 29,.t 30]),P0 32 (.build [.int .i64 0,.int .i64 0,.int .i64 0,.int .i64 0] [(0,(1,(.t 31)))]),P0 9 (.new 57 [.int .i64 0,.int .i64 0,.int .i64 0,.int .i64 0]),S0 4 9 32]) qyd)
def que:XCode:=(Sq (.block 1 qts) (R0 [M0 27 6,P0 28 (.bin .sub (.t 27) (Ca 1)),M0 6 28]))
def qsq:XCode:=(Sq (Sq (R0 [M0 25 6,P0 26 (.bin .gtr (.t 25) (Ca 0))]) (.cond (.t 26) .skip (.exit 0))) que)
def qtm:XCode:=(.block 0 (.loop [0,1,5,6,7,8] qsq))
def qti:XCode:=(R0 [M0 141 5,M0 142 0,M0 143 5,N0 144 143,P0 145 (.call (.c (.fn 42 [])) [.t 142,.t 144]),M0 146 0,P0 147 (.call (.c (.fn 42 [])) [.t 146,(Ca 9)]),M0 148 0,P0 149 (.call (.c (.fn 42 [])) [.t 148,(Ca 7)]),P0 150 (.bin .sub (.t 149) (Ca 1)),M0 151 0,P0 152 (.call (.c (.fn 42 [])) [.t 151,(Ca 3)]),M0 153 0,P0 154 (.call (.c (.fn 42 [])) [.t 153,(Ca 40)]),P0 155 (.bin .sub (.t 154) (Ca 2)),P0 156 (.build [.int .i64 0,.int .i64 0,.int .i64 0,.int .i64 0] [(0,(1,(.t 147))),(1,(1,(.t 150))),(2,(1,(.t 152))),(3,(1,(.t 155)))]),I0 157 4 141 145,S0 4 157 156])
def qu9:XCode:=(Cd 140 qti)
def qsm:XCode:=(Sq (Sq (R0 [M0 134 5,N0 135 134,P0 136 (.bin .gtr (.t 135) (Ca 0)),M0 137 136,G1 138 (Ma 0) 137,G1 139 (.call (.c (.fn 67 [])) [.t 138,(Ca 12)]) 137,P0 140 (.pick (.t 137) (.t 139) (.c (.bool false)))]) qu9) (Sq (R0 [M0 158 5,M0 4 158]) .ret))
def qs9:XCode:=(Sq qtm qsm)
def qsy:XCode:=(Sq (R0 [M0 21 1,P0 22 (.call (.c (.fn 40 [])) [.t 21]),M0 20 22,P0 23 (.ext (.t 20) 0),P0 24 (.ext (.t 20) 1),P0 7 (.new 29 [.nil,.nil]),S0 2 7 23,M0 8 24]) qs9)
def qx4:XCode:=(Sq (Sq (R0 [M0 15 0,P0 16 (.call (.c (.fn 67 [])) [.t 15,(Ca 8)])]) q9y) qsy)
def qy7:XCode:=(Sq (R0 [M0 13 0,P0 14 (.call (.c (.fn 42 [])) [.t 13,(Ca 50)]),M0 6 14]) qx4)
def qvm:XCode:=(Sq (R0 [P0 5 (.mv (.c .nil))]) qy7)
def x43:XFn:=⟨(Sq (R0 [P0 4 (.mv (.c .nil))]) qvm),159,[.t 4]⟩
theorem zgi:FnOk Try.prog T 43 x43:=⟨Try.f43,[.loop [0,1,5,6,7,8],.draw [0,1,2,3,4,5,6,7,8,9,10,11] [1,1,1,1,4,4,4,4,2,4,4,3],.loop [0,1,5,6,7,8,9,10],.draw [7,0,1,2,3,4,5,6,8,9] [1,4,2,1,3,4,4,1,3,4],.frz [11]],Try.func43,by decide +kernel,by kernel_rfl⟩
def zbx:XCode:=(Sq (R0 [M0 12 5,M0 13 4,M0 14 5,P0 15 (.call (.c (.fn 43 [])) [.t 13,.t 14]),M0 2 12,M0 3 15]) .ret)
def zca:XCode:=(Sq (R0 [M0 9 4,P0 10 (.call (.c (.fn 42 [])) [.t 9,(Ca 5)]),P0 11 (.bin .add (Ca 1) (.t 10)),M0 5 11]) zbx)
def zcp:XCode:=(Sq (R0 [M0 6 0,P0 7 (.build [.nil,.int .i64 0,.int .u64 0] [(0,(1,(.t 6)))]),P0 8 (.box 78 3 (.t 7)),M0 4 8]) zca)
def x6:XFn:=⟨(Sq (R0 [P0 2 (.mv (Ca 0)),P0 3 (.mv (.c .nil))]) zcp),16,[.t 2,.t 3]⟩
theorem ok6:FnOk Try.prog T 6 x6:=⟨Try.f6,[],Try.func6,by decide +kernel,by kernel_rfl⟩
def q5z:XCode:=(Sq (R0 [M0 7 0,M0 8 1,Y0 9 .geq 7 8,M0 10 9,G1 11 (Ma 0) 10,G1 12 (Ma 2) 10,G1 13 (Ya .leq 11 12) 10,P0 14 (.pick (.t 10) (.t 13) (.c (.bool false))),M0 6 14]) .ret)
def x44:XFn:=⟨(Sq (R0 [P0 6 (.mv (.c (.bool false)))]) q5z),15,[.t 6]⟩
theorem zg0:FnOk Try.prog T 44 x44:=⟨Try.f44,[],Try.func44,by decide +kernel,by kernel_rfl⟩
def q74:XCode:=(R1 [F4 8 0 3,L4 9 8,M4 10 0,P4 11 (.mkS 3 1 8 [.int .i64 0] (.t 10) (.t 10)),P4 12 (.build [.int .i64 0,.bool false,.nil,.int .i64 0,.nil] [(4,(1,(.t 11)))]),P4 13 (.buildS 43 1 [.int .i64 0,.bool false,.nil,.int .i64 0,.nil] [(0,(5,(.t 12)))]),⟨some 14,.app 43 5 72 (.t 9) (.t 13),none,3⟩,F4 15 0 3,S3 1 15 14])
def zeh:XCode:=(.block 0 (.loop [0,2,3,5,6] (Sq (R0 [Y0 7 .lss 6 5]) (Sq (.cond (.t 7) .skip (.exit 0)) (Sq (.block 1 q74) (R0 [P0 16 (.bin .add (.t 6) (Ca 1)),M0 6 16]))))))
def q7n:XCode:=zeh
def q8k:XCode:=(Sq (Sq (R0 [M0 5 0,P0 6 (.mv (Ca 0))]) q7n) (Sq (R0 [K0 17 2 3,S0 2 2 17]) .ret))
def q9c:XCode:=(Sq (R0 [P0 4 (.build [.nil,.nil] []),P0 3 (.new 29 [.nil,.nil]),S0 2 3 4]) q8k)
def x45:XFn:=⟨(Sq (R0 [P0 2 (.new 29 [.nil,.nil])]) q9c),18,[(.cell 2 (some 2))]⟩
theorem zf6:FnOk Try.prog T 45 x45:=⟨Try.f45,[.loop [0,2,3,5,6],.draw [0,1,2,3,4,5,6,7,8] [4,4,4,4,4,4,3,4,3]],Try.func45,by decide +kernel,by kernel_rfl⟩
def q8n:XCode:=(R0 [F0 26 0 3,L0 27 26,K0 28 5 5,P0 29 (.buildS 43 1 [.int .i64 0,.bool false,.nil,.int .i64 0,.nil] [(0,(5,(.t 28)))]),P0 30 (.app 43 5 72 (.t 27) (.t 29)),F0 31 0 3,S0 1 31 30])
def q6g:XCode:=(Sq (R0 [P0 21 (.buildS 3 0 [] []),F0 22 4 5,L0 23 22,P0 24 (.app 3 1 8 (.t 21) (.t 23)),F0 25 4 5,S0 1 25 24]) q8n)
def q7r:XCode:=(Sq (R0 [P0 16 (.buildS 65 0 [] []),F0 17 2 5,L0 18 17,P0 19 (.app 65 2 16 (.t 16) (.t 18)),F0 20 2 5,S0 1 20 19]) q6g)
def q47:XCode:=(Sq (R0 [I0 14 5 10 12,K0 15 5 14,P0 5 (.new 43 [.int .i64 0,.bool false,.nil,.int .i64 0,.nil]),S0 5 5 15]) q7r)
def zeg:XCode:=(.block 0 (.loop [1,2,3,10,11,12] (Sq (R0 [Y0 13 .lss 12 11]) (Sq (.cond (.t 13) .skip (.exit 0)) (Sq (.block 1 q47) (R0 [P0 32 (.bin .add (.t 12) (Ca 1)),M0 12 32]))))))
def q9g:XCode:=zeg
def q9d:XCode:=(R0 [F0 45 1 3,L0 46 45,K0 47 9 7,P0 48 (.buildS 86 1 [.bool false,.int .i64 0,.int .i64 0,.int .i64 0,.int .i64 0,.int .i64 0,.nil,.int .i64 0,.int .i64 0] [(0,(9,(.t 47)))]),P0 49 (.app 86 9 88 (.t 46) (.t 48)),F0 50 1 3,S0 1 50 49])
def q46:XCode:=(Sq (R0 [P0 40 (.buildS 65 0 [] []),F0 41 6 7,L0 42 41,P0 43 (.app 65 2 16 (.t 40) (.t 42)),F0 44 6 7,S0 1 44 43]) q9d)
def q2s:XCode:=(Sq (R0 [I0 38 9 34 36,K0 39 9 38,P0 7 (.new 86 [.bool false,.int .i64 0,.int .i64 0,.int .i64 0,.int .i64 0,.int .i64 0,.nil,.int .i64 0,.int .i64 0]),S0 9 7 39]) q46)
def zcf:XCode:=(.block 2 (.loop [2,3,34,35,36] (Sq (R0 [Y0 37 .lss 36 35]) (Sq (.cond (.t 37) .skip (.exit 2)) (Sq (.block 3 q2s) (R0 [P0 51 (.bin .add (.t 36) (Ca 1)),M0 36 51]))))))
def qtz:XCode:=zcf
def qsd:XCode:=(Sq (Sq (R0 [F0 33 1 1,L0 34 33,N0 35 34,P0 36 (.mv (Ca 0))]) qtz) (Sq (R0 [K0 52 2 3,S0 2 2 52]) .ret))
def qub:XCode:=(Sq (Sq (R0 [F0 9 0 1,L0 10 9,N0 11 10,P0 12 (.mv (Ca 0))]) q9g) qsd)
def qtr:XCode:=(Sq (R0 [P0 8 (.build [.nil,.nil] []),P0 3 (.new 29 [.nil,.nil]),S0 2 3 8]) qub)
def x71:XFn:=⟨(Sq (Sq (R0 [P0 1 (.box 29 2 (.t 0)),P0 2 (.new 29 [.nil,.nil])]) (.frz [1])) qtr),53,[(.cell 2 (some 2))]⟩
theorem zf3:FnOk Try.prog T 71 x71:=⟨Try.f71,[.frz [1],.loop [1,2,3,10,11,12],.loop [2,3,34,35,36]],Try.func71,by decide +kernel,by kernel_rfl⟩
def qt9:XCode:=(Sq (R1 [M4 3 0,P4 4 (.bin .shr (.t 3) (.c (.int .u64 24))),P4 5 (.sidx (.c (.str (ByteArray.mk #[0,1,1,2,1,2,2,3,1,2,2,3,2,3,3,4,1,2,2,3,2,3,3,4,2,3,3,4,3,4,4,5,1,2,2,3,2,3,3,4,2,3,3,4,3,4,4,5,2,3,3,4,3,4,4,5,3,4,4,5,4,5,5,6,1,2,2,3,2,3,3,4,2,3,3,4,3,4,4,5,2,3,3,4,3,4,4,5,3,4,4,5,4,5,5,6,2,3,3,4,3,4,4,5,3,4,4,5,4,5,5,6,3,4,4,5,4,5,5,6,4,5,5,6,5,6,6,7,1,2,2,3,2,3,3,4,2,3,3,4,3,4,4,5,2,3,3,4,3,4,4,5,3,4,4,5,4,5,5,6,2,3,3,4,3,4,4,5,3,4,4,5,4,5,5,6,3,4,4,5,4,5,5,6,4,5,5,6,5,6,6,7,2,3,3,4,3,4,4,5,3,4,4,5,4,5,5,6,3,4,4,5,4,5,5,6,4,5,5,6,5,6,6,7,3,4,4,5,4,5,5,6,4,5,5,6,5,6,6,7,4,5,5,6,5,6,6,7,5,6,6,7,6,7,7,8]))) (.t 4)),M4 6 0,P4 7 (.bin .shr (.t 6) (.c (.int .u64 16))),P4 8 (.bin .and (.t 7) (.c (.int .u32 255))),P4 9 (.sidx (.c (.str (ByteArray.mk #[0,1,1,2,1,2,2,3,1,2,2,3,2,3,3,4,1,2,2,3,2,3,3,4,2,3,3,4,3,4,4,5,1,2,2,3,2,3,3,4,2,3,3,4,3,4,4,5,2,3,3,4,3,4,4,5,3,4,4,5,4,5,5,6,1,2,2,3,2,3,3,4,2,3,3,4,3,4,4,5,2,3,3,4,3,4,4,5,3,4,4,5,4,5,5,6,2,3,3,4,3,4,4,5,3,4,4,5,4,5,5,6,3,4,4,5,4,5,5,6,4,5,5,6,5,6,6,7,1,2,2,3,2,3,3,4,2,3,3,4,3,4,4,5,2,3,3,4,3,4,4,5,3,4,4,5,4,5,5,6,2,3,3,4,3,4,4,5,3,4,4,5,4,5,5,6,3,4,4,5,4,5,5,6,4,5,5,6,5,6,6,7,2,3,3,4,3,4,4,5,3,4,4,5,4,5,5,6,3,4,4,5,4,5,5,6,4,5,5,6,5,6,6,7,3,4,4,5,4,5,5,6,4,5,5,6,5,6,6,7,4,5,5,6,5,6,6,7,5,6,6,7,6,7,7,8]))) (.t 8)),Y4 10 .add 5 9,M4 11 0,P4 12 (.bin .shr (.t 11) (.c (.int .u64 8))),P4 13 (.bin .and (.t 12) (.c (.int .u32 255))),P4 14 (.sidx (.c (.str (ByteArray.mk #[0,1,1,2,1,2,2,3,1,2,2,3,2,3,3,4,1,2,2,3,2,3,3,4,2,3,3,4,3,4,4,5,1,2,2,3,2,3,3,4,2,3,3,4,3,4,4,5,2,3,3,4,3,4,4,5,3,4,4,5,4,5,5,6,1,2,2,3,2,3,3,4,2,3,3,4,3,4,4,5,2,3,3,4,3,4,4,5,3,4,4,5,4,5,5,6,2,3,3,4,3,4,4,5,3,4,4,5,4,5,5,6,3,4,4,5,4,5,5,6,4,5,5,6,5,6,6,7,1,2,2,3,2,3,3,4,2,3,3,4,3,4,4,5,2,3,3,4,3,4,4,5,3,4,4,5,4,5,5,6,2,3,3,4,3,4,4,5,3,4,4,5,4,5,5,6,3,4,4,5,4,5,5,6,4,5,5,6,5,6,6,7,2,3,3,4,3,4,4,5,3,4,4,5,4,5,5,6,3,4,4,5,4,5,5,6,4,5,5,6,5,6,6,7,3,4,4,5,4,5,5,6,4,5,5,6,5,6,6,7,4,5,5,6,5,6,6,7,5,6,6,7,6,7,7,8]))) (.t 13)),Y4 15 .add 10 14,M4 16 0,P4 17 (.bin .and (.t 16) (.c (.int .u32 255))),P4 18 (.sidx (.c (.str (ByteArray.mk #[0,1,1,2,1,2,2,3,1,2,2,3,2,3,3,4,1,2,2,3,2,3,3,4,2,3,3,4,3,4,4,5,1,2,2,3,2,3,3,4,2,3,3,4,3,4,4,5,2,3,3,4,3,4,4,5,3,4,4,5,4,5,5,6,1,2,2,3,2,3,3,4,2,3,3,4,3,4,4,5,2,3,3,4,3,4,4,5,3,4,4,5,4,5,5,6,2,3,3,4,3,4,4,5,3,4,4,5,4,5,5,6,3,4,4,5,4,5,5,6,4,5,5,6,5,6,6,7,1,2,2,3,2,3,3,4,2,3,3,4,3,4,4,5,2,3,3,4,3,4,4,5,3,4,4,5,4,5,5,6,2,3,3,4,3,4,4,5,3,4,4,5,4,5,5,6,3,4,4,5,4,5,5,6,4,5,5,6,5,6,6,7,2,3,3,4,3,4,4,5,3,4,4,5,4,5,5,6,3,4,4,5,4,5,5,6,4,5,5,6,5,6,6,7,3,4,4,5,4,5,5,6,4,5,5,6,5,6,6,7,4,5,5,6,5,6,6,7,5,6,6,7,6,7,7,8]))) (.t 17)),Y4 19 .add 15 18,P4 20 (.cvt .i64 (.t 19)),M4 2 20]) .ret)
def qrd:XFn:=⟨(Sq (R0 [P0 2 (.mv (Ca 0))]) qt9),21,[.t 2]⟩
theorem zfd:FnOk Try.prog T 103 qrd:=⟨Try.f103,[.draw [0,1,2,3,4,5,6,7,8,9,10,11,12,13,14,15,16,17,18] [4,4,4,4,4,4,4,4,4,4,4,4,4,4,4,4,4,4,4]],Try.func103,by decide +kernel,by kernel_rfl⟩
def qzv:XCode:=(Sq (R0 [M0 32 0,P0 33 (.cvt .i64 (.t 32)),P0 34 (.bin .and (.t 33) (Ca 127)),M0 2 34]) .ret)
def qxs:XCode:=(Sq (R0 [M0 28 0,M0 29 0,P0 30 (.bin .shr (.t 29) (.c (.int .u64 32))),Y0 31 .add 28 30,M0 0 31]) qzv)
def qss:XCode:=(Sq (R0 [M0 24 0,M0 25 0,P0 26 (.bin .shr (.t 25) (.c (.int .u64 16))),Y0 27 .add 24 26,M0 0 27]) qxs)
def qws:XCode:=(Sq (R0 [M0 20 0,M0 21 0,P0 22 (.bin .shr (.t 21) (.c (.int .u64 8))),Y0 23 .add 20 22,M0 0 23]) qss)
def qvu:XCode:=(Sq (R0 [M0 15 0,P0 16 (.bin .shr (.t 15) (.c (.int .u64 4))),M0 17 0,Y0 18 .add 16 17,P0 19 (.bin .and (.t 18) (.c (.int .u64 1085102592571150095))),M0 0 19]) qws)
def qxk:XCode:=(Sq (R0 [M0 9 0,P0 10 (.bin .shr (.t 9) (.c (.int .u64 2))),P0 11 (.bin .and (.t 10) (.c (.int .u64 3689348814741910323))),M0 12 0,P0 13 (.bin .and (.t 12) (.c (.int .u64 3689348814741910323))),Y0 14 .add 11 13,M0 0 14]) qvu)
def qty:XCode:=(Sq (R0 [M0 3 0,P0 4 (.bin .shr (.t 3) (.c (.int .u64 1))),P0 5 (.bin .and (.t 4) (.c (.int .u64 6148914691236517205))),M0 6 0,P0 7 (.bin .and (.t 6) (.c (.int .u64 6148914691236517205))),Y0 8 .add 5 7,M0 0 8]) qxk)
def qd9:XFn:=⟨(Sq (R0 [P0 2 (.mv (Ca 0))]) qty),35,[.t 2]⟩
theorem zet:FnOk Try.prog T 104 qd9:=⟨Try.f104,[],Try.func104,by decide +kernel,by kernel_rfl⟩
def zd2:XCode:=(Sq (R0 [M0 3 0,P0 4 (.cvt .u32 (.t 3)),P0 5 (.call (.c (.fn 103 [])) [.t 4]),M0 2 5]) .ret)
def q9x:XCode:=(Sq (.cond (.c (.bool false)) zd2 .skip) (Sq (R0 [M0 6 0,P0 7 (.call (.c (.fn 104 [])) [.t 6]),M0 2 7]) .ret))
def x89:XFn:=⟨(Sq (R0 [P0 2 (.mv (Ca 0))]) q9x),8,[.t 2]⟩
theorem zgy:FnOk Try.prog T 89 x89:=⟨Try.f89,[],Try.func89,by decide +kernel,by kernel_rfl⟩
def q7j:XCode:=(R0 [M0 13 3,F0 14 0 5,L0 15 14,P0 16 (.buildS 3 1 [.int .i64 0] [(0,(1,(.t 15)))]),P0 17 (.app 3 1 8 (.t 13) (.t 16)),M0 3 17])
def q4n:XCode:=(Sq (Sq (R0 [I0 11 2 7 9,K0 12 2 11,P0 5 (.new 65 [.int .i64 0,.int .i64 0]),S0 2 5 12]) (.frz [5])) q7j)
def zdu:XCode:=(.block 0 (.loop [3,7,8,9] (Sq (R0 [Y0 10 .lss 9 8]) (Sq (.cond (.t 10) .skip (.exit 0)) (Sq (.block 1 q4n) (R0 [P0 18 (.bin .add (.t 9) (Ca 1)),M0 9 18]))))))
def q5m:XCode:=zdu
def q3y:XCode:=(Sq (Sq (R0 [M0 7 0,N0 8 7,P0 9 (.mv (Ca 0))]) q5m) (Sq (R0 [M0 19 3,M0 2 19]) .ret))
def q4r:XCode:=(Sq (R0 [P0 6 (.buildS 3 0 [] []),M0 3 6]) q3y)
def x90:XFn:=⟨(Sq (R0 [P0 2 (.mv (.c .nil))]) q4r),20,[.t 2]⟩
theorem zfz:FnOk Try.prog T 90 x90:=⟨Try.f90,[.loop [3,7,8,9],.frz [],.frz [5]],Try.func90,by decide +kernel,by kernel_rfl⟩
def q9i:XCode:=(Sq (R0 [M0 6 0,M0 7 0,N0 8 7,P0 9 (.bin .sub (.t 8) (Ca 1)),I0 10 1 6 9,L0 11 10,M0 2 11]) .ret)
def q7l:XCode:=(Sq (Sq (R0 [M0 3 0,N0 4 3,P0 5 (.bin .eql (.t 4) (Ca 0))]) (.cond (.t 5) (Sq (R0 [P0 2 (.mv (.c (.int .i64 (-1))))]) .ret) .skip)) q9i)
def x92:XFn:=⟨(Sq (R0 [P0 2 (.mv (Ca 0))]) q7l),12,[.t 2]⟩
theorem zgr:FnOk Try.prog T 92 x92:=⟨Try.f92,[],Try.func92,by decide +kernel,by kernel_rfl⟩
def q63:XCode:=(Sq (R0 [M0 7 0,M0 8 2,P0 9 (.call (.c (.fn 92 [])) [.t 8]),Y0 10 .gtr 7 9,M0 11 10,G2 12 (Ma 0) 11,G2 13 (Ma 2) 11,G2 14 (.call (.c (.fn 92 [])) [.t 13]) 11,G2 15 (Ya .eql 12 14) 11,G2 16 (Ma 15) 11,G1 17 (Ma 1) 16,G1 18 (Ma 2) 16,G1 19 (Na 18) 16,G1 20 (Ya .geq 17 19) 16,G2 21 (.pick (.t 16) (.t 20) (.c (.bool false))) 11,P0 22 (.pick (.t 11) (.c (.bool true)) (.t 21)),M0 6 22]) .ret)
def x91:XFn:=⟨(Sq (R0 [P0 6 (.mv (.c (.bool false)))]) q63),23,[.t 6]⟩
theorem zfr:FnOk Try.prog T 91 x91:=⟨Try.f91,[],Try.func91,by decide +kernel,by kernel_rfl⟩
def q8r:XCode:=(R0 [M0 75 9,F0 76 0 11,L0 77 76,P0 78 (.mnx true [.t 75,.t 77]),M0 9 78])
def q60:XCode:=(Sq (Sq (R1 [M4 66 8,⟨some 67,.call (.c (.fn 92 [])) [.t 66],none,2⟩,⟨some 68,.mv (.t 8),none,1⟩,⟨some 69,.len (.t 68),none,1⟩,⟨some 70,.fa 2 (.t 11),none,1⟩,⟨some 71,.ld none (.t 70),none,1⟩,⟨some 72,.call (.c (.fn 90 [])) [.t 71],none,3⟩,⟨some 73,.call (.c (.fn 91 [])) [.t 67,.t 69,.t 72],none,3⟩,P4 74 (.un .not (.t 73))]) (.cond (.t 74) (Sq (R0 [P0 6 (.mv (.c (.bool false)))]) .ret) .skip)) q8r)
def q3u:XCode:=(Cd 65 q60)
def q7d:XCode:=(Sq (R0 [M0 61 2,M0 62 10,Y0 63 .shr 61 62,P0 64 (.bin .and (.t 63) (Ca 1)),P0 65 (.bin .eql (.t 64) (Ca 1))]) q3u)
def q48:XCode:=(Sq (Sq (R0 [M0 58 56,I0 59 5 54 56,K0 60 5 59,P0 11 (.new 43 [.int .i64 0,.bool false,.nil,.int .i64 0,.nil]),M0 10 58,S0 5 11 60]) (.frz [11])) q7d)
def ze1:XCode:=(.block 0 (.loop [0,1,2,7,8,9,54,55,56] (Sq (R0 [Y0 57 .lss 56 55]) (Sq (.cond (.t 57) .skip (.exit 0)) (Sq (.block 1 q48) (R0 [P0 79 (.bin .add (.t 56) (Ca 1)),M0 56 79]))))))
def q4w:XCode:=ze1
def q7v:XCode:=(R0 [M0 112 13,M0 113 7,P0 114 (.mkS 3 1 8 [.int .i64 0] (.t 113) (.t 113)),P0 115 (.chk (.t 112)),F0 116 4 115,S0 1 116 114])
def q61:XCode:=(Sq (R0 [M0 106 13,M0 107 12,M0 108 1,Y0 109 .eql 107 108,P0 110 (.chk (.t 106)),F0 111 1 110,S0 1 111 109]) q7v)
def qso:XCode:=(Sq (R0 [M0 101 13,M0 102 9,P0 103 (.bin .add (.t 102) (Ca 1)),P0 104 (.chk (.t 101)),F0 105 0 104,S0 1 105 103]) q61)
def qsv:XCode:=(Sq (R0 [M0 95 0,P0 96 (.chk (.t 95)),F0 97 0 96,L0 98 97,M0 99 12,I0 100 5 98 99,M0 13 100]) qso)
def qw3:XCode:=(Cd 94 qsv)
def qxx:XCode:=(Sq (R0 [M0 90 2,M0 91 12,Y0 92 .shr 90 91,P0 93 (.bin .and (.t 92) (Ca 1)),P0 94 (.bin .eql (.t 93) (Ca 1))]) qw3)
def qwe:XCode:=(Sq (R0 [M0 89 87,M0 12 89]) qxx)
def zbp:XCode:=(.block 2 (.loop [0,1,2,7,8,9,86,87] (Sq (R0 [Y0 88 .lss 87 86]) (Sq (.cond (.t 88) .skip (.exit 2)) (Sq (.block 3 qwe) (R0 [P0 117 (.bin .add (.t 87) (Ca 1)),M0 87 117]))))))
def qs3:XCode:=zbp
def qvo:XCode:=(Sq (R0 [M0 118 0,P0 119 (.chk (.t 118)),F0 120 0 119,L0 121 120,M0 122 1,I0 123 5 121 122,F0 124 4 123,L0 125 124,M0 126 1,M0 127 8,N0 128 127,I0 129 1 125 126,S0 1 129 128]) (Sq (R0 [P0 6 (.mv (.c (.bool true)))]) .ret))
def q0j:XCode:=(Sq (Sq (R0 [M0 82 0,P0 83 (.chk (.t 82)),F0 84 0 83,L0 85 84,N0 86 85,P0 87 (.mv (Ca 0))]) qs3) qvo)
def qva:XCode:=(Sq (Sq (R0 [M0 80 9,P0 81 (.bin .eql (.t 80) (Ca 100))]) (.cond (.t 81) (Sq (R0 [P0 6 (.mv (.c (.bool false)))]) .ret) .skip)) q0j)
def qu7:XCode:=(Sq (Sq (R0 [M0 51 0,P0 52 (.chk (.t 51)),F0 53 0 52,L0 54 53,N0 55 54,P0 56 (.mv (Ca 0))]) q4w) qva)
def qyj:XCode:=(Sq (R0 [P0 9 (.mv (Ca 0))]) qu7)
def qxf:XCode:=(Sq (R0 [M0 42 0,P0 43 (.chk (.t 42)),F0 44 0 43,L0 45 44,M0 46 1,I0 47 5 45 46,F0 48 2 47,L0 49 48,P0 50 (.call (.c (.fn 90 [])) [.t 49]),M0 8 50]) qyj)
def qyk:XCode:=(Sq (Sq (R0 [M0 19 2,P0 20 (.bin .lss (.t 19) (Ca 0)),M0 21 20,G2 22 (Ma 2) 21,G2 23 (Ma 7) 21,G2 24 (.bin .shl (Ca 1) (.t 23)) 21,G2 25 (Ya .geq 22 24) 21,P0 26 (.pick (.t 21) (.c (.bool true)) (.t 25)),M0 27 26,G2 28 (Ma 2) 27,G2 29 (Ma 1) 27,G2 30 (Ya .shr 28 29) 27,G2 31 (.bin .and (.t 30) (Ca 1)) 27,G2 32 (.bin .eql (.t 31) (Ca 0)) 27,P0 33 (.pick (.t 27) (.c (.bool true)) (.t 32)),M0 34 33,G2 35 (Ma 2) 34,G2 36 (.cvt .u64 (.t 35)) 34,G2 37 (.call (.c (.fn 89 [])) [.t 36]) 34,G2 38 (.bin .mul (Ca 2) (.t 37)) 34,G2 39 (Ma 7) 34,G2 40 (Ya .leq 38 39) 34,P0 41 (.pick (.t 34) (.c (.bool true)) (.t 40))]) (.cond (.t 41) (Sq (R0 [P0 6 (.mv (.c (.bool false)))]) .ret) .skip)) qxf)
def qwm:XCode:=(Sq (R0 [M0 14 0,P0 15 (.chk (.t 14)),F0 16 0 15,L0 17 16,N0 18 17,M0 7 18]) qyk)
def x72:XFn:=⟨(Sq (R0 [P0 6 (.mv (.c (.bool false)))]) qwm),130,[.t 6]⟩
theorem zfy:FnOk Try.prog T 72 x72:=⟨Try.f72,[.loop [0,1,2,7,8,9,54,55,56],.frz [],.frz [11],.draw [0,1,2,3,4,5,6,7,8] [4,2,1,1,1,1,3,3,4],.loop [0,1,2,7,8,9,86,87]],Try.func72,by decide +kernel,by kernel_rfl⟩
def q6l:XCode:=(Sq (R1 [M4 49 5,P4 50 (.chk (.t 49)),F4 51 4 50,L4 52 51,F4 53 1 3,L4 54 53,M4 55 5,P4 56 (.chk (.t 55)),F4 57 2 56,L4 58 57,N4 59 58,I4 60 1 52 54,S3 1 60 59]) (Sq (R0 [P0 4 (.mv (.c (.bool true)))]) .ret))
def q9n:XCode:=(Sq (R1 [⟨some 33,.mv (.t 5),none,1⟩,M4 34 5,P4 35 (.chk (.t 34)),F4 36 2 35,L4 37 36,M4 38 5,P4 39 (.chk (.t 38)),F4 40 0 39,L4 41 40,F4 42 3 3,L4 43 42,P4 44 (.build [.int .i64 0,.int .i64 0] [(0,(1,(.t 41))),(1,(1,(.t 43)))]),P4 45 (.buildS 65 1 [.int .i64 0,.int .i64 0] [(0,(2,(.t 44)))]),⟨some 46,.app 65 2 16 (.t 37) (.t 45),none,3⟩,P4 47 (.chk (.t 33)),F4 48 2 47,S3 1 48 46]) q6l)
def q3s:XCode:=(Sq (Sq (R0 [F0 21 3 3,L0 22 21,P0 23 (.call (.c (.fn 44 [])) [.t 22,(Ca 0),(Ca 99)]),P0 24 (.un .not (.t 23)),M0 25 24,G2 26 (Ma 5) 25,G2 27 (.chk (.t 26)) 25,G2 28 (Fa 2 27) 25,G2 29 (La 28) 25,G2 30 (Na 29) 25,G2 31 (.bin .eql (.t 30) (Ca 30)) 25,P0 32 (.pick (.t 25) (.c (.bool true)) (.t 31))]) (.cond (.t 32) (Sq (R0 [P0 4 (.mv (.c (.bool false)))]) .ret) .skip)) q9n)
def q6n:XCode:=(R1 [M4 117 5,P4 118 (.chk (.t 117)),F4 119 2 118,L4 120 119,F4 121 3 3,L4 122 121,P4 123 (.bin .sub (.t 122) (Ca 1)),I4 124 2 120 123,F4 125 0 124,L4 126 125,F4 127 5 6,S3 1 127 126])
def q70:XCode:=(Cd 116 q6n)
def q5n:XCode:=(R1 [M4 136 5,P4 137 (.chk (.t 136)),F4 138 2 137,L4 139 138,F4 140 3 3,L4 141 140,I4 142 2 139 141,K4 143 2 142,P4 144 (.buildS 65 1 [.int .i64 0,.int .i64 0] [(0,(2,(.t 143)))]),F4 145 6 6,S3 1 145 144])
def q34:XCode:=(Cd 135 q5n)
def q8a:XCode:=(Sq (R1 [⟨some 146,.mv (.t 0),none,1⟩,M4 147 0,P4 148 (.chk (.t 147)),F4 149 1 148,L4 150 149,K4 151 9 6,P4 152 (.buildS 86 1 [.bool false,.int .i64 0,.int .i64 0,.int .i64 0,.int .i64 0,.int .i64 0,.nil,.int .i64 0,.int .i64 0] [(0,(9,(.t 151)))]),⟨some 153,.app 86 9 88 (.t 150) (.t 152),none,3⟩,P4 154 (.chk (.t 146)),F4 155 1 154,S3 1 155 153]) (Sq (R0 [P0 4 (.mv (.c (.bool true)))]) .ret))
def q6x:XCode:=(Sq (Sq (R1 [F4 128 3 3,L4 129 128,M4 130 5,P4 131 (.chk (.t 130)),F4 132 2 131,L4 133 132,N4 134 133,Y4 135 .lss 129 134]) q34) q8a)
def qth:XCode:=(Sq (Sq (R0 [F0 114 3 3,L0 115 114,P0 116 (.bin .gtr (.t 115) (Ca 0))]) q70) q6x)
def qzq:XCode:=(Sq (R1 [F4 99 1 3,L4 100 99,F4 101 2 3,L4 102 101,M4 103 5,P4 104 (.chk (.t 103)),F4 105 0 104,L4 106 105,F4 107 3 3,L4 108 107,M4 109 5,P4 110 (.chk (.t 109)),F4 111 3 110,L4 112 111,P4 113 (.build [.bool false,.int .i64 0,.int .i64 0,.int .i64 0,.int .i64 0,.int .i64 0,.nil,.int .i64 0,.int .i64 0] [(1,(1,(.t 100))),(2,(1,(.t 102))),(3,(1,(.t 106))),(4,(1,(.t 108))),(5,(1,(.c (.int .i64 (-1))))),(7,(1,(.t 112)))]),P4 6 (.new 86 [.bool false,.int .i64 0,.int .i64 0,.int .i64 0,.int .i64 0,.int .i64 0,.nil,.int .i64 0,.int .i64 0]),S3 9 6 113]) qth)
def qsg:XCode:=(Sq (Sq (R1 [F4 63 2 3,L4 64 63,M4 65 0,P4 66 (.chk (.t 65)),F4 67 0 66,L4 68 67,N4 69 68,P4 70 (.bin .sub (.t 69) (Ca 1)),⟨some 71,.call (.c (.fn 44 [])) [.t 64,(Ca 0),.t 70],none,3⟩,P4 72 (.un .not (.t 71)),M4 73 72,G6 74 (Fa 2 3) 73,G6 75 (La 74) 73,G6 76 (Fa 1 3) 73,G6 77 (La 76) 73,G6 78 (Ya .eql 75 77) 73,P4 79 (.pick (.t 73) (.c (.bool true)) (.t 78)),M4 80 79,G6 81 (Fa 3 3) 80,G6 82 (La 81) 80,G6 83 (Ma 5) 80,G6 84 (.chk (.t 83)) 80,G6 85 (Fa 2 84) 80,G6 86 (La 85) 80,G6 87 (Na 86) 80,⟨some 88,.call (.c (.fn 44 [])) [.t 82,(Ca 0),.t 87],(some (80,false)),3⟩,G6 89 (.un .not (.t 88)) 80,P4 90 (.pick (.t 80) (.c (.bool true)) (.t 89)),M4 91 90,G6 92 (Ma 0) 91,G6 93 (.chk (.t 92)) 91,G6 94 (Fa 1 93) 91,G6 95 (La 94) 91,G6 96 (Na 95) 91,G6 97 (.bin .eql (.t 96) (Ca 20)) 91,P4 98 (.pick (.t 91) (.c (.bool true)) (.t 97))]) (.cond (.t 98) (Sq (R0 [P0 4 (.mv (.c (.bool false)))]) .ret) .skip)) qzq)
def quh:XCode:=(Cd 61 qsg)
def qvy:XCode:=(Sq (R0 [P0 62 (.bin .eql (.t 18) (Ca 3)),M0 61 62]) quh)
def qvi:XCode:=(.cond (.t 19) q3s qvy)
def qyq:XCode:=(Sq (R0 [P0 20 (.bin .eql (.t 18) (Ca 2)),M0 19 20]) qvi)
def qtw:XCode:=(.block 0 qyq)
def qxp:XCode:=(.cond (.t 168) (R0 [M0 169 7,P0 170 (.bin .add (.t 169) (Ca 1)),M0 7 170]) .skip)
def qyn:XCode:=(Sq (R0 [M0 165 9,F0 166 3 3,L0 167 166,Y0 168 .geq 165 167]) qxp)
def qw5:XCode:=(Sq (R0 [I0 163 1 159 161,L0 164 163,M0 9 164]) qyn)
def zb8:XCode:=(.block 1 (.loop [0,3,5,7,159,160,161] (Sq (R0 [Y0 162 .lss 161 160]) (Sq (.cond (.t 162) .skip (.exit 1)) (Sq (.block 2 qw5) (R0 [P0 171 (.bin .add (.t 161) (Ca 1)),M0 161 171]))))))
def qxb:XCode:=zb8
def qzo:XCode:=(Sq (R0 [M0 213 5,F0 214 3 3,L0 215 214,P0 216 (.chk (.t 213)),F0 217 3 216,S0 1 217 215]) (Sq (R0 [P0 4 (.mv (.c (.bool true)))]) .ret))
def qvh:XCode:=(Sq (Sq (R1 [F4 172 3 3,L4 173 172,M4 174 5,P4 175 (.chk (.t 174)),F4 176 3 175,L4 177 176,P4 178 (.bin .add (.t 177) (Ca 1)),M4 179 5,P4 180 (.chk (.t 179)),F4 181 2 180,L4 182 181,N4 183 182,⟨some 184,.call (.c (.fn 44 [])) [.t 173,.t 178,.t 183],none,3⟩,P4 185 (.un .not (.t 184)),M4 186 185,G6 187 (Ma 5) 186,G6 188 (.chk (.t 187)) 186,G6 189 (Fa 2 188) 186,G6 190 (La 189) 186,G6 191 (Fa 3 3) 186,G6 192 (La 191) 186,G6 193 (.bin .sub (.t 192) (Ca 1)) 186,G6 194 (Ia 2 190 193) 186,G6 195 (Fa 0 194) 186,G6 196 (La 195) 186,G6 197 (Ma 5) 186,G6 198 (.chk (.t 197)) 186,G6 199 (Fa 0 198) 186,G6 200 (La 199) 186,G6 201 (Ya .neq 196 200) 186,P4 202 (.pick (.t 186) (.c (.bool true)) (.t 201)),M4 203 202,G6 204 (Ma 7) 203,G6 205 (.bin .mul (Ca 2) (.t 204)) 203,G6 206 (Ma 0) 203,G6 207 (.chk (.t 206)) 203,G6 208 (Fa 0 207) 203,G6 209 (La 208) 203,G6 210 (Na 209) 203,G6 211 (Ya .leq 205 210) 203,P4 212 (.pick (.t 203) (.c (.bool true)) (.t 211))]) (.cond (.t 212) (Sq (R0 [P0 4 (.mv (.c (.bool false)))]) .ret) .skip)) qzo)
def qsz:XCode:=(Sq (Sq (R0 [M0 156 5,P0 157 (.chk (.t 156)),F0 158 4 157,L0 159 158,N0 160 159,P0 161 (.mv (Ca 0))]) qxb) qvh)
def qx3:XCode:=(Sq (R0 [P0 7 (.mv (Ca 0))]) qsz)
def qxa:XCode:=(Sq (Sq (R0 [F0 17 0 3,L0 18 17]) qtw) qx3)
def qt7:XCode:=(Sq (R1 [M4 10 0,P4 11 (.chk (.t 10)),F4 12 0 11,L4 13 12,F4 14 1 3,L4 15 14,I4 16 5 13 15,M4 5 16]) qxa)
def x73:XFn:=⟨(Sq (Sq (R0 [P0 3 (.box 57 4 (.t 1)),P0 4 (.mv (.c (.bool false)))]) (.frz [3])) qt7),218,[.t 4]⟩
theorem zfn:FnOk Try.prog T 73 x73:=⟨Try.f73,[.frz [3],.draw [0,1,2,3,4,5,6,7] [4,4,4,4,4,4,4,4],.draw [0,1,2,3,4,5,6,7,8,9,10,11,12,13,14,15,16] [1,4,4,4,4,4,4,4,4,4,4,4,4,3,4,4,3],.draw [0,1,2,3,4,5,6,7,8,9,10,11,12] [4,4,4,4,4,4,4,4,4,4,4,4,3],.draw [0,1,2,3,4,5,6,7,8,9,10,11,12,13,14,15,16,17,18,19,20,21,22,23,24,25,26,27,28,29,30,31,32,33,34,35] [4,4,4,4,4,4,4,4,3,4,4,4,4,4,4,4,4,4,4,4,4,4,4,4,4,3,4,4,4,4,4,4,4,4,4,4],.draw [0,1,2,3,4,5,6,7,8,9,10,11,12,13,14,15,16] [4,4,4,4,4,4,4,4,4,4,4,4,4,4,4,4,3],.draw [0,1,2,3,4,5,6,7,8,9,10,11] [4,4,4,4,4,4,4,4,4,4,4,3],.draw [0,1,2,3,4,5,6,7] [4,4,4,4,4,4,4,4],.draw [0,1,2,3,4,5,6,7,8,9,10] [4,4,4,4,4,4,4,4,4,4,3],.draw [0,1,2,3,4,5,6,7,8,9,10] [1,4,4,4,4,4,4,3,4,4,3],.loop [0,3,5,7,159,160,161],.draw [0,1,2,3,4,5,6,7,8,9,10,11,12,13,14,15,16,17,18,19,20,21,22,23,24,25,26,27,28,29,30,31,32,33,34,35,36,37,38,39,40] [4,4,4,4,4,4,4,4,4,4,4,4,3,4,4,4,4,4,4,4,4,4,4,4,4,4,4,4,4,4,4,4,4,4,4,4,4,4,4,4,4]],Try.func73,by decide +kernel,by kernel_rfl⟩
def zev:XCode:=(.cond (.t 16) (Sq (R0 [M0 17 0,M0 6 17]) .ret) .skip)
def zek:XCode:=(Sq (R0 [M0 27 0,M0 28 0,N0 29 28,M0 30 7,P0 31 (.slc 86 9 (.t 27) (some (.t 29)) (some (.t 30)) none),⟨none,.clr 86 [.bool false,.int .i64 0,.int .i64 0,.int .i64 0,.int .i64 0,.int .i64 0,.nil,.int .i64 0,.int .i64 0] (.t 31),none,0⟩]) (Sq (R0 [M0 32 0,M0 6 32]) .ret))
def zdq:XCode:=(Sq (R1 [M4 20 0,M4 21 1,P4 22 (.slc 86 9 (.t 20) none (some (.t 21)) none),M4 23 0,M4 24 2,P4 25 (.slc 86 9 (.t 23) (some (.t 24)) none none),⟨some 26,.app 86 9 88 (.t 22) (.t 25),none,3⟩,M4 0 26]) zek)
def zff:XCode:=(Sq (R0 [M0 18 0,N0 19 18,M0 7 19]) zdq)
def zew:XCode:=(Sq (Sq (R0 [M0 14 1,M0 15 2,Y0 16 .eql 14 15]) zev) zff)
def zdr:XCode:=(Sq (R0 [M0 8 0,M0 9 1,M0 10 2,M0 11 0,N0 12 11,P0 13 (.slc 86 9 (.t 8) (some (.t 9)) (some (.t 10)) (some (.t 12)))]) zew)
def x74:XFn:=⟨(Sq (R0 [P0 6 (.mv (.c .nil))]) zdr),33,[.t 6]⟩
theorem zgn:FnOk Try.prog T 74 x74:=⟨Try.f74,[.draw [0,1,2,3,4,5,6,7] [4,4,4,4,4,4,3,4]],Try.func74,by decide +kernel,by kernel_rfl⟩
def q8j:XCode:=(R0 [M0 31 4,M0 32 0,P0 33 (.chk (.t 32)),F0 34 0 33,L0 35 34,N0 36 35,P0 37 (.mkS 3 1 8 [.int .i64 0] (.t 36) (.t 36)),P0 38 (.chk (.t 31)),F0 39 4 38,S0 1 39 37])
def q4c:XCode:=(Sq (R0 [M0 28 4,P0 29 (.chk (.t 28)),F0 30 1 29,⟨none,.st 1 (.t 30) (.c (.bool false)),none,0⟩]) q8j)
def q2k:XCode:=(Sq (R0 [M0 23 4,F0 24 3 3,L0 25 24,P0 26 (.chk (.t 23)),F0 27 0 26,S0 1 27 25]) q4c)
def q8x:XCode:=(Cd 22 q2k)
def q2u:XCode:=(R1 [M4 53 4,P4 54 (.chk (.t 53)),F4 55 4 54,L4 56 55,F4 57 1 3,L4 58 57,M4 59 4,P4 60 (.chk (.t 59)),F4 61 4 60,L4 62 61,F4 63 1 3,L4 64 63,I4 65 1 62 64,L4 66 65,F4 67 8 3,L4 68 67,M4 69 4,P4 70 (.chk (.t 69)),F4 71 2 70,L4 72 71,N4 73 72,P4 74 (.mnx false [.t 68,.t 73]),P4 75 (.mnx true [.t 66,.t 74]),I4 76 1 56 58,S3 1 76 75])
def q4g:XCode:=(Cd 52 q2u)
def q9z:XCode:=(Sq (Sq (R0 [M0 49 4,P0 50 (.chk (.t 49)),F0 51 1 50,L0 52 51]) q4g) .ret)
def q8s:XCode:=(Cd 48 q9z)
def q91:XCode:=(R1 [M4 136 4,M4 137 4,P4 138 (.chk (.t 137)),F4 139 2 138,L4 140 139,F4 141 4 3,L4 142 141,P4 143 (.slc 65 2 (.t 140) none (some (.t 142)) none),P4 144 (.chk (.t 136)),F4 145 2 144,S3 1 145 143])
def qse:XCode:=(Cd 135 q91)
def qud:XCode:=(R1 [⟨some 162,.mv (.t 4),none,1⟩,M4 163 4,P4 164 (.chk (.t 163)),F4 165 2 164,L4 166 165,K4 167 2 7,P4 168 (.buildS 65 1 [.int .i64 0,.int .i64 0] [(0,(2,(.t 167)))]),⟨some 169,.app 65 2 16 (.t 166) (.t 168),none,3⟩,P4 170 (.chk (.t 162)),F4 171 2 170,S3 1 171 169])
def qzp:XCode:=(Cd 161 qud)
def qw9:XCode:=(.cond (.t 179) (R0 [M0 180 5,P0 181 (.bin .add (.t 180) (Ca 1)),M0 5 181]) .skip)
def qv5:XCode:=(Sq (R1 [F4 172 4 3,L4 173 172,M4 174 4,P4 175 (.chk (.t 174)),F4 176 2 175,L4 177 176,N4 178 177,Y4 179 .lss 173 178]) qw9)
def qv4:XCode:=(Sq (Sq (R1 [F4 146 4 3,L4 147 146,M4 148 4,P4 149 (.chk (.t 148)),F4 150 2 149,L4 151 150,N4 152 151,Y4 153 .eql 147 152,M4 154 153,G5 155 (Ma 4) 154,G5 156 (.chk (.t 155)) 154,G5 157 (Fa 2 156) 154,G5 158 (La 157) 154,G5 159 (Na 158) 154,G5 160 (.bin .lss (.t 159) (Ca 30)) 154,P4 161 (.pick (.t 154) (.t 160) (.c (.bool false)))]) qzp) qv5)
def qto:XCode:=(Sq (Sq (R1 [F4 114 4 3,L4 115 114,M4 116 4,P4 117 (.chk (.t 116)),F4 118 2 117,L4 119 118,N4 120 119,Y4 121 .lss 115 120,M4 122 121,G5 123 (Ma 4) 122,G5 124 (.chk (.t 123)) 122,G5 125 (Fa 2 124) 122,G5 126 (La 125) 122,G5 127 (Fa 4 3) 122,G5 128 (La 127) 122,G5 129 (Ia 2 126 128) 122,G5 130 (Fa 0 129) 122,G5 131 (La 130) 122,G5 132 (Fa 0 7) 122,G5 133 (La 132) 122,G5 134 (Ya .neq 131 133) 122,P4 135 (.pick (.t 122) (.t 134) (.c (.bool false)))]) qse) qv4)
def qy5:XCode:=(Sq (Sq (R0 [I0 112 2 108 110,K0 113 2 112,P0 7 (.new 65 [.int .i64 0,.int .i64 0]),S0 2 7 113]) (.frz [7])) qto)
def zc2:XCode:=(.block 0 (.loop [0,3,4,5,108,109,110] (Sq (R0 [Y0 111 .lss 110 109]) (Sq (.cond (.t 111) .skip (.exit 0)) (Sq (.block 1 qy5) (R0 [P0 182 (.bin .add (.t 110) (Ca 1)),M0 110 182]))))))
def qv1:XCode:=zc2
def qt0:XCode:=(R1 [M4 209 4,P4 210 (.chk (.t 209)),F4 211 4 210,L4 212 211,M4 213 8,M4 214 4,P4 215 (.chk (.t 214)),F4 216 4 215,L4 217 216,M4 218 8,I4 219 1 217 218,L4 220 219,M4 221 4,P4 222 (.chk (.t 221)),F4 223 2 222,L4 224 223,N4 225 224,P4 226 (.mnx false [.t 220,.t 225]),I4 227 1 212 213,S3 1 227 226])
def qx5:XCode:=(Sq (R0 [M0 208 206,M0 8 208]) qt0)
def zc6:XCode:=(.block 2 (.loop [0,3,4,5,205,206] (Sq (R0 [Y0 207 .lss 206 205]) (Sq (.cond (.t 207) .skip (.exit 2)) (Sq (.block 3 qx5) (R0 [P0 228 (.bin .add (.t 206) (Ca 1)),M0 206 228]))))))
def qx6:XCode:=zc6
def qsj:XCode:=(R1 [⟨some 229,.mv (.t 0),none,1⟩,M4 230 0,P4 231 (.chk (.t 230)),F4 232 1 231,L4 233 232,F4 234 2 3,L4 235 234,F4 236 1 3,L4 237 236,M4 238 4,P4 239 (.chk (.t 238)),F4 240 0 239,L4 241 240,M4 242 5,P4 243 (.build [.bool false,.int .i64 0,.int .i64 0,.int .i64 0,.int .i64 0,.int .i64 0,.nil,.int .i64 0,.int .i64 0] [(0,(1,(.c (.bool true)))),(1,(1,(.t 235))),(2,(1,(.t 237))),(3,(1,(.t 241))),(8,(1,(.t 242)))]),P4 244 (.buildS 86 1 [.bool false,.int .i64 0,.int .i64 0,.int .i64 0,.int .i64 0,.int .i64 0,.nil,.int .i64 0,.int .i64 0] [(0,(9,(.t 243)))]),⟨some 245,.app 86 9 88 (.t 233) (.t 244),none,3⟩,P4 246 (.chk (.t 229)),F4 247 1 246,S3 1 247 245])
def qul:XCode:=(Sq (Sq (R0 [M0 201 4,P0 202 (.chk (.t 201)),F0 203 4 202,L0 204 203,N0 205 204,P0 206 (.mv (Ca 0))]) qx6) qsj)
def qy9:XCode:=(Sq (R1 [M4 183 4,M4 184 4,P4 185 (.chk (.t 184)),F4 186 3 185,L4 187 186,F4 188 7 3,L4 189 188,M4 190 5,P4 191 (.mnx false [.t 189,.t 190]),P4 192 (.mnx true [.t 187,.t 191]),M4 193 4,P4 194 (.chk (.t 193)),F4 195 2 194,L4 196 195,N4 197 196,P4 198 (.mnx false [.t 192,.t 197]),P4 199 (.chk (.t 183)),F4 200 3 199,S3 1 200 198]) qul)
def qza:XCode:=(Sq (Sq (R0 [F0 107 6 3,L0 108 107,N0 109 108,P0 110 (.mv (Ca 0))]) qv1) qy9)
def q0h:XCode:=(Sq (R0 [F0 105 4 3,L0 106 105,M0 5 106]) qza)
def q0g:XCode:=(Sq (Sq (R1 [F4 77 4 3,L4 78 77,M4 79 4,P4 80 (.chk (.t 79)),F4 81 2 80,L4 82 81,N4 83 82,Y4 84 .gtr 78 83,M4 85 84,G6 86 (Fa 4 3) 85,G6 87 (La 86) 85,G6 88 (.bin .gtr (.t 87) (Ca 0)) 85,G6 89 (Ma 88) 85,G5 90 (Ma 4) 89,G5 91 (.chk (.t 90)) 89,G5 92 (Fa 2 91) 89,G5 93 (La 92) 89,G5 94 (Fa 4 3) 89,G5 95 (La 94) 89,G5 96 (.bin .sub (.t 95) (Ca 1)) 89,G5 97 (Ia 2 93 96) 89,G5 98 (Fa 0 97) 89,G5 99 (La 98) 89,G5 100 (Fa 5 3) 89,G5 101 (La 100) 89,G5 102 (Ya .neq 99 101) 89,G6 103 (.pick (.t 89) (.t 102) (.c (.bool false))) 85,P4 104 (.pick (.t 85) (.c (.bool true)) (.t 103))]) (.cond (.t 104) .ret .skip)) q0h)
def qt5:XCode:=(Sq (Sq (R0 [F0 47 0 3,L0 48 47]) q8s) q0g)
def qsk:XCode:=(Sq (Sq (R1 [F4 40 3 3,L4 41 40,M4 42 4,P4 43 (.chk (.t 42)),F4 44 0 43,L4 45 44,Y4 46 .neq 41 45]) (.cond (.t 46) .ret .skip)) qt5)
def qxo:XCode:=(Sq (Sq (R1 [F4 16 3 3,L4 17 16,M4 18 4,P4 19 (.chk (.t 18)),F4 20 0 19,L4 21 20,Y4 22 .gtr 17 21]) q8x) qsk)
def qzs:XCode:=(Sq (R1 [M4 9 0,P4 10 (.chk (.t 9)),F4 11 0 10,L4 12 11,F4 13 2 3,L4 14 13,I4 15 5 12 14,M4 4 15]) qxo)
def x75:XFn:=⟨(Sq (Sq (R0 [P0 3 (.box 86 9 (.t 1))]) (.frz [3])) qzs),248,[]⟩
theorem zgw:FnOk Try.prog T 75 x75:=⟨Try.f75,[.frz [3],.draw [0,1,2,3,4,5,6,7] [4,4,4,4,4,4,4,4],.draw [0,1,2,3,4,5,6] [4,4,4,4,4,4,4],.draw [0,1,2,3,4,5,6] [4,4,4,4,4,4,4],.draw [0,1,2,3,4,5,6,7,8,9,10,11,12,13,14,15,16,17,18,19,20,21,22,23,24] [4,4,4,4,4,4,4,4,4,4,4,4,4,4,4,4,4,4,4,4,4,4,4,4,3],.draw [0,1,2,3,4,5,6,7,8,9,10,11,12,13,14,15,16,17,18,19,20,21,22,23,24,25,26,27] [4,4,4,4,4,4,4,4,4,4,4,4,4,4,4,4,4,4,4,4,4,4,4,4,4,4,4,4],.loop [0,3,4,5,108,109,110],.frz [],.frz [7],.draw [0,1,2,3,4,5,6,7,8,9,10,11,12,13,14,15,16,17,18,19,20,21] [4,4,4,4,4,4,4,4,4,4,4,4,4,4,4,4,4,4,4,4,4,4],.draw [0,1,2,3,4,5,6,7,8,9,10] [4,4,4,4,4,4,4,4,4,4,3],.draw [0,1,2,3,4,5,6,7,8,9,10,11,12,13,14,15] [4,4,4,4,4,4,4,4,4,4,4,4,4,4,4,4],.draw [0,1,2,3,4,5,6,7,8,9,10] [1,4,4,4,4,4,4,3,4,4,3],.draw [0,1,2,3,4,5,6,7] [4,4,4,4,4,4,4,4],.draw [0,1,2,3,4,5,6,7,8,9,10,11,12,13,14,15,16,17,18] [4,4,4,4,4,4,4,4,4,4,4,4,4,4,4,4,4,4,3],.loop [0,3,4,5,205,206],.draw [0,1,2,3,4,5,6,7,8,9,10,11,12,13,14,15,16,17,18,19] [4,4,4,4,4,4,4,4,4,4,4,4,4,4,4,4,4,4,4,3],.draw [0,1,2,3,4,5,6,7,8,9,10,11,12,13,14,15,16,17,18,19] [1,4,4,4,4,4,4,4,4,4,4,4,4,4,4,4,3,4,4,3]],Try.func75,by decide +kernel,by kernel_rfl⟩
def q4d:XCode:=(R0 [F0 15 2 3,L0 16 15,P0 17 (.bin .eql (.t 16) (Ca 0)),M0 18 17,G1 19 (Fa 1 3) 18,G1 20 (La 19) 18,G1 21 (Fa 0 2) 18,G1 22 (La 21) 18,G1 23 (Na 22) 18,G1 24 (.bin .sub (.t 23) (Ca 1)) 18,G1 25 (.call (.c (.fn 44 [])) [.t 20,(Ca 0),.t 24]) 18,P0 26 (.pick (.t 18) (.t 25) (.c (.bool false))),M0 27 26,G1 28 (Fa 1 3) 27,G1 29 (La 28) 27,G1 30 (Fa 3 3) 27,G1 31 (La 30) 27,G1 32 (.call (.c (.fn 72 [])) [.t 6,.t 29,.t 31]) 27,P0 33 (.pick (.t 27) (.t 32) (.c (.bool false))),M0 7 33])
def q3p:XCode:=(.cond (.t 34) .skip (R0 [P0 37 (.bin .eql (.t 12) (Ca 7)),M0 34 37]))
def q6e:XCode:=(Sq (R0 [P0 36 (.bin .eql (.t 12) (Ca 3)),M0 34 36]) q3p)
def q6q:XCode:=(.cond (.t 34) .skip q6e)
def q2p:XCode:=(R0 [F0 38 1 3,L0 39 38,F0 40 0 2,L0 41 40,N0 42 41,P0 43 (.bin .sub (.t 42) (Ca 1)),P0 44 (.call (.c (.fn 44 [])) [.t 39,(Ca 0),.t 43]),M0 45 44,G1 46 (Fa 0 2) 45,G1 47 (La 46) 45,G1 48 (Fa 1 3) 45,G1 49 (La 48) 45,G1 50 (Ia 5 47 49) 45,G1 51 (Fa 1 50) 45,G1 52 (La 51) 45,P0 53 (.pick (.t 45) (.t 52) (.c (.bool false))),M0 54 53,G1 55 (Fa 0 3) 54,G1 56 (La 55) 54,G1 57 (.bin .eql (.t 56) (Ca 3)) 54,G1 58 (Ma 57) 54,G2 59 (Fa 2 3) 58,G2 60 (La 59) 58,G2 61 (.bin .eql (.t 60) (Ca 0)) 58,G1 62 (.pick (.t 58) (.c (.bool true)) (.t 61)) 54,P0 63 (.pick (.t 54) (.t 62) (.c (.bool false))),M0 64 63,G1 65 (Ka 4 3) 64,G1 66 (.call (.c (.fn 73 [])) [.t 6,.t 65]) 64,P0 67 (.pick (.t 64) (.t 66) (.c (.bool false))),M0 7 67])
def q52:XCode:=(.cond (.t 68) .skip (R0 [P0 71 (.bin .eql (.t 12) (Ca 6)),M0 68 71]))
def q7c:XCode:=(Sq (R0 [P0 70 (.bin .eql (.t 12) (Ca 5)),M0 68 70]) q52)
def q72:XCode:=(.cond (.t 68) .skip q7c)
def q40:XCode:=(.cond (.t 89) (Sq (R0 [P0 90 (.build [.nil,.nil] []),S0 2 4 90,P0 5 (.mv (.c (.bool false)))]) .ret) .skip)
def qxl:XCode:=(R0 [F0 119 1 6,L0 120 119,K0 121 9 8,P0 122 (.buildS 86 1 [.bool false,.int .i64 0,.int .i64 0,.int .i64 0,.int .i64 0,.int .i64 0,.nil,.int .i64 0,.int .i64 0] [(0,(9,(.t 121)))]),P0 123 (.app 86 9 88 (.t 120) (.t 122)),F0 124 1 6,S0 1 124 123])
def qwc:XCode:=(Sq (R0 [P0 114 (.buildS 65 0 [] []),F0 115 6 8,L0 116 115,P0 117 (.app 65 2 16 (.t 114) (.t 116)),F0 118 6 8,S0 1 118 117]) qxl)
def qy3:XCode:=(Sq (R0 [F0 110 1 2,L0 111 110,N0 112 111,P0 113 (.bin .lss (.t 112) (Ca 20)),M0 7 113]) qwc)
def qz9:XCode:=(Sq (R0 [F0 127 1 6,L0 128 127,F0 129 1 3,L0 130 129,F0 131 1 3,L0 132 131,P0 133 (.bin .add (.t 132) (Ca 1)),P0 134 (.call (.c (.fn 74 [])) [.t 128,.t 130,.t 133]),F0 135 1 6,S0 1 135 134]) (R0 [K0 136 9 8,P0 137 (.call (.c (.fn 75 [])) [.t 6,.t 136])]))
def qyl:XCode:=(R0 [F0 99 1 6,L0 100 99,F0 101 1 3,L0 102 101,F0 103 1 3,L0 104 103,P0 105 (.bin .add (.t 104) (Ca 1)),P0 106 (.call (.c (.fn 74 [])) [.t 100,.t 102,.t 105]),F0 107 1 6,S0 1 107 106])
def q0i:XCode:=(.cond (.t 125) qz9 qyl)
def qvv:XCode:=(Sq (R0 [P0 126 (.bin .eql (.t 98) (Ca 4)),M0 125 126]) q0i)
def qww:XCode:=(.cond (.t 108) qy3 qvv)
def qvd:XCode:=(Sq (R0 [P0 109 (.bin .eql (.t 98) (Ca 6)),M0 108 109]) qww)
def qvr:XCode:=(.block 1 qvd)
def qte:XCode:=(Sq (R0 [F0 97 0 3,L0 98 97]) qvr)
def quy:XCode:=(Sq (R0 [P0 7 (.mv (.c (.bool true)))]) qte)
def qvs:XCode:=(Sq (R0 [F0 91 1 6,L0 92 91,F0 93 1 3,L0 94 93,I0 95 9 92 94,K0 96 9 95,P0 8 (.new 86 [.bool false,.int .i64 0,.int .i64 0,.int .i64 0,.int .i64 0,.int .i64 0,.nil,.int .i64 0,.int .i64 0]),S0 9 8 96]) quy)
def quz:XCode:=(Sq (Sq (R0 [F0 72 2 3,L0 73 72,P0 74 (.bin .neq (.t 73) (Ca 0)),M0 75 74,G2 76 (Fa 3 3) 75,G2 77 (La 76) 75,G2 78 (.bin .neq (.t 77) (Ca 0)) 75,P0 79 (.pick (.t 75) (.c (.bool true)) (.t 78)),M0 80 79,G2 81 (Fa 1 3) 80,G2 82 (La 81) 80,G2 83 (Fa 1 2) 80,G2 84 (La 83) 80,G2 85 (Na 84) 80,G2 86 (.bin .sub (.t 85) (Ca 1)) 80,G2 87 (.call (.c (.fn 44 [])) [.t 82,(Ca 0),.t 86]) 80,G2 88 (.un .not (.t 87)) 80,P0 89 (.pick (.t 80) (.c (.bool true)) (.t 88))]) q40) qvs)
def qs6:XCode:=(Cd 68 quz)
def qxu:XCode:=(Sq (Sq (R0 [P0 69 (.bin .eql (.t 12) (Ca 4)),M0 68 69]) q72) qs6)
def qsr:XCode:=(.cond (.t 34) q2p qxu)
def qyr:XCode:=(Sq (Sq (R0 [P0 35 (.bin .eql (.t 12) (Ca 2)),M0 34 35]) q6q) qsr)
def qyc:XCode:=(.cond (.t 13) q4d qyr)
def qxy:XCode:=(Sq (R0 [P0 14 (.bin .eql (.t 12) (Ca 1)),M0 13 14]) qyc)
def qwf:XCode:=(.block 0 qxy)
def qhy:XCode:=(.cond (.t 139) (Sq (R0 [P0 140 (.build [.nil,.nil] []),S0 2 4 140,P0 5 (.mv (.c (.bool false)))]) .ret) .skip)
def qhs:XCode:=(Sq (Sq (R0 [M0 138 7,P0 139 (.un .not (.t 138))]) qhy) (Sq (R0 [K0 141 2 6,S0 2 4 141,P0 5 (.mv (.c (.bool true)))]) .ret))
def qsn:XCode:=(Sq (Sq (R0 [F0 11 0 3,L0 12 11]) qwf) qhs)
def qtn:XCode:=(Sq (R0 [P0 7 (.mv (.c (.bool false)))]) qsn)
def qsh:XCode:=(Sq (R0 [K0 9 2 2,P0 10 (.call (.c (.fn 71 [])) [.t 9]),P0 6 (.new 29 [.nil,.nil]),S0 2 6 10]) qtn)
def x46:XFn:=⟨(Sq (Sq (R0 [P0 2 (.box 29 2 (.t 0)),P0 3 (.box 57 4 (.t 1)),P0 4 (.new 29 [.nil,.nil]),P0 5 (.mv (.c (.bool false)))]) (.frz [2,3])) qsh),142,[(.cell 4 (some 2)),.t 5]⟩
theorem zgd:FnOk Try.prog T 46 x46:=⟨Try.f46,[.frz [2,3]],Try.func46,by decide +kernel,by kernel_rfl⟩
def zcc:XCode:=(Sq (R0 [P0 21 (.build [.nil,.nil] []),S0 2 4 21,P0 5 (.mv (.c .nil)),P0 6 (.mv (.c (.bool false)))]) .ret)
def zb0:XCode:=(Cd 20 zcc)
def zdb:XCode:=(.cond (.t 37) (R0 [K0 38 2 11,S0 2 7 38]) .skip)
def zdf:XCode:=(R0 [M0 39 8,M0 40 12,P0 41 (.buildS 4 1 [.bool false] [(0,(1,(.t 40)))]),P0 42 (.app 4 1 1 (.t 39) (.t 41)),M0 8 42])
def zbe:XCode:=(Sq (Sq (R0 [M0 37 12]) zdb) zdf)
def zdi:XCode:=(Sq (Sq (R0 [K0 32 2 7,K0 33 4 10,P0 34 (.call (.c (.fn 46 [])) [.t 32,.t 33]),M0 31 34,P0 35 (.ext (.t 31) 0),P0 36 (.ext (.t 31) 1),P0 11 (.new 29 [.nil,.nil]),S0 2 11 35,M0 12 36]) (.frz [11])) zbe)
def zbv:XCode:=(Sq (Sq (R0 [I0 29 4 25 27,K0 30 4 29,P0 10 (.new 57 [.int .i64 0,.int .i64 0,.int .i64 0,.int .i64 0]),S0 4 10 30]) (.frz [10])) zdi)
def zgc:XCode:=(.block 0 (.loop [4,7,8,25,26,27] (Sq (R0 [Y0 28 .lss 27 26]) (Sq (.cond (.t 28) .skip (.exit 0)) (Sq (.block 1 zbv) (R0 [P0 43 (.bin .add (.t 27) (Ca 1)),M0 27 43]))))))
def zbq:XCode:=zgc
def q6m:XCode:=(Sq (R0 [K0 44 2 7,M0 45 8,S0 2 4 44,M0 5 45,P0 6 (.mv (.c (.bool true)))]) .ret)
def q9s:XCode:=(Sq (Sq (R0 [M0 25 1,N0 26 25,P0 27 (.mv (Ca 0))]) zbq) q6m)
def q42:XCode:=(Sq (R0 [P0 24 (.buildS 4 0 [] []),M0 8 24]) q9s)
def q5r:XCode:=(Sq (R0 [M0 22 0,P0 23 (.call (.c (.fn 45 [])) [.t 22]),P0 7 (.new 29 [.nil,.nil]),S0 2 7 23]) q42)
def q2q:XCode:=(Sq (Sq (R0 [M0 13 0,P0 14 (.call (.c (.fn 44 [])) [.t 13,(Ca 1),(Ca 5)]),P0 15 (.un .not (.t 14)),M0 16 15,G2 17 (Ma 1) 16,G2 18 (Na 17) 16,G2 19 (.bin .gtr (.t 18) (Ca 100)) 16,P0 20 (.pick (.t 16) (.c (.bool true)) (.t 19))]) zb0) q5r)
def x7:XFn:=⟨(Sq (R0 [P0 4 (.new 29 [.nil,.nil]),P0 5 (.mv (.c .nil)),P0 6 (.mv (.c (.bool false)))]) q2q),46,[(.cell 4 (some 2)),.t 5,.t 6]⟩
theorem ok7:FnOk Try.prog T 7 x7:=⟨Try.f7,[.loop [4,7,8,25,26,27],.frz [],.frz [10],.frz [11]],Try.func7,by decide +kernel,by kernel_rfl⟩
def zc5:XCode:=(Sq (R0 [P0 26 (.build [.nil,.nil] []),S0 2 4 26,P0 5 (.mv (.c .nil)),P0 6 (.mv (.c (.bool false)))]) .ret)
def zb5:XCode:=(Cd 25 zc5)
def zb4:XCode:=(.cond (.t 40) (R0 [K0 41 2 12,S0 2 7 41]) .skip)
def zc8:XCode:=(R0 [M0 42 9,M0 43 13,P0 44 (.buildS 4 1 [.bool false] [(0,(1,(.t 43)))]),P0 45 (.app 4 1 1 (.t 42) (.t 44)),M0 9 45])
def zbz:XCode:=(Sq (Sq (R0 [M0 40 13]) zb4) zc8)
def zch:XCode:=(Sq (Sq (R1 [⟨some 12,.new 29 [.nil,.nil],none,1⟩,K4 34 2 7,⟨some 35,.call (.c (.fn 48 [])) [.t 34],none,2⟩,⟨some 36,.ld (some 4) (.t 11),none,1⟩,⟨some 37,.call (.c (.fn 47 [])) [.t 35,.t 36],none,3⟩,M4 33 37,P4 38 (.ext (.t 33) 0),⟨some 39,.ext (.t 33) 1,none,1⟩,S3 2 12 38,M4 13 39]) (.frz [12])) zbz)
def zbl:XCode:=(Sq (Sq (R0 [I0 31 4 27 29,K0 32 4 31,P0 11 (.new 57 [.int .i64 0,.int .i64 0,.int .i64 0,.int .i64 0]),S0 4 11 32]) (.frz [11])) zch)
def zfj:XCode:=(.block 0 (.loop [4,7,9,27,28,29] (Sq (R0 [Y0 30 .lss 29 28]) (Sq (.cond (.t 30) .skip (.exit 0)) (Sq (.block 1 zbl) (R0 [P0 46 (.bin .add (.t 29) (Ca 1)),M0 29 46]))))))
def zc0:XCode:=zfj
def q9p:XCode:=(Sq (R0 [K0 47 2 7,P0 48 (.call (.c (.fn 48 [])) [.t 47]),M0 49 9,S0 2 4 48,M0 5 49,P0 6 (.mv (.c (.bool true)))]) .ret)
def q3a:XCode:=(Sq (Sq (R0 [M0 27 1,N0 28 27,P0 29 (.mv (Ca 0))]) zc0) q9p)
def q5p:XCode:=(Sq (R0 [P0 9 (.mv (.c .nil))]) q3a)
def q55:XCode:=(Sq (Sq (R0 [M0 19 8,P0 20 (.un .not (.t 19)),M0 21 20,G2 22 (Ma 1) 21,G2 23 (Na 22) 21,G2 24 (.bin .gtr (.t 23) (Ca 100)) 21,P0 25 (.pick (.t 21) (.c (.bool true)) (.t 24))]) zb5) q5p)
def q35:XCode:=(Sq (R0 [M0 15 0,P0 16 (.call (.c (.fn 40 [])) [.t 15]),M0 14 16,P0 17 (.ext (.t 14) 0),P0 18 (.ext (.t 14) 1),P0 7 (.new 29 [.nil,.nil]),S0 2 7 17,M0 8 18]) q55)
def x8:XFn:=⟨(Sq (R0 [P0 4 (.new 29 [.nil,.nil]),P0 5 (.mv (.c .nil)),P0 6 (.mv (.c (.bool false)))]) q35),50,[(.cell 4 (some 2)),.t 5,.t 6]⟩
theorem ok8:FnOk Try.prog T 8 x8:=⟨Try.f8,[.loop [4,7,9,27,28,29],.frz [],.frz [11],.draw [7,0,1,2,3,4,5,6,8,9] [1,4,2,1,3,4,4,1,3,4],.frz [12]],Try.func8,by decide +kernel,by kernel_rfl⟩
def zbs:XCode:=(Sq (R1 [M4 16 0,M4 17 5,I4 18 1 16 17,L4 19 18,M4 20 1,M4 21 5,I4 22 1 20 21,L4 23 22,P4 24 (.eqb true (.t 19) (.t 23))]) (.cond (.t 24) (Sq (R0 [P0 4 (.mv (.c (.bool false)))]) .ret) .skip))
def zb2:XCode:=(Sq (R0 [M0 15 13,M0 5 15]) zbs)
def zg3:XCode:=(.block 0 (.loop [0,1,12,13] (Sq (R0 [Y0 14 .lss 13 12]) (Sq (.cond (.t 14) .skip (.exit 0)) (Sq (.block 1 zb2) (R0 [P0 25 (.bin .add (.t 13) (Ca 1)),M0 13 25]))))))
def zcd:XCode:=zg3
def zct:XCode:=(Sq (Sq (R0 [M0 11 0,N0 12 11,P0 13 (.mv (Ca 0))]) zcd) (Sq (R0 [P0 4 (.mv (.c (.bool true)))]) .ret))
def zdn:XCode:=(Sq (Sq (R0 [M0 6 0,N0 7 6,M0 8 1,N0 9 8,Y0 10 .neq 7 9]) (.cond (.t 10) (Sq (R0 [P0 4 (.mv (.c (.bool false)))]) .ret) .skip)) zct)
def x9:XFn:=⟨(Sq (R0 [P0 4 (.mv (.c (.bool false)))]) zdn),26,[.t 4]⟩
theorem ok9:FnOk Try.prog T 9 x9:=⟨Try.f9,[.loop [0,1,12,13],.draw [0,1,2,3,4,5,6,7,8] [4,4,4,4,4,4,4,4,4]],Try.func9,by decide +kernel,by kernel_rfl⟩
def q2v:XCode:=(Sq (R1 [M4 16 0,M4 17 5,I4 18 2 16 17,K4 19 2 18,M4 20 1,M4 21 5,I4 22 2 20 21,K4 23 2 22,P4 24 (.eqs true [.int .i64,.int .i64] (.t 19) (.t 23))]) (.cond (.t 24) (Sq (R0 [P0 4 (.mv (.c (.bool false)))]) .ret) .skip))
def q31:XCode:=(Sq (R0 [M0 15 13,M0 5 15]) q2v)
def zem:XCode:=(.block 0 (.loop [0,1,12,13] (Sq (R0 [Y0 14 .lss 13 12]) (Sq (.cond (.t 14) .skip (.exit 0)) (Sq (.block 1 q31) (R0 [P0 25 (.bin .add (.t 13) (Ca 1)),M0 13 25]))))))
def q3h:XCode:=zem
def q6h:XCode:=(Sq (Sq (R0 [M0 11 0,N0 12 11,P0 13 (.mv (Ca 0))]) q3h) (Sq (R0 [P0 4 (.mv (.c (.bool true)))]) .ret))
def q4s:XCode:=(Sq (Sq (R0 [M0 6 0,N0 7 6,M0 8 1,N0 9 8,Y0 10 .neq 7 9]) (.cond (.t 10) (Sq (R0 [P0 4 (.mv (.c (.bool false)))]) .ret) .skip)) q6h)
def x14:XFn:=⟨(Sq (R0 [P0 4 (.mv (.c (.bool false)))]) q4s),26,[.t 4]⟩
theorem zgs:FnOk Try.prog T 14 x14:=⟨Try.f14,[.loop [0,1,12,13],.draw [0,1,2,3,4,5,6,7,8] [4,4,4,4,4,4,4,4,4]],Try.func14,by decide +kernel,by kernel_rfl⟩
def q6k:XCode:=(Sq (R1 [M4 16 0,M4 17 5,I4 18 1 16 17,L4 19 18,M4 20 1,M4 21 5,I4 22 1 20 21,L4 23 22,Y4 24 .neq 19 23]) (.cond (.t 24) (Sq (R0 [P0 4 (.mv (.c (.bool false)))]) .ret) .skip))
def q7s:XCode:=(Sq (R0 [M0 15 13,M0 5 15]) q6k)
def zfh:XCode:=(.block 0 (.loop [0,1,12,13] (Sq (R0 [Y0 14 .lss 13 12]) (Sq (.cond (.t 14) .skip (.exit 0)) (Sq (.block 1 q7s) (R0 [P0 25 (.bin .add (.t 13) (Ca 1)),M0 13 25]))))))
def q58:XCode:=zfh
def q64:XCode:=(Sq (Sq (R0 [M0 11 0,N0 12 11,P0 13 (.mv (Ca 0))]) q58) (Sq (R0 [P0 4 (.mv (.c (.bool true)))]) .ret))
def q9h:XCode:=(Sq (Sq (R0 [M0 6 0,N0 7 6,M0 8 1,N0 9 8,Y0 10 .neq 7 9]) (.cond (.t 10) (Sq (R0 [P0 4 (.mv (.c (.bool false)))]) .ret) .skip)) q64)
def x41:XFn:=⟨(Sq (R0 [P0 4 (.mv (.c (.bool false)))]) q9h),26,[.t 4]⟩
theorem zfm:FnOk Try.prog T 41 x41:=⟨Try.f41,[.loop [0,1,12,13],.draw [0,1,2,3,4,5,6,7,8] [4,4,4,4,4,4,4,4,4]],Try.func41,by decide +kernel,by kernel_rfl⟩
def q83:XCode:=(Sq (R0 [F0 43 0 6,L0 44 43,F0 45 0 7,L0 46 45,Y0 47 .neq 44 46,M0 48 47,G2 49 (Fa 1 6) 48,G2 50 (La 49) 48,G2 51 (Fa 1 7) 48,G2 52 (La 51) 48,G2 53 (.eqb true (.t 50) (.t 52)) 48,P0 54 (.pick (.t 48) (.c (.bool true)) (.t 53)),M0 55 54,G2 56 (Fa 3 6) 55,G2 57 (La 56) 55,G2 58 (Fa 3 7) 55,G2 59 (La 58) 55,G2 60 (Ya .neq 57 59) 55,P0 61 (.pick (.t 55) (.c (.bool true)) (.t 60)),M0 62 61,G2 63 (Fa 2 6) 62,G2 64 (La 63) 62,G2 65 (Fa 2 7) 62,G2 66 (La 65) 62,G2 67 (.call (.c (.fn 14 [])) [.t 64,.t 66]) 62,G2 68 (.un .not (.t 67)) 62,P0 69 (.pick (.t 62) (.c (.bool true)) (.t 68)),M0 70 69,G2 71 (Fa 4 6) 70,G2 72 (La 71) 70,G2 73 (Fa 4 7) 70,G2 74 (La 73) 70,G2 75 (.call (.c (.fn 41 [])) [.t 72,.t 74]) 70,G2 76 (.un .not (.t 75)) 70,P0 77 (.pick (.t 70) (.c (.bool true)) (.t 76))]) (.cond (.t 77) (Sq (R0 [P0 4 (.mv (.c (.bool false)))]) .ret) .skip))
def q5l:XCode:=(Sq (Sq (R0 [F0 38 0 3,L0 39 38,M0 40 5,I0 41 5 39 40,K0 42 5 41,P0 7 (.new 43 [.int .i64 0,.bool false,.nil,.int .i64 0,.nil]),S0 5 7 42]) (.frz [7])) q83)
def q53:XCode:=(Sq (Sq (R0 [F0 33 0 2,L0 34 33,M0 35 5,I0 36 5 34 35,K0 37 5 36,P0 6 (.new 43 [.int .i64 0,.bool false,.nil,.int .i64 0,.nil]),S0 5 6 37]) (.frz [6])) q5l)
def q7y:XCode:=(Sq (R0 [M0 32 30,M0 5 32]) q53)
def ze2:XCode:=(.block 0 (.loop [2,3,29,30] (Sq (R0 [Y0 31 .lss 30 29]) (Sq (.cond (.t 31) .skip (.exit 0)) (Sq (.block 1 q7y) (R0 [P0 78 (.bin .add (.t 30) (Ca 1)),M0 30 78]))))))
def q6y:XCode:=ze2
def q68:XCode:=(Sq (R0 [F0 95 0 9,L0 96 95,F0 97 0 10,L0 98 97,P0 99 (.eqb true (.t 96) (.t 98)),M0 100 99,G2 101 (Fa 1 9) 100,G2 102 (La 101) 100,G2 103 (Fa 1 10) 100,G2 104 (La 103) 100,G2 105 (Ya .neq 102 104) 100,P0 106 (.pick (.t 100) (.c (.bool true)) (.t 105)),M0 107 106,G2 108 (Fa 2 9) 107,G2 109 (La 108) 107,G2 110 (Fa 2 10) 107,G2 111 (La 110) 107,G2 112 (Ya .neq 109 111) 107,P0 113 (.pick (.t 107) (.c (.bool true)) (.t 112)),M0 114 113,G2 115 (Fa 3 9) 114,G2 116 (La 115) 114,G2 117 (Fa 3 10) 114,G2 118 (La 117) 114,G2 119 (Ya .neq 116 118) 114,P0 120 (.pick (.t 114) (.c (.bool true)) (.t 119)),M0 121 120,G2 122 (Fa 4 9) 121,G2 123 (La 122) 121,G2 124 (Fa 4 10) 121,G2 125 (La 124) 121,G2 126 (Ya .neq 123 125) 121,P0 127 (.pick (.t 121) (.c (.bool true)) (.t 126)),M0 128 127,G2 129 (Fa 5 9) 128,G2 130 (La 129) 128,G2 131 (Fa 5 10) 128,G2 132 (La 131) 128,G2 133 (Ya .neq 130 132) 128,P0 134 (.pick (.t 128) (.c (.bool true)) (.t 133)),M0 135 134,G2 136 (Fa 7 9) 135,G2 137 (La 136) 135,G2 138 (Fa 7 10) 135,G2 139 (La 138) 135,G2 140 (Ya .neq 137 139) 135,P0 141 (.pick (.t 135) (.c (.bool true)) (.t 140)),M0 142 141,G2 143 (Fa 8 9) 142,G2 144 (La 143) 142,G2 145 (Fa 8 10) 142,G2 146 (La 145) 142,G2 147 (Ya .neq 144 146) 142,P0 148 (.pick (.t 142) (.c (.bool true)) (.t 147)),M0 149 148,G2 150 (Fa 6 9) 149,G2 151 (La 150) 149,G2 152 (Fa 6 10) 149,G2 153 (La 152) 149,G2 154 (.call (.c (.fn 14 [])) [.t 151,.t 153]) 149,G2 155 (.un .not (.t 154)) 149,P0 156 (.pick (.t 149) (.c (.bool true)) (.t 155))]) (.cond (.t 156) (Sq (R0 [P0 4 (.mv (.c (.bool false)))]) .ret) .skip))
def q92:XCode:=(Sq (Sq (R0 [F0 90 1 3,L0 91 90,M0 92 8,I0 93 9 91 92,K0 94 9 93,P0 10 (.new 86 [.bool false,.int .i64 0,.int .i64 0,.int .i64 0,.int .i64 0,.int .i64 0,.nil,.int .i64 0,.int .i64 0]),S0 9 10 94]) (.frz [10])) q68)
def q7q:XCode:=(Sq (Sq (R0 [F0 85 1 2,L0 86 85,M0 87 8,I0 88 9 86 87,K0 89 9 88,P0 9 (.new 86 [.bool false,.int .i64 0,.int .i64 0,.int .i64 0,.int .i64 0,.int .i64 0,.nil,.int .i64 0,.int .i64 0]),S0 9 9 89]) (.frz [9])) q92)
def qy1:XCode:=(Sq (R0 [M0 84 82,M0 8 84]) q7q)
def zcl:XCode:=(.block 2 (.loop [2,3,81,82] (Sq (R0 [Y0 83 .lss 82 81]) (Sq (.cond (.t 83) .skip (.exit 2)) (Sq (.block 3 qy1) (R0 [P0 157 (.bin .add (.t 82) (Ca 1)),M0 82 157]))))))
def qyv:XCode:=zcl
def qsp:XCode:=(Sq (Sq (R0 [F0 79 1 2,L0 80 79,N0 81 80,P0 82 (.mv (Ca 0))]) qyv) (Sq (R0 [P0 4 (.mv (.c (.bool true)))]) .ret))
def qxn:XCode:=(Sq (Sq (R0 [F0 27 0 2,L0 28 27,N0 29 28,P0 30 (.mv (Ca 0))]) q6y) qsp)
def qvj:XCode:=(Sq (Sq (R0 [F0 11 0 2,L0 12 11,N0 13 12,F0 14 0 3,L0 15 14,N0 16 15,Y0 17 .neq 13 16,M0 18 17,G2 19 (Fa 1 2) 18,G2 20 (La 19) 18,G2 21 (Na 20) 18,G2 22 (Fa 1 3) 18,G2 23 (La 22) 18,G2 24 (Na 23) 18,G2 25 (Ya .neq 21 24) 18,P0 26 (.pick (.t 18) (.c (.bool true)) (.t 25))]) (.cond (.t 26) (Sq (R0 [P0 4 (.mv (.c (.bool false)))]) .ret) .skip)) qxn)
def x10:XFn:=⟨(Sq (Sq (R0 [P0 2 (.box 29 2 (.t 0)),P0 3 (.box 29 2 (.t 1)),P0 4 (.mv (.c (.bool false)))]) (.frz [2,3])) qvj),158,[.t 4]⟩
theorem zfl:FnOk Try.prog T 10 x10:=⟨Try.f10,[.frz [2,3],.loop [2,3,29,30],.frz [],.frz [],.frz [6],.frz [7],.loop [2,3,81,82],.frz [],.frz [],.frz [9],.frz [10]],Try.func10,by decide +kernel,by kernel_rfl⟩
def q84:XCode:=(Sq (Sq (R0 [F0 14 0 7,L0 15 14,M0 16 5,M0 17 1,P0 18 (.call (.c (.fn 44 [])) [.t 15,.t 16,.t 17]),P0 19 (.un .not (.t 18)),M0 20 19,G2 21 (Fa 1 7) 20,G2 22 (La 21) 20,G2 23 (.call (.c (.fn 44 [])) [.t 22,(Ca 0),(Ca 99)]) 20,G2 24 (.un .not (.t 23)) 20,P0 25 (.pick (.t 20) (.c (.bool true)) (.t 24))]) (.cond (.t 25) (Sq (R0 [P0 4 (.mv (.c (.bool false)))]) .ret) .skip)) (R0 [F0 26 0 7,L0 27 26,M0 5 27]))
def q9q:XCode:=(Sq (Sq (R0 [I0 12 2 8 10,K0 13 2 12,P0 7 (.new 65 [.int .i64 0,.int .i64 0]),S0 2 7 13]) (.frz [7])) q84)
def zfe:XCode:=(.block 0 (.loop [0,1,5,8,9,10] (Sq (R0 [Y0 11 .lss 10 9]) (Sq (.cond (.t 11) .skip (.exit 0)) (Sq (.block 1 q9q) (R0 [P0 28 (.bin .add (.t 10) (Ca 1)),M0 10 28]))))))
def q90:XCode:=zfe
def q6c:XCode:=(Sq (R0 [M0 29 0,N0 30 29,P0 31 (.bin .leq (.t 30) (Ca 30)),M0 4 31]) .ret)
def q6z:XCode:=(Sq (Sq (R0 [M0 8 0,N0 9 8,P0 10 (.mv (Ca 0))]) q90) q6c)
def q8u:XCode:=(Sq (R0 [P0 5 (.mv (Ca 0))]) q6z)
def x50:XFn:=⟨(Sq (R0 [P0 4 (.mv (.c (.bool false)))]) q8u),32,[.t 4]⟩
theorem zg1:FnOk Try.prog T 50 x50:=⟨Try.f50,[.loop [0,1,5,8,9,10],.frz [],.frz [7]],Try.func50,by decide +kernel,by kernel_rfl⟩
def q4f:XCode:=(.cond (.t 16) (Sq (R0 [M0 17 5,M0 4 17]) .ret) .skip)
def q5q:XCode:=(Sq (R0 [M0 11 1,M0 12 0,M0 13 5,I0 14 9 12 13,K0 15 9 14,P0 16 (.call (.t 11) [.t 15])]) q4f)
def q6t:XCode:=(Sq (R0 [M0 10 8,M0 5 10]) q5q)
def zeb:XCode:=(.block 0 (.loop [0,1,7,8] (Sq (R0 [Y0 9 .lss 8 7]) (Sq (.cond (.t 9) .skip (.exit 0)) (Sq (.block 1 q6t) (R0 [P0 18 (.bin .add (.t 8) (Ca 1)),M0 8 18]))))))
def q3w:XCode:=zeb
def q5b:XCode:=(Sq (Sq (R0 [M0 6 0,N0 7 6,P0 8 (.mv (Ca 0))]) q3w) (Sq (R0 [P0 4 (.mv (.c (.int .i64 (-1))))]) .ret))
def x98:XFn:=⟨(Sq (R0 [P0 4 (.mv (Ca 0))]) q5b),19,[.t 4]⟩
theorem zfw:FnOk Try.prog T 98 x98:=⟨Try.f98,[.loop [0,1,7,8]],Try.func98,by decide +kernel,by kernel_rfl⟩
def q4t:XCode:=(Sq (R0 [M0 5 0,M0 6 1,P0 7 (.call (.c (.fn 98 [])) [.t 5,.t 6]),P0 8 (.bin .geq (.t 7) (Ca 0)),M0 4 8]) .ret)
def x80:XFn:=⟨(Sq (R0 [P0 4 (.mv (.c (.bool false)))]) q4t),9,[.t 4]⟩
theorem zf9:FnOk Try.prog T 80 x80:=⟨Try.f80,[],Try.func80,by decide +kernel,by kernel_rfl⟩
def quf:XCode:=(.cond (.t 16) (Sq (R0 [M0 17 5,M0 4 17]) .ret) .skip)
def qwx:XCode:=(Sq (R0 [M0 11 1,M0 12 0,M0 13 5,I0 14 2 12 13,K0 15 2 14,P0 16 (.call (.t 11) [.t 15])]) quf)
def qz8:XCode:=(Sq (R0 [M0 10 8,M0 5 10]) qwx)
def zdl:XCode:=(.block 0 (.loop [0,1,7,8] (Sq (R0 [Y0 9 .lss 8 7]) (Sq (.cond (.t 9) .skip (.exit 0)) (Sq (.block 1 qz8) (R0 [P0 18 (.bin .add (.t 8) (Ca 1)),M0 8 18]))))))
def qxw:XCode:=zdl
def qtb:XCode:=(Sq (Sq (R0 [M0 6 0,N0 7 6,P0 8 (.mv (Ca 0))]) qxw) (Sq (R0 [P0 4 (.mv (.c (.int .i64 (-1))))]) .ret))
def qsa:XFn:=⟨(Sq (R0 [P0 4 (.mv (Ca 0))]) qtb),19,[.t 4]⟩
theorem ze7:FnOk Try.prog T 106 qsa:=⟨Try.f106,[.loop [0,1,7,8]],Try.func106,by decide +kernel,by kernel_rfl⟩
def q6p:XCode:=(Sq (R0 [M0 5 0,M0 6 1,P0 7 (.call (.c (.fn 106 [])) [.t 5,.t 6]),P0 8 (.bin .geq (.t 7) (Ca 0)),M0 4 8]) .ret)
def x99:XFn:=⟨(Sq (R0 [P0 4 (.mv (.c (.bool false)))]) q6p),9,[.t 4]⟩
theorem zg2:FnOk Try.prog T 99 x99:=⟨Try.f99,[],Try.func99,by decide +kernel,by kernel_rfl⟩
def qw1:XCode:=(Sq (R0 [F0 4 0 2,L0 5 4,F0 6 5 1,L0 7 6,P0 8 (.mnx true [.t 7,(Ca 0)]),F0 9 3 1,L0 10 9,P0 11 (.call (.c (.fn 44 [])) [.t 5,.t 8,.t 10]),P0 12 (.un .not (.t 11)),M0 13 12,G2 14 (Fa 1 2) 13,G2 15 (La 14) 13,G2 16 (.call (.c (.fn 44 [])) [.t 15,(Ca 0),(Ca 99)]) 13,G2 17 (.un .not (.t 16)) 13,P0 18 (.pick (.t 13) (.c (.bool true)) (.t 17)),M0 3 18]) .ret)
def qrt:XFn:=⟨(Sq (Sq (R0 [P0 2 (.box 65 2 (.t 0)),P0 3 (.mv (.c (.bool false)))]) (.frz [2])) qw1),19,[.t 3]⟩
theorem zd5:FnOk Try.prog T 100 qrt:=⟨Try.f100,[.frz [2]],Try.func100,by decide +kernel,by kernel_rfl⟩
def q81:XCode:=(Sq (R0 [F0 34 4 2,L0 35 34,P0 36 (.bin .eql (.t 35) (Ca 0)),M0 37 36,G1 38 (Fa 5 2) 37,G1 39 (La 38) 37,G1 40 (.bin .eql (.t 39) (Ca 0)) 37,P0 41 (.pick (.t 37) (.t 40) (.c (.bool false))),M0 42 41,G1 43 (Fa 6 2) 42,G1 44 (La 43) 42,G1 45 (Na 44) 42,G1 46 (.bin .eql (.t 45) (Ca 0)) 42,P0 47 (.pick (.t 42) (.t 46) (.c (.bool false))),M0 48 47,G1 49 (Fa 7 2) 48,G1 50 (La 49) 48,G1 51 (.bin .eql (.t 50) (Ca 0)) 48,P0 52 (.pick (.t 48) (.t 51) (.c (.bool false))),M0 53 52,G1 54 (Fa 8 2) 53,G1 55 (La 54) 53,G1 56 (.call (.c (.fn 44 [])) [.t 55,(Ca 0),(Ca 30)]) 53,P0 57 (.pick (.t 53) (.t 56) (.c (.bool false))),M0 4 57]) .ret)
def q9a:XCode:=(Cd 33 q81)
def q36:XCode:=(Sq (R0 [F0 96 6 2,L0 97 96,P0 98 (.mkF 100 [.t 2]),P0 99 (.call (.c (.fn 99 [])) [.t 97,.t 98]),P0 100 (.un .not (.t 99)),M0 4 100]) .ret)
def q8m:XCode:=(Sq (Sq (R0 [F0 58 8 2,L0 59 58,P0 60 (.bin .neq (.t 59) (Ca 0)),M0 61 60,G2 62 (Fa 4 2) 61,G2 63 (La 62) 61,G2 64 (.call (.c (.fn 44 [])) [.t 63,(Ca 0),(Ca 30)]) 61,G2 65 (.un .not (.t 64)) 61,P0 66 (.pick (.t 61) (.c (.bool true)) (.t 65)),M0 67 66,G2 68 (Fa 7 2) 67,G2 69 (La 68) 67,G2 70 (.call (.c (.fn 44 [])) [.t 69,(Ca 0),(Ca 30)]) 67,G2 71 (.un .not (.t 70)) 67,P0 72 (.pick (.t 67) (.c (.bool true)) (.t 71)),M0 73 72,G2 74 (Fa 5 2) 73,G2 75 (La 74) 73,G2 76 (Fa 3 2) 73,G2 77 (La 76) 73,G2 78 (.call (.c (.fn 44 [])) [.t 75,(.c (.int .i64 (-1))),.t 77]) 73,G2 79 (.un .not (.t 78)) 73,P0 80 (.pick (.t 73) (.c (.bool true)) (.t 79)),M0 81 80,G2 82 (Fa 5 2) 81,G2 83 (La 82) 81,G2 84 (.bin .eql (.t 83) (.c (.int .i64 (-1)))) 81,G2 85 (Fa 4 2) 81,G2 86 (La 85) 81,G2 87 (.bin .eql (.t 86) (Ca 0)) 81,G2 88 (.eqb true (.t 84) (.t 87)) 81,P0 89 (.pick (.t 81) (.c (.bool true)) (.t 88)),M0 90 89,G2 91 (Fa 6 2) 90,G2 92 (La 91) 90,G2 93 (Na 92) 90,G2 94 (.bin .gtr (.t 93) (Ca 1)) 90,P0 95 (.pick (.t 90) (.c (.bool true)) (.t 94))]) (.cond (.t 95) (Sq (R0 [P0 4 (.mv (.c (.bool false)))]) .ret) .skip)) q36)
def q32:XCode:=(Sq (Sq (R0 [F0 32 0 2,L0 33 32]) q9a) q8m)
def q7u:XCode:=(Sq (Sq (R0 [F0 5 1 2,L0 6 5,M0 7 1,P0 8 (.bin .sub (.t 7) (Ca 1)),P0 9 (.call (.c (.fn 44 [])) [.t 6,(Ca 0),.t 8]),P0 10 (.un .not (.t 9)),M0 11 10,G2 12 (Fa 2 2) 11,G2 13 (La 12) 11,G2 14 (Ma 1) 11,G2 15 (.bin .sub (.t 14) (Ca 1)) 11,G2 16 (.call (.c (.fn 44 [])) [.t 13,(Ca 0),.t 15]) 11,G2 17 (.un .not (.t 16)) 11,P0 18 (.pick (.t 11) (.c (.bool true)) (.t 17)),M0 19 18,G2 20 (Fa 1 2) 19,G2 21 (La 20) 19,G2 22 (Fa 2 2) 19,G2 23 (La 22) 19,G2 24 (Ya .eql 21 23) 19,P0 25 (.pick (.t 19) (.c (.bool true)) (.t 24)),M0 26 25,G2 27 (Fa 3 2) 26,G2 28 (La 27) 26,G2 29 (.call (.c (.fn 44 [])) [.t 28,(Ca 0),(Ca 100)]) 26,G2 30 (.un .not (.t 29)) 26,P0 31 (.pick (.t 26) (.c (.bool true)) (.t 30))]) (.cond (.t 31) (Sq (R0 [P0 4 (.mv (.c (.bool false)))]) .ret) .skip)) q32)
def x82:XFn:=⟨(Sq (Sq (R0 [P0 2 (.box 86 9 (.t 0)),P0 4 (.mv (.c (.bool false)))]) (.frz [2])) q7u),101,[.t 4]⟩
theorem zf5:FnOk Try.prog T 82 x82:=⟨Try.f82,[.frz [2]],Try.func82,by decide +kernel,by kernel_rfl⟩
def q3x:XCode:=(Sq (R0 [K0 4 9 2,L0 5 1,P0 6 (.call (.c (.fn 82 [])) [.t 4,.t 5]),P0 7 (.un .not (.t 6)),M0 3 7]) .ret)
def x81:XFn:=⟨(Sq (Sq (R0 [P0 2 (.box 86 9 (.t 0)),P0 3 (.mv (.c (.bool false)))]) (.frz [2])) q3x),8,[.t 3]⟩
theorem zgk:FnOk Try.prog T 81 x81:=⟨Try.f81,[.frz [2]],Try.func81,by decide +kernel,by kernel_rfl⟩
def q7e:XCode:=(Sq (R0 [M0 62 7,F0 63 2 5,L0 64 63,N0 65 64,P0 66 (.call (.c (.fn 44 [])) [.t 62,(Ca 0),.t 65]),P0 67 (.un .not (.t 66)),M0 68 67,G2 69 (Fa 1 5) 68,G2 70 (La 69) 68,G2 71 (.un .not (.t 70)) 68,G2 72 (Ma 71) 68,G1 73 (Ma 7) 72,G1 74 (.bin .neq (.t 73) (Ca 0)) 72,G2 75 (.pick (.t 72) (.t 74) (.c (.bool false))) 68,P0 76 (.pick (.t 68) (.c (.bool true)) (.t 75))]) (.cond (.t 76) (Sq (R0 [P0 2 (.mv (.c (.bool false)))]) .ret) .skip))
def q3r:XCode:=(Sq (R0 [I0 60 1 56 58,L0 61 60,M0 7 61]) q7e)
def ze8:XCode:=(.block 2 (.loop [1,3,5,21,22,23,56,57,58] (Sq (R0 [Y0 59 .lss 58 57]) (Sq (.cond (.t 59) .skip (.exit 2)) (Sq (.block 3 q3r) (R0 [P0 77 (.bin .add (.t 58) (Ca 1)),M0 58 77]))))))
def q2h:XCode:=ze8
def q28:XCode:=(Sq (R0 [F0 55 4 5,L0 56 55,N0 57 56,P0 58 (.mv (Ca 0))]) q2h)
def q8o:XCode:=(Sq (Sq (R0 [F0 27 0 5,L0 28 27,P0 29 (.call (.c (.fn 44 [])) [.t 28,(Ca 0),(Ca 100)]),P0 30 (.un .not (.t 29)),M0 31 30,G2 32 (Fa 2 5) 31,G2 33 (La 32) 31,G2 34 (Fa 0 5) 31,G2 35 (La 34) 31,G2 36 (.call (.c (.fn 50 [])) [.t 33,.t 35]) 31,G2 37 (.un .not (.t 36)) 31,P0 38 (.pick (.t 31) (.c (.bool true)) (.t 37)),M0 39 38,G2 40 (Fa 3 5) 39,G2 41 (La 40) 39,G2 42 (Fa 2 5) 39,G2 43 (La 42) 39,G2 44 (Na 43) 39,G2 45 (.call (.c (.fn 44 [])) [.t 41,(Ca 0),.t 44]) 39,G2 46 (.un .not (.t 45)) 39,P0 47 (.pick (.t 39) (.c (.bool true)) (.t 46)),M0 48 47,G2 49 (Fa 4 5) 48,G2 50 (La 49) 48,G2 51 (Na 50) 48,G2 52 (La 3) 48,G2 53 (Ya .neq 51 52) 48,P0 54 (.pick (.t 48) (.c (.bool true)) (.t 53))]) (.cond (.t 54) (Sq (R0 [P0 2 (.mv (.c (.bool false)))]) .ret) .skip)) q28)
def q7m:XCode:=(Sq (Sq (R0 [I0 25 5 21 23,K0 26 5 25,P0 5 (.new 43 [.int .i64 0,.bool false,.nil,.int .i64 0,.nil]),S0 5 5 26]) (.frz [5])) q8o)
def zee:XCode:=(.block 0 (.loop [1,3,21,22,23] (Sq (R0 [Y0 24 .lss 23 22]) (Sq (.cond (.t 24) .skip (.exit 0)) (Sq (.block 1 q7m) (R0 [P0 78 (.bin .add (.t 23) (Ca 1)),M0 23 78]))))))
def q3o:XCode:=zee
def qs8:XCode:=(Sq (R0 [F0 79 1 1,L0 80 79,P0 81 (.mkF 81 [.t 3]),P0 82 (.call (.c (.fn 80 [])) [.t 80,.t 81]),P0 83 (.un .not (.t 82)),M0 2 83]) .ret)
def qwn:XCode:=(Sq (Sq (R0 [F0 20 0 1,L0 21 20,N0 22 21,P0 23 (.mv (Ca 0))]) q3o) qs8)
def qwg:XCode:=(Sq (Sq (R0 [L0 11 3,P0 12 (.call (.c (.fn 44 [])) [.t 11,(Ca 1),(Ca 5)]),P0 13 (.un .not (.t 12)),M0 14 13,G2 15 (Fa 1 1) 14,G2 16 (La 15) 14,G2 17 (Na 16) 14,G2 18 (.bin .gtr (.t 17) (Ca 20)) 14,P0 19 (.pick (.t 14) (.c (.bool true)) (.t 18))]) (.cond (.t 19) (Sq (R0 [P0 2 (.mv (.c (.bool false)))]) .ret) .skip)) qwn)
def qwd:XCode:=(Sq (Sq (R0 [F0 8 0 1,L0 9 8,N0 10 9,P0 3 (.new 3 [.int .i64 0]),S0 1 3 10]) (.frz [3])) qwg)
def x49:XFn:=⟨(Sq (Sq (R0 [P0 1 (.box 29 2 (.t 0)),P0 2 (.mv (.c (.bool false)))]) (.frz [1])) qwd),84,[.t 2]⟩
theorem zfs:FnOk Try.prog T 49 x49:=⟨Try.f49,[.frz [1],.frz [3],.loop [1,3,21,22,23],.frz [],.frz [5],.loop [1,3,5,21,22,23,56,57,58]],Try.func49,by decide +kernel,by kernel_rfl⟩
def q5w:XCode:=(.cond (.t 9) (Sq (R0 [P0 2 (.mv (.c .nil)),P0 3 (.mv (.c (.bool false)))]) .ret) .skip)
def q2x:XCode:=(.cond (.t 25) (R0 [K0 26 5 6,S0 5 4 26]) .skip)
def q25:XCode:=(Sq (R0 [F0 21 3 6,L0 22 21,F0 23 3 4,L0 24 23,Y0 25 .gtr 22 24]) q2x)
def q7a:XCode:=(Sq (Sq (R0 [I0 19 5 15 17,K0 20 5 19,P0 6 (.new 43 [.int .i64 0,.bool false,.nil,.int .i64 0,.nil]),S0 5 6 20]) (.frz [6])) q25)
def zel:XCode:=(.block 0 (.loop [4,15,16,17] (Sq (R0 [Y0 18 .lss 17 16]) (Sq (.cond (.t 18) .skip (.exit 0)) (Sq (.block 1 q7a) (R0 [P0 27 (.bin .add (.t 17) (Ca 1)),M0 17 27]))))))
def q6b:XCode:=zel
def q59:XCode:=(Sq (R0 [P0 28 (.buildS 65 0 [] []),F0 29 2 4,L0 30 29,F0 31 3 4,L0 32 31,P0 33 (.slc 65 2 (.t 30) none (some (.t 32)) none),P0 34 (.app 65 2 16 (.t 28) (.t 33)),M0 2 34,P0 3 (.mv (.c (.bool true)))]) .ret)
def q4i:XCode:=(Sq (Sq (R0 [F0 14 0 1,L0 15 14,N0 16 15,P0 17 (.mv (Ca 0))]) q6b) q59)
def q7t:XCode:=(Sq (R0 [F0 10 0 1,L0 11 10,P0 12 (.ia 5 (.t 11) (Ca 0)),K0 13 5 12,P0 4 (.new 43 [.int .i64 0,.bool false,.nil,.int .i64 0,.nil]),S0 5 4 13]) q4i)
def qy0:XCode:=(Sq (Sq (R0 [K0 7 2 1,P0 8 (.call (.c (.fn 49 [])) [.t 7]),P0 9 (.un .not (.t 8))]) q5w) q7t)
def x11:XFn:=⟨(Sq (Sq (R0 [P0 1 (.box 29 2 (.t 0)),P0 2 (.mv (.c .nil)),P0 3 (.mv (.c (.bool false)))]) (.frz [1])) qy0),35,[.t 2,.t 3]⟩
theorem zga:FnOk Try.prog T 11 x11:=⟨Try.f11,[.frz [1],.loop [4,15,16,17],.frz [],.frz [6]],Try.func11,by decide +kernel,by kernel_rfl⟩
def q5y:XCode:=(.cond (.t 9) (Sq (R0 [P0 2 (.mv (.c .nil)),P0 3 (.mv (.c (.bool false)))]) .ret) .skip)
def q29:XCode:=(R0 [M0 21 4,M0 22 5,P0 23 (.buildS 3 1 [.int .i64 0] [(0,(1,(.t 22)))]),P0 24 (.app 3 1 8 (.t 21) (.t 23)),M0 4 24])
def q54:XCode:=(Cd 20 q29)
def q2l:XCode:=(Sq (R0 [F0 19 1 6,L0 20 19]) q54)
def q3c:XCode:=(Sq (Sq (R0 [M0 16 14,I0 17 5 12 14,K0 18 5 17,P0 6 (.new 43 [.int .i64 0,.bool false,.nil,.int .i64 0,.nil]),M0 5 16,S0 5 6 18]) (.frz [6])) q2l)
def zd8:XCode:=(.block 0 (.loop [4,12,13,14] (Sq (R0 [Y0 15 .lss 14 13]) (Sq (.cond (.t 15) .skip (.exit 0)) (Sq (.block 1 q3c) (R0 [P0 25 (.bin .add (.t 14) (Ca 1)),M0 14 25]))))))
def q3e:XCode:=zd8
def q76:XCode:=(Sq (Sq (R0 [F0 11 0 1,L0 12 11,N0 13 12,P0 14 (.mv (Ca 0))]) q3e) (Sq (R0 [M0 26 4,M0 2 26,P0 3 (.mv (.c (.bool true)))]) .ret))
def q26:XCode:=(Sq (R0 [P0 10 (.buildS 3 0 [] []),M0 4 10]) q76)
def qz2:XCode:=(Sq (Sq (R0 [K0 7 2 1,P0 8 (.call (.c (.fn 49 [])) [.t 7]),P0 9 (.un .not (.t 8))]) q5y) q26)
def x12:XFn:=⟨(Sq (Sq (R0 [P0 1 (.box 29 2 (.t 0)),P0 2 (.mv (.c .nil)),P0 3 (.mv (.c (.bool false)))]) (.frz [1])) qz2),27,[.t 2,.t 3]⟩
theorem zfq:FnOk Try.prog T 12 x12:=⟨Try.f12,[.frz [1],.loop [4,12,13,14],.frz [],.frz [6]],Try.func12,by decide +kernel,by kernel_rfl⟩

def x13:XFn:=⟨(Sq (Sq (R0 [P0 1 (.box 29 2 (.t 0)),P0 2 (.mv (.c (.bool false)))]) (.frz [1])) (Sq (R0 [K0 3 2 1,P0 4 (.call (.c (.fn 49 [])) [.t 3]),M0 2 4]) .ret)),5,[.t 2]⟩
theorem zf7:FnOk Try.prog T 13 x13:=⟨Try.f13,[.frz [1]],Try.func13,by decide +kernel,by kernel_rfl⟩
def q85:XCode:=(Sq (R1 [M4 16 0,M4 17 5,I4 18 2 16 17,K4 19 2 18,M4 20 1,M4 21 5,I4 22 2 20 21,K4 23 2 22,P4 24 (.eqs true [.int .i64,.int .i64] (.t 19) (.t 23))]) (.cond (.t 24) (Sq (R0 [P0 4 (.mv (.c (.bool false)))]) .ret) .skip))
def q5f:XCode:=(Sq (R0 [M0 15 13,M0 5 15]) q85)
def ze4:XCode:=(.block 0 (.loop [0,1,12,13] (Sq (R0 [Y0 14 .lss 13 12]) (Sq (.cond (.t 14) .skip (.exit 0)) (Sq (.block 1 q5f) (R0 [P0 25 (.bin .add (.t 13) (Ca 1)),M0 13 25]))))))
def q9j:XCode:=ze4
def q3v:XCode:=(Sq (Sq (R0 [M0 11 0,N0 12 11,P0 13 (.mv (Ca 0))]) q9j) (Sq (R0 [P0 4 (.mv (.c (.bool true)))]) .ret))
def q3i:XCode:=(Sq (Sq (R0 [M0 6 0,N0 7 6,M0 8 1,N0 9 8,Y0 10 .neq 7 9]) (.cond (.t 10) (Sq (R0 [P0 4 (.mv (.c (.bool false)))]) .ret) .skip)) q3v)
def x51:XFn:=⟨(Sq (R0 [P0 4 (.mv (.c (.bool false)))]) q3i),26,[.t 4]⟩
theorem zgb:FnOk Try.prog T 51 x51:=⟨Try.f51,[.loop [0,1,12,13],.draw [0,1,2,3,4,5,6,7,8] [4,4,4,4,4,4,4,4,4]],Try.func51,by decide +kernel,by kernel_rfl⟩
def q4v:XCode:=(.cond (.t 14) (Sq (R0 [P0 4 (.mv (.c (.bool false))),P0 5 (.mv (.c (.bool false)))]) .ret) .skip)
def q2t:XCode:=(Sq (Sq (R1 [M4 20 6,P4 21 (.bin .gtr (.t 20) (Ca 0)),M4 22 21,G5 23 (Ma 0) 22,G5 24 (Ma 6) 22,G5 25 (.bin .sub (.t 24) (Ca 1)) 22,G5 26 (Ia 2 23 25) 22,G5 27 (Fa 0 26) 22,G5 28 (La 27) 22,G5 29 (Ma 1) 22,G5 30 (Ma 6) 22,G5 31 (.bin .sub (.t 30) (Ca 1)) 22,G5 32 (Ia 2 29 31) 22,G5 33 (Fa 0 32) 22,G5 34 (La 33) 22,G5 35 (Ya .neq 28 34) 22,P4 36 (.pick (.t 22) (.t 35) (.c (.bool false)))]) (.cond (.t 36) .skip (.exit 0))) (.block 1 (R0 [M0 37 6,P0 38 (.bin .sub (.t 37) (Ca 1)),M0 6 38])))
def q5g:XCode:=(.block 0 (.loop [0,1,6] q2t))
def q79:XCode:=(Sq (R1 [M4 39 0,M4 40 6,P4 41 (.slc 65 2 (.t 39) none (some (.t 40)) none),M4 42 1,M4 43 6,P4 44 (.slc 65 2 (.t 42) none (some (.t 43)) none),⟨some 45,.call (.c (.fn 51 [])) [.t 41,.t 44],none,3⟩,M4 4 45,P4 5 (.mv (.c (.bool true)))]) .ret)
def q5k:XCode:=(Sq q5g q79)
def q6o:XCode:=(Sq (R0 [M0 15 0,N0 16 15,M0 17 1,N0 18 17,P0 19 (.mnx false [.t 16,.t 18]),M0 6 19]) q5k)
def q8f:XCode:=(Sq (Sq (R0 [M0 7 0,P0 8 (.call (.c (.fn 50 [])) [.t 7,(Ca 100)]),P0 9 (.un .not (.t 8)),M0 10 9,G2 11 (Ma 1) 10,G2 12 (.call (.c (.fn 50 [])) [.t 11,(Ca 100)]) 10,G2 13 (.un .not (.t 12)) 10,P0 14 (.pick (.t 10) (.c (.bool true)) (.t 13))]) q4v) q6o)
def x15:XFn:=⟨(Sq (R0 [P0 4 (.mv (.c (.bool false))),P0 5 (.mv (.c (.bool false)))]) q8f),46,[.t 4,.t 5]⟩
theorem zgh:FnOk Try.prog T 15 x15:=⟨Try.f15,[.loop [0,1,6],.draw [0,1,2,3,4,5,6,7,8,9,10,11,12,13,14,15,16] [4,4,4,4,4,4,4,4,4,4,4,4,4,4,4,4,4],.draw [0,1,2,3,4,5,6,7,8] [4,4,4,4,4,4,3,4,4]],Try.func15,by decide +kernel,by kernel_rfl⟩
def zbb:XCode:=(Sq (R0 [M0 64 6,N0 65 64,P0 66 (.bin .eql (.t 65) (Ca 0)),M0 2 66]) .ret)
def zbd:XCode:=(Cd 63 zbb)
def zdm:XCode:=(.cond (.t 99) (R0 [F0 100 0 17,L0 101 100,M0 15 101]) .skip)
def zce:XCode:=(Sq (R0 [M0 137 21,P0 138 (.un .not (.t 137)),M0 139 138,G2 140 (Ma 20) 139,G2 141 (.un .not (.t 140)) 139,P0 142 (.pick (.t 139) (.c (.bool true)) (.t 141)),M0 143 142,G2 144 (Fa 1 17) 143,G2 145 (La 144) 143,G2 146 (Ma 145) 143,G1 147 (Fa 1 19) 146,G1 148 (La 147) 146,G2 149 (.pick (.t 146) (.t 148) (.c (.bool false))) 143,G2 150 (Ma 149) 143,G1 151 (Fa 0 17) 150,G1 152 (La 151) 150,G1 153 (Fa 0 19) 150,G1 154 (La 153) 150,G1 155 (Ya .eql 152 154) 150,G2 156 (.pick (.t 150) (.t 155) (.c (.bool false))) 143,P0 157 (.pick (.t 143) (.c (.bool true)) (.t 156))]) (.cond (.t 157) (Sq (R0 [P0 2 (.mv (.c (.bool false)))]) .ret) .skip))
def zcb:XCode:=(Sq (R0 [F0 130 2 17,L0 131 130,F0 132 2 19,L0 133 132,P0 134 (.call (.c (.fn 15 [])) [.t 131,.t 133]),M0 129 134,P0 135 (.ext (.t 129) 0),P0 136 (.ext (.t 129) 1),M0 20 135,M0 21 136]) zce)
def zde:XCode:=(Sq (Sq (R0 [I0 127 5 123 125,K0 128 5 127,P0 19 (.new 43 [.int .i64 0,.bool false,.nil,.int .i64 0,.nil]),S0 5 19 128]) (.frz [19])) zcb)
def zgg:XCode:=(.block 2 (.loop [5,11,13,15,17,89,90,91,123,124,125] (Sq (R0 [Y0 126 .lss 125 124]) (Sq (.cond (.t 126) .skip (.exit 2)) (Sq (.block 3 zde) (R0 [P0 158 (.bin .add (.t 125) (Ca 1)),M0 125 158]))))))
def zbi:XCode:=zgg
def zci:XCode:=(Sq (R0 [F0 120 0 5,L0 121 120,M0 122 16,P0 123 (.slc 43 5 (.t 121) none (some (.t 122)) none),N0 124 123,P0 125 (.mv (Ca 0))]) zbi)
def q9u:XCode:=(Sq (Sq (R1 [F4 102 3 17,L4 103 102,M4 104 11,N4 105 104,Y4 106 .gtr 103 105,M4 107 106,G6 108 (Fa 2 17) 107,G6 109 (La 108) 107,G6 110 (Fa 3 17) 107,G6 111 (La 110) 107,G6 112 (.slc 65 2 (.t 109) none (some (.t 111)) none) 107,G6 113 (Ma 11) 107,G6 114 (Fa 3 17) 107,G6 115 (La 114) 107,G6 116 (.slc 65 2 (.t 113) none (some (.t 115)) none) 107,⟨some 117,.call (.c (.fn 14 [])) [.t 112,.t 116],(some (107,false)),3⟩,G6 118 (.un .not (.t 117)) 107,P4 119 (.pick (.t 107) (.c (.bool true)) (.t 118))]) (.cond (.t 119) (Sq (R0 [P0 2 (.mv (.c (.bool false)))]) .ret) .skip)) zci)
def q5x:XCode:=(Sq (Sq (R0 [F0 96 0 17,L0 97 96,M0 98 15,Y0 99 .gtr 97 98]) zdm) q9u)
def q2o:XCode:=(Sq (Sq (R0 [M0 93 91,I0 94 5 89 91,K0 95 5 94,P0 17 (.new 43 [.int .i64 0,.bool false,.nil,.int .i64 0,.nil]),M0 16 93,S0 5 17 95]) (.frz [17])) q5x)
def zfb:XCode:=(.block 0 (.loop [5,11,13,15,89,90,91] (Sq (R0 [Y0 92 .lss 91 90]) (Sq (.cond (.t 92) .skip (.exit 0)) (Sq (.block 1 q2o) (R0 [P0 159 (.bin .add (.t 91) (Ca 1)),M0 91 159]))))))
def q7k:XCode:=zfb
def q38:XCode:=(Sq (R0 [F0 171 0 24,L0 172 171,M0 173 15,Y0 174 .eql 172 173,M0 175 174,G1 176 (Fa 2 24) 175,G1 177 (La 176) 175,G1 178 (Na 177) 175,G1 179 (Ma 11) 175,G1 180 (Na 179) 175,G1 181 (Ya .lss 178 180) 175,G1 182 (Ma 181) 175,G2 183 (Fa 2 24) 182,G2 184 (La 183) 182,G2 185 (Ma 11) 182,G2 186 (Na 185) 182,G2 187 (.slc 65 2 (.t 184) none (some (.t 186)) none) 182,G2 188 (Ma 11) 182,G2 189 (.call (.c (.fn 14 [])) [.t 187,.t 188]) 182,G2 190 (.un .not (.t 189)) 182,G1 191 (.pick (.t 182) (.c (.bool true)) (.t 190)) 175,P0 192 (.pick (.t 175) (.t 191) (.c (.bool false)))]) (.cond (.t 192) (Sq (R0 [P0 2 (.mv (.c (.bool false)))]) .ret) .skip))
def q2y:XCode:=(Sq (Sq (R0 [F0 166 0 5,L0 167 166,M0 168 23,I0 169 5 167 168,K0 170 5 169,P0 24 (.new 43 [.int .i64 0,.bool false,.nil,.int .i64 0,.nil]),S0 5 24 170]) (.frz [24])) q38)
def q5e:XCode:=(Sq (R0 [I0 164 1 160 162,L0 165 164,M0 23 165]) q2y)
def zey:XCode:=(.block 4 (.loop [5,11,15,160,161,162] (Sq (R0 [Y0 163 .lss 162 161]) (Sq (.cond (.t 163) .skip (.exit 4)) (Sq (.block 5 q5e) (R0 [P0 193 (.bin .add (.t 162) (Ca 1)),M0 162 193]))))))
def q4y:XCode:=zey
def q5u:XCode:=(Sq (Sq (R0 [M0 160 13,N0 161 160,P0 162 (.mv (Ca 0))]) q4y) (Sq (R0 [P0 2 (.mv (.c (.bool true)))]) .ret))
def q2j:XCode:=(Sq (Sq (R0 [F0 88 0 5,L0 89 88,N0 90 89,P0 91 (.mv (Ca 0))]) q7k) q5u)
def q24:XCode:=(Sq (R0 [P0 15 (.mv (Ca 0))]) q2j)
def q44:XCode:=(Sq (Sq (R0 [K0 77 2 5,P0 78 (.call (.c (.fn 13 [])) [.t 77]),P0 79 (.un .not (.t 78)),M0 80 79,G2 81 (Ma 12) 80,G2 82 (.un .not (.t 81)) 80,P0 83 (.pick (.t 80) (.c (.bool true)) (.t 82)),M0 84 83,G2 85 (Ma 14) 84,G2 86 (.un .not (.t 85)) 84,P0 87 (.pick (.t 84) (.c (.bool true)) (.t 86))]) (.cond (.t 87) (Sq (R0 [P0 2 (.mv (.c (.bool false)))]) .ret) .skip)) q24)
def q8v:XCode:=(Sq (R0 [K0 73 2 5,P0 74 (.call (.c (.fn 12 [])) [.t 73]),M0 72 74,P0 75 (.ext (.t 72) 0),P0 76 (.ext (.t 72) 1),M0 13 75,M0 14 76]) q44)
def q7p:XCode:=(Sq (R0 [K0 68 2 5,P0 69 (.call (.c (.fn 11 [])) [.t 68]),M0 67 69,P0 70 (.ext (.t 67) 0),P0 71 (.ext (.t 67) 1),M0 11 70,M0 12 71]) q8v)
def q5t:XCode:=(Sq (Sq (R0 [M0 62 7,P0 63 (.un .not (.t 62))]) zbd) q7p)
def q9r:XCode:=(Sq (Sq (R0 [M0 47 7,M0 48 10,P0 49 (.eqb true (.t 47) (.t 48)),M0 50 49,G2 51 (Ma 6) 50,G2 52 (Ma 9) 50,G2 53 (.call (.c (.fn 9 [])) [.t 51,.t 52]) 50,G2 54 (.un .not (.t 53)) 50,P0 55 (.pick (.t 50) (.c (.bool true)) (.t 54)),M0 56 55,G2 57 (Ka 2 5) 56,G2 58 (Ka 2 8) 56,G2 59 (.call (.c (.fn 10 [])) [.t 57,.t 58]) 56,G2 60 (.un .not (.t 59)) 56,P0 61 (.pick (.t 56) (.c (.bool true)) (.t 60))]) (.cond (.t 61) (Sq (R0 [P0 2 (.mv (.c (.bool false)))]) .ret) .skip)) q5t)
def q8d:XCode:=(Sq (Sq (R0 [M0 41 3,M0 42 4,P0 43 (.call (.c (.fn 8 [])) [.t 41,.t 42]),M0 40 43,P0 44 (.ext (.t 40) 0),P0 45 (.ext (.t 40) 1),P0 46 (.ext (.t 40) 2),P0 8 (.new 29 [.nil,.nil]),S0 2 8 44,M0 9 45,M0 10 46]) (.frz [8])) q9r)
def q49:XCode:=(Sq (Sq (R0 [M0 34 3,M0 35 4,P0 36 (.call (.c (.fn 7 [])) [.t 34,.t 35]),M0 33 36,P0 37 (.ext (.t 33) 0),P0 38 (.ext (.t 33) 1),P0 39 (.ext (.t 33) 2),P0 5 (.new 29 [.nil,.nil]),S0 2 5 37,M0 6 38,M0 7 39]) (.frz [5])) q8d)
def q67:XCode:=(Sq (R0 [M0 29 0,P0 30 (.call (.c (.fn 6 [])) [.t 29]),M0 28 30,P0 31 (.ext (.t 28) 0),P0 32 (.ext (.t 28) 1),M0 3 31,M0 4 32]) q49)
def q23:XCode:=(Sq (Sq (R0 [M0 25 0,N0 26 25,P0 27 (.bin .gtr (.t 26) (Ca 1048576))]) (.cond (.t 27) (Sq (R0 [P0 2 (.mv (.c (.bool true)))]) .ret) .skip)) q67)
def x3:XFn:=⟨(Sq (R0 [P0 2 (.mv (.c (.bool false)))]) q23),194,[.t 2]⟩
theorem ok3:FnOk Try.prog T 3 x3:=⟨Try.f3,[.frz [],.frz [],.frz [],.frz [],.frz [5],.frz [8],.loop [5,11,13,15,89,90,91],.frz [],.frz [17],.draw [0,1,2,3,4,5,6,7,8,9,10,11,12,13,14,15,16,17] [4,4,4,4,4,4,4,4,4,4,4,4,4,4,4,3,4,4],.loop [5,11,13,15,17,89,90,91,123,124,125],.frz [],.frz [19],.loop [5,11,15,160,161,162],.frz [],.frz [],.frz [24]],Try.func3,by decide +kernel,by kernel_rfl⟩
def fl:List (Nat × XFn):=[(69,x69),(42,x42),(63,x63),(40,x40),(64,x64),(93,x93),(76,x76),(94,x94),(95,x95),(96,x96),(105,qr1),(97,x97),(77,x77),(78,x78),(79,x79),(47,x47),(48,x48),(67,x67),(70,x70),(43,x43),(6,x6),(44,x44),(45,x45),(71,x71),(103,qrd),(104,qd9),(89,x89),(90,x90),(92,x92),(91,x91),(72,x72),(73,x73),(74,x74),(75,x75),(46,x46),(7,x7),(8,x8),(9,x9),(14,x14),(41,x41),(10,x10),(50,x50),(98,x98),(80,x80),(106,qsa),(99,x99),(100,qrt),(82,x82),(81,x81),(49,x49),(11,x11),(12,x12),(13,x13),(51,x51),(15,x15),(3,x3)]
theorem zd6:∀ p∈fl,FnOk Try.prog T p.1 p.2:=by
 simp only [fl,List.forall_mem_cons]
 exact ⟨zge,zfi,zf8,zgo,zgz,zgu,zfx,zgl,zfu,zfo,zef,zgx,zgm,zgv,zgq,zgj,zfv,zgf,zfk,zgi,ok6,zg0,zf6,zf3,zfd,zet,zgy,zfz,zgr,zfr,zfy,zfn,zgn,zgw,zgd,ok7,ok8,ok9,zgs,zfm,zfl,zg1,zfw,zf9,ze7,zg2,zd5,zf5,zgk,zfs,zga,zfq,zf7,zgb,zgh,ok3,fun _ h=>by cases h⟩
def roL:List Nat:=[3,7,9,10,13,14,15,41,44,49,50,51,63,64,80,81,82,89,90,91,92,94,95,96,97,98,99,100,103,104,105,106]
def mkL:List Nat:=[6,8,11,12,40,45,46,48,71]
def coL:List Nat:=[]
def zen (n:Nat) : Nat:=if roL.contains n then 1 else if mkL.contains n then 2 else if coL.contains n then 3 else 0
def ol:List (Nat × Orc):=[]
theorem zd3:∀ p∈ol,OrcOk Try.prog (szL tl) p.1 p.2:=fun _ h=>by cases h
def E:Env:=⟨q0y fl,zen,szL tl,q1c ol⟩
end Go.Proofs.Ytanblnjomhgphaa.X
