/- The seat's types and functions, as plain Lean has them. -/
import Derived.Test.YtohofoampalhoaaZIns
open Go.IntKind renaming wrap→a0a
open List renaming length→t6,set→a1u
set_option linter.unusedVariables false
set_option linter.unusedSimpArgs false
set_option maxRecDepth 100000
namespace Go.Proofs.Ytohofoampalhoaa.X
open Go
structure BoundsError where
 x:Int
 y:Int
 signed:Bool
 code:Int
 deriving DecidableEq,Inhabited
def qxv (x:BoundsError) : List XV:=[.int .i64 x.x,.int .i64 x.y,.bool x.signed,.int .u8 x.code]
structure View where
 Epoch:Int
 Leader:Int
 InStep:List Int
 deriving DecidableEq,Inhabited
def zc5 (x:View) : List XV:=[.int .i64 x.Epoch,.int .i64 x.Leader,lst cI x.InStep]
structure Row where
 Epoch:Int
 Value:Int
 deriving DecidableEq,Inhabited
def qm (x:Row) : List XV:=[.int .i64 x.Epoch,.int .i64 x.Value]
structure Node where
 View:View
 Log:List Row
 Known:List Int
 Told:Int
 deriving DecidableEq,Inhabited
def qz (x:Node) : List XV:=[.int .i64 x.View.Epoch,.int .i64 x.View.Leader,lst cI x.View.InStep,lst qm x.Log,lst cI x.Known,.int .i64 x.Told]
structure Cluster where
 Truth:View
 Nodes:List Node
 Acked:List Row
 deriving DecidableEq,Inhabited
def q99 (x:Cluster) : List XV:=[.int .i64 x.Truth.Epoch,.int .i64 x.Truth.Leader,lst cI x.Truth.InStep,lst qz x.Nodes,lst qm x.Acked]
structure ClusterStep where
 Kind:Int
 K:Int
 To:Int
 N:Int
 deriving DecidableEq,Inhabited
def za (x:ClusterStep) : List XV:=[.int .i64 x.Kind,.int .i64 x.K,.int .i64 x.To,.int .i64 x.N]

def qd1 (s_0:List Int)(i_1:Int)(r8:List Int) : Option (List Int × List Int):=qnb s_0 i_1 r8

def qcc (i0:List Int)(i6:List Int)(s3:Int) : Option (Oc Int Bool):=(if (decide (s3<(t6 i0:Int)))=true then ((zx i0 s3).bind fun x26 =>
  ((zx i6 s3).bind fun x29=>(if (decide (x26≠x29))=true then (some (.ret false)) else (some (.nxt (a0a .i64 (s3+1))))))) else (some (.brk s3)))
def qit (s39:Int)  : Option Bool:=(some true)
def qcw (k:Nat)(i0:List Int)(i6:List Int) : Option Bool:=(if (decide ((t6 i0:Int)≠(t6 i6:Int)))=true then (some false) else (jn
  (ko (fun s38=>qcc i0 i6 s38) k 0) (fun s46=>qit s46)))

def qcu (k:Nat)(i0:View)(i6:View) : Option Bool:=(if (decide (i0.Epoch≠i6.Epoch))=true then (some false) else (if (decide
  (i0.Leader≠i6.Leader))=true then (some false) else ((qcw k i0.InStep i6.InStep).bind fun v15=>(if (!v15)=true then (some false) else (some true)))))

def qe3 (i0:Row)(i6:Row) : Option Bool:=(if (decide (i0.Epoch≠i6.Epoch))=true then (some false) else (if (decide (i0.Value≠i6.Value))=true then
  (some false) else (some true)))

def qb2 (i0:List Row)(i6:List Row)(s3:Int) : Option (Oc Int Bool):=(if (decide (s3<(t6 i0:Int)))=true then ((zx i0 s3).bind fun x26 =>
  ((zx i6 s3).bind fun x29=>((qe3 x26 x29).bind fun v32=>(if (!v32)=true then (some (.ret false)) else (some (.nxt (a0a .i64 (s3+1)))))))) else (some
  (.brk s3)))
def qiv (s42:Int)  : Option Bool:=(some true)
def qct (k:Nat)(i0:List Row)(i6:List Row) : Option Bool:=(if (decide ((t6 i0:Int)≠(t6 i6:Int)))=true then (some false) else (jn
  (ko (fun s41=>qb2 i0 i6 s41) k 0) (fun s49=>qiv s49)))

def qea (k:Nat)(i0:Node)(i6:Node) : Option Bool:=((qcu k i0.View i6.View).bind fun v13=>(if (!v13)=true then (some false) else
  ((qct k i0.Log i6.Log).bind fun v17=>(if (!v17)=true then (some false) else ((qcw k i0.Known i6.Known).bind fun v21=>(if (!v21)=true then
  (some false) else (if (decide (i0.Told≠i6.Told))=true then (some false) else (some true))))))))

def qbg (k:Nat)(i0:List Node)(i6:List Node)(s3:Int) : Option (Oc Int Bool):=(if (decide (s3<(t6 i0:Int)))=true then
  ((zx i0 s3).bind fun x26=>((zx i6 s3).bind fun x29=>((qea k x26 x29).bind fun v32=>(if (!v32)=true then (some (.ret false)) else (some (.nxt
  (a0a .i64 (s3+1)))))))) else (some (.brk s3)))
def qh3 (s42:Int)  : Option Bool:=(some true)
def qdm (k:Nat)(i0:List Node)(i6:List Node) : Option Bool:=(if (decide ((t6 i0:Int)≠(t6 i6:Int)))=true then (some false) else (jn
  (ko (fun s41=>qbg k i0 i6 s41) k 0) (fun s49=>qh3 s49)))

def uc (k:Nat)(i0:Cluster)(i6:Cluster) : Option Bool:=((qcu k i0.Truth i6.Truth).bind fun v13=>(if (!v13)=true then (some false) else
  ((qdm k i0.Nodes i6.Nodes).bind fun v17=>(if (!v17)=true then (some false) else ((qct k i0.Acked i6.Acked).bind fun v21=>(if (!v21)=true then
  (some false) else (some true)))))))

def qaz (s6:Int)(s7:Int)(s8:List Int) : Option (Oc (Int × Int × (List Int)) (Int × (List Int))):=(if (decide (s7<(t6 s8:Int)))=true then
  ((zx s8 s7).bind fun x33=>(some (.nxt ((a0a .i64 (s6+1)),(a0a .i64 (s7+1)),(a1u s8 s7.toNat s6))))) else (some (.brk (s6,s7,s8))))
def qg9 (s46:Int)(s47:Int)(s48:List Int)  : Option (Int × (List Int)):=(some (s46,s48))
def u5 (k:Nat)(i0:List Int)(k_1:Int) : Option (Int × (List Int)):=(jn (ko (fun s45=>qaz s45.1 s45.2.1 s45.2.2) k (k_1,0,
  i0)) (fun s57=>qg9 s57.1 s57.2.1 s57.2.2))

def qcq (k:Nat)(i0:View)(k_1:Int) : Option (Int × View):=((u5 k i0.InStep k_1).bind fun v7=>(some (v7.1,(View.mk i0.Epoch i0.Leader v7.2))))

def qas (s6:Int)(s7:Int)(s8:List Row) : Option (Oc (Int × Int × (List Row)) (Int × (List Row))):=(if (decide (s7<(t6 s8:Int)))=true then
  ((zx s8 s7).bind fun x33=>(some (.nxt ((a0a .i64 ((a0a .i64 (s6+1))+1)),(a0a .i64 (s7+1)),
  (a1u s8 s7.toNat (Row.mk s6 (a0a .i64 (s6+1)))))))) else (some (.brk (s6,s7,s8))))
def qhj (s51:Int)(s52:Int)(s53:List Row)  : Option (Int × (List Row)):=(some (s51,s53))
def qbc (k:Nat)(i0:List Row)(k_1:Int) : Option (Int × (List Row)):=(jn (ko (fun s50=>qas s50.1 s50.2.1 s50.2.2) k (k_1,0,
  i0)) (fun s62=>qhj s62.1 s62.2.1 s62.2.2))

def qae (k:Nat)(s6:Int)(s7:Int)(s8:List Node) : Option (Oc (Int × Int × (List Node)) (Int × (List Node))):=(if (decide (s7 <
  (t6 s8:Int)))=true then ((zx s8 s7).bind fun x33=>((u5 k x33.View.InStep (a0a .i64 ((a0a .i64 (s6+1))+1))).bind fun v65 =>
  ((qbc k x33.Log v65.1).bind fun v72=>((u5 k x33.Known v72.1).bind fun v79=>(some (.nxt ((a0a .i64 (v79.1+1)),(a0a .i64 (s7+1)),
  (a1u s8 s7.toNat (Node.mk (View.mk s6 (a0a .i64 (s6+1)) v65.2) v72.2 v79.2 v79.1))))))))) else (some (.brk (s6,s7,s8))))
def qgn (s98:Int)(s99:Int)(s100:List Node)  : Option (Int × (List Node)):=(some (s98,s100))
def qb4 (k:Nat)(i0:List Node)(k_1:Int) : Option (Int × (List Node)):=(jn (ko (fun s97=>qae k s97.1 s97.2.1 s97.2.2) k (k_1,0,
  i0)) (fun s109=>qgn s109.1 s109.2.1 s109.2.2))

def qa1 (k:Nat)(i0:Cluster)(k_1:Int) : Option (Int × Cluster):=((qcq k i0.Truth k_1).bind fun v7 =>
  ((qb4 k i0.Nodes v7.1).bind fun v14=>((qbc k i0.Acked v14.1).bind fun v21=>(some (v21.1,
  (Cluster.mk (View.mk i0.Truth.Epoch i0.Truth.Leader v7.2.InStep) v14.2 v21.2))))))

def qaq (i0:List Int)(s3:Int)(s4:Int) : Option (Oc (Int × Int) Int):=(if (decide (s4<(t6 i0:Int)))=true then
  ((zx i0 s4).bind fun x27=>(if (decide (x27≠s3))=true then (some (.ret (-1))) else (some (.nxt ((a0a .i64 (s3+1)),
  (a0a .i64 (s4+1))))))) else (some (.brk (s3,s4))))
def qho (s37:Int)(s38:Int)  : Option Int:=(some s37)
def u4 (k:Nat)(i0:List Int)(k_1:Int) : Option Int:=(jn (ko (fun s36=>qaq i0 s36.1 s36.2) k (k_1,
  0)) (fun s45=>qho s45.1 s45.2))

def qcn (k:Nat)(i0:View)(k_1:Int) : Option Int:=((u4 k i0.InStep k_1).bind fun v7=>(if (decide (v7<0))=true then (some (-1)) else (some v7)))

def qat (i0:List Row)(s3:Int)(s4:Int) : Option (Oc (Int × Int) Int):=(if (decide (s4<(t6 i0:Int)))=true then
  ((zx i0 s4).bind fun x27=>(if (decide (x27.Epoch≠s3))=true then (some (.ret (-1))) else ((zx i0 s4).bind fun x34=>(if (decide (x34.Value≠(a0a .i64
  (s3+1))))=true then (some (.ret (-1))) else (some (.nxt ((a0a .i64 ((a0a .i64 (s3+1))+1)),(a0a .i64 (s4+1))))))))) else (some (.brk (s3,
  s4))))
def qht (s44:Int)(s45:Int)  : Option Int:=(some s44)
def qbe (k:Nat)(i0:List Row)(k_1:Int) : Option Int:=(jn (ko (fun s43=>qat i0 s43.1 s43.2) k (k_1,
  0)) (fun s52=>qht s52.1 s52.2))

def qac (k:Nat)(f0:List Node)(s3:Int)(s4:Int) : Option (Oc (Int × Int) Int):=(if (decide (s4<(t6 f0:Int)))=true then
  ((zx f0 s4).bind fun x27=>(if (decide (x27.View.Epoch≠s3))=true then (some (.ret (-1))) else ((zx f0 s4).bind fun x34=>(if (decide (x34.View.Leader ≠
  (a0a .i64 (s3+1))))=true then (some (.ret (-1))) else ((zx f0 s4).bind fun x41=>((u4 k x41.View.InStep (a0a .i64 ((a0a .i64
  (s3+1))+1))).bind fun v44=>(if (decide (v44<0))=true then (some (.ret (-1))) else ((zx f0 s4).bind fun x51=>((qbe k x51.Log v44).bind fun v54=>(if
  (decide (v54<0))=true then (some (.ret (-1))) else ((zx f0 s4).bind fun x61=>((u4 k x61.Known v54).bind fun v64=>(if (decide (v64<0))=true then
  (some (.ret (-1))) else ((zx f0 s4).bind fun x71=>(if (decide (x71.Told≠v64))=true then (some (.ret (-1))) else (some (.nxt ((a0a .i64 (v64+1)),
  (a0a .i64 (s4+1)))))))))))))))))))) else (some (.brk (s3,s4))))
def qgm (s81:Int)(s82:Int)  : Option Int:=(some s81)
def qca (k:Nat)(f0:List Node)(d8:Int) : Option Int:=(jn (ko (fun s80=>qac k f0 s80.1 s80.2) k (d8,
  0)) (fun s89=>qgm s89.1 s89.2))

def ub (k:Nat)(i0:Cluster)(k_1:Int) : Option Int:=((qcn k i0.Truth k_1).bind fun v7=>(if (decide (v7<0))=true then (some (-1)) else
  ((qca k i0.Nodes v7).bind fun v11=>(if (decide (v11<0))=true then (some (-1)) else ((qbe k i0.Acked v11).bind fun v15=>(if (decide
  (v15<0))=true then (some (-1)) else (some v15)))))))

def xw (i0:List ClusterStep)(left_1:Int) : Option Int:=(if (decide ((a0a .i64 (left_1 - (t6 i0:Int)))<0))=true then (some
  (-1)) else (some (a0a .i64 (left_1 - (t6 i0:Int)))))

def kt (l8:Int)(lo_1:Int)(hi_2:Int) : Bool:=((decide (lo_1≤l8))&&(decide (l8≤hi_2)))

def qfm (l8:Int)(s7:List Int)(s12:Int) : Option (Oc ((List Int) × Int) (List Int)):=(if (decide (s12<l8))=true then ((k5 8 s7 [s12]).bind fun l41 =>
  (some (.nxt (l41,(a0a .i64 (s12+1)))))) else (some (.brk (s7,s12))))
def qiz (s53:List Int)(s58:Int)  : Option (List Int):=(some s53)
def qfv (k:Nat)(l8:Int) : Option (List Int):=(jn (ko (fun s52=>qfm l8 s52.1 s52.2) k (([],
  0) : (List Int) × Int)) (fun s65=>qiz s65.1 s65.2))

def qc8 (k:Nat)(i7:Int)(v8:List Int)(s32:Int)(s33:Cluster) : Option (Oc (Int × Cluster) (Cluster × Bool)):=(if (decide
  (s32<i7))=true then ((mkN 8 i7 (0:Int)).bind fun l61=>((qfv k i7).bind fun v70=>((k5 96 s33.Nodes ([(Node.mk
  (View.mk 0 0 v70) [] l61 0)])).bind fun l88=>(some (.nxt ((a0a .i64 (s32+1)),
  (Cluster.mk (View.mk s33.Truth.Epoch s33.Truth.Leader v8) l88 []))))))) else (some (.brk (s32,(Cluster.mk (View.mk s33.Truth.Epoch s33.Truth.Leader v8) s33.Nodes [])))))
def qf7 (v8:List Int)(s102:Int)(s103:Cluster)  : Option (Cluster × Bool):=(some ((Cluster.mk
  (View.mk s103.Truth.Epoch s103.Truth.Leader v8) s103.Nodes []),true))
def qbo (k:Nat)(i7:Int) : Option (Cluster × Bool):=(if (!(kt i7 2 4))=true then (some ((Cluster.mk (View.mk 0 0 []) [] []),
  false)) else ((qfv k i7).bind fun v8=>(jn (ko (fun s101=>qc8 k i7 v8 s101.1 s101.2) k (0,
  (Cluster.mk (View.mk 0 0 v8) [] []))) (fun s117=>qf7 v8 s117.1 s117.2))))

def qan (l4:Cluster)(k_1:Int) : Option Bool:=((zx l4.Nodes k_1).bind fun x7=>(some (decide (x7.View.Leader=k_1))))

def qee (r6:Int)(i1:Nat)(x2:Int) : Option (Oc Unit Bool):=(if (decide (x2=r6))=true then (some (.ret true)) else (some (.nxt ())))
def qjo  : Option Bool:=(some false)
def qci (r5:List Int)(r6:Int) : Option Bool:=(jn (k9 (fun i1 x2 _=>qee r6 i1 x2 ) r5 ()) (fun _=>qjo ))

def qeg (i0:List Int)(i1:Nat)(x2:Int) : Option (Oc Unit Bool):=((qci i0 x2).bind fun v23=>(if (!v23)=true then (some (.ret false)) else (some
  (.nxt ()))))
def qjp  : Option Bool:=(some true)
def qgz (i0:List Int)(i6:List Int) : Option Bool:=(jn (k9 (fun i1 x2 _=>qeg i0 i1 x2 ) i6 ()) (fun _=>qjp ))

def qdd (i0:List Int)(i6:List Int) : Option Bool:=((qgz i0 i6).bind fun v1=>(some (v1&&(decide ((t6 i0:Int) =
  (t6 i6:Int))))))

def qdi (i0:View)(i6:View) : Option Bool:=((if ((decide (i0.Epoch=i6.Epoch))&&(decide (i0.Leader=i6.Leader)))=true then
  ((qdd i0.InStep i6.InStep).bind fun v25=>(some v25)) else (some false)).bind fun v25=>(some v25))

def xh (f0:View) : Option View:=((k5 8 ([] : List Int) f0.InStep).bind fun l15=>(some (View.mk f0.Epoch f0.Leader l15)))

def qau (l4:Cluster)(k_1:Int)(x11:Node)(s41:Node)  : Option Cluster:=((xh l4.Truth).bind fun v88=>(some (Cluster.mk l4.Truth
  (a1u l4.Nodes k_1.toNat (Node.mk v88 x11.Log s41.Known s41.Told)) l4.Acked)))
def qcp (l4:Cluster)(k_1:Int) : Option Cluster:=((zx l4.Nodes k_1).bind fun x11=>((if (decide (x11.View.Epoch≠l4.Truth.Epoch))=true then ((mkN 8
  (t6 l4.Nodes:Int) (0:Int)).bind fun l54=>(if (decide (l4.Truth.Leader=k_1))=true then ((zx l54 k_1).bind fun x68=>(some (Node.mk x11.View x11.Log
  (a1u l54 k_1.toNat (t6 x11.Log:Int)) 0))) else (some (Node.mk x11.View x11.Log l54 0)))) else (some x11)).bind (fun s113=>qau l4 k_1 x11 s113)))

def qbn (i0:List Row)(i6:List Row)(s2:Int) : Option (Oc Int Int):=((if ((decide (s2<(t6 i0:Int)))&&(decide (s2 <
  (t6 i6:Int))))=true then ((zx i0 s2).bind fun x37=>((zx i6 s2).bind fun x40=>(some ((x37.Epoch == x40.Epoch) &&
  ((x37.Value == x40.Value)&&true))))) else (some false)).bind fun v37=>(if v37=true then (some (.nxt (a0a .i64 (s2+1)))) else (some (.brk s2))))
def qh1 (s59:Int)  : Option Int:=(some s59)
def qb9 (k:Nat)(i0:List Row)(i6:List Row) : Option Int:=(jn (ko (fun s58=>qbn i0 i6 s58) k 0) (fun s66=>qh1 s66))

def qch (f0:Cluster)(d8:Int)(r8:Int)(x11:Node)(x41:Node)(v74:Int)(s77:Int)  : Option Cluster:=((sl x41.Log 0 (a0a .i64
  (v74+s77))).bind fun l105=>((k5 16 ([] : List Row) l105).bind fun l112=>((zx x41.Known d8).bind fun x125=>(some (Cluster.mk f0.Truth (a1u
  (a1u f0.Nodes r8.toNat (Node.mk x41.View x41.Log (a1u x41.Known d8.toNat (t6 l112:Int)) x41.Told)) d8.toNat
  (Node.mk x11.View l112 x11.Known 0)) f0.Acked)))))
def qco (k:Nat)(f0:Cluster)(d8:Int)(r8:Int)(v_3:Int) : Option Cluster:=((zx f0.Nodes d8).bind fun x11=>((zx f0.Nodes r8).bind fun x41 =>
  (ck (d8≠r8) ((qb9 k x11.Log x41.Log).bind fun v74=>((if (decide ((a0a .i64 ((t6 x41.Log:Int) - v74))<v_3))=true then (some
  (a0a .i64 ((t6 x41.Log:Int) - v74))) else (some v_3)).bind (fun s157=>qch f0 d8 r8 x11 x41 v74 s157))))))

def qei (r5:List Int)(r6:Int)(s2:Int) : Option (Oc Int (List Int)):=((if (decide (s2<(t6 r5:Int)))=true then ((zx r5 s2).bind fun x27 =>
  (some (decide (x27<r6)))) else (some false)).bind fun v27=>(if v27=true then (some (.nxt (a0a .i64 (s2+1)))) else (some (.brk s2))))
def qgi (r5:List Int)(r6:Int)(s48:Int)  : Option (List Int):=((if (decide (s48<(t6 r5:Int)))=true then ((zx r5 s48).bind fun x58=>(some
  (decide (x58=r6)))) else (some false)).bind fun v58=>(if v58=true then (some r5) else ((sl r5 0 s48).bind fun l76=>((k5 8 ([] : List Int) l76).bind fun l83 =>
  ((k5 8 l83 [r6]).bind fun l98=>((sl r5 s48 (t6 r5)).bind fun l107=>((k5 8 l98 l107).bind fun l114=>(some l114))))))))
def qe7 (k:Nat)(r5:List Int)(r6:Int) : Option (List Int):=(jn (ko (fun s47=>qei r5 r6 s47) k 0) (fun s123=>qgi r5 r6 s123))

def xl (l4:Cluster)(to_2:Int)(i19:Nat)(s14:List Int) : Option (Oc (List Int) Cluster):=((zx l4.Truth.InStep (i19:Int)).bind fun x46=>(if
  (decide (x46≠to_2))=true then ((k5 8 s14 [x46]).bind fun l58=>(some (.nxt l58))) else (some (.nxt s14))))
def qby (l4:Cluster)(k_1:Int)(s85:List Int)  : Option Cluster:=((k5 8 ([] : List Int) s85).bind fun l125=>((zx l4.Nodes k_1).bind fun x136 =>
  (some (Cluster.mk (View.mk l4.Truth.Epoch l4.Truth.Leader s85) (a1u l4.Nodes k_1.toNat (Node.mk
  (View.mk x136.View.Epoch x136.View.Leader l125) x136.Log x136.Known x136.Told)) l4.Acked))))
def qd3 (k:Nat)(l4:Cluster)(k_1:Int)(to_2:Int)(in_3:Bool)(s70:List Int)  : Option Cluster:=((if in_3=true then
  ((qe7 k s70 to_2).bind fun v98=>(some v98)) else (some s70)).bind (fun s171=>qby l4 k_1 s171))
def wa (k:Nat)(l4:Cluster)(k_1:Int)(to_2:Int)(in_3:Bool) : Option Cluster:=(jn (xv (fun i19 s69=>xl l4 to_2 i19 s69)
  (t6 l4.Truth.InStep:Int) ([] : (List Int))) (fun s172=>qd3 k l4 k_1 to_2 in_3 s172))

def qax (n8:Node)(i9:Nat)(x10:Row)(s8:Int) : Option (Oc Int Int):=(if (decide (x10.Epoch<n8.View.Epoch))=true then (some (.nxt (a0a .i64
  (s8+1)))) else (some (.nxt s8)))
def qhg (s44:Int)  : Option Int:=(some s44)
def u3 (n8:Node) : Option Int:=(jn (k9 (fun i9 x10 s43=>qax n8 i9 x10 s43) n8.Log 0) (fun s51=>qhg s51))

def qbh (x9:Node)(i41:Nat)(s40:Int) : Option (Oc Int (Cluster × Bool)):=((zx x9.View.InStep (i41:Int)).bind fun x67 =>
  ((zx x9.Known x67).bind fun x72=>(if (decide (x72<s40))=true then (some (.nxt x72)) else (some (.nxt s40)))))
def qez (l4:Cluster)(k_1:Int)(x9:Node)(s81:Int)  : Option (Cluster × Bool):=(if (decide (s81≤x9.Told))=true then (some (l4,
  false)) else (if (decide ((t6 l4.Acked:Int)<s81))=true then ((sl x9.Log 0 s81).bind fun l111=>((k5 16 ([] : List Row) l111).bind fun l118=>(some
  ((Cluster.mk l4.Truth (a1u l4.Nodes k_1.toNat (Node.mk x9.View x9.Log x9.Known s81)) l118),
  true)))) else (some ((Cluster.mk l4.Truth (a1u l4.Nodes k_1.toNat (Node.mk x9.View x9.Log x9.Known s81)) l4.Acked),true))))
def wv (l4:Cluster)(k_1:Int) : Option (Cluster × Bool):=((zx l4.Nodes k_1).bind fun x9=>(jn (xv (fun i41 s80=>qbh x9 i41 s80)
  (t6 x9.View.InStep:Int) 30) (fun s143=>qez l4 k_1 x9 s143)))

def uu (k:Nat)(f0:Cluster)(d8:ClusterStep) : Option (Cluster × Bool):=(if ((((((decide (d8.K<0))||(decide ((t6 f0.Nodes:Int)≤d8.K))) ||
  (decide (d8.To<0)))||(decide ((t6 f0.Nodes:Int)≤d8.To)))||(((decide (d8.Kind≠3))&&(decide (d8.Kind≠4)))&&(decide (d8.N≠0)))) ||
  ((!(kt d8.Kind 4 6))&&(decide (d8.To≠0))))=true then (some (f0,
  false)) else ((zx f0.Nodes d8.K).bind fun zg=>((qan f0 d8.K).bind fun v137=>((qci f0.Truth.InStep d8.To).bind fun v164=>((if (decide
  (d8.Kind=1))=true then ((qci f0.Truth.InStep d8.K).bind fun v170=>(some v170)) else (some false)).bind fun v170=>(if (v170&&(decide
  (f0.Truth.Epoch<100)))=true then (some ((Cluster.mk (View.mk (a0a .i64 (f0.Truth.Epoch+1)) d8.K f0.Truth.InStep) f0.Nodes f0.Acked),
  true)) else ((if (decide (d8.Kind=2))=true then ((qdi zg.View f0.Truth).bind fun v217=>(some (!v217))) else (some false)).bind fun v217 =>
  (if v217=true then ((qcp f0 d8.K).bind fun v241=>(some (v241,
  true))) else (if ((((decide (d8.Kind=3))&&v137)&&(kt d8.N 0 99))&&(decide ((t6 zg.Log:Int)<30)))=true then
  ((k5 16 zg.Log [(Row.mk zg.View.Epoch d8.N)]).bind fun l303=>((zx zg.Known d8.K).bind fun x314=>(some ((Cluster.mk f0.Truth (a1u f0.Nodes d8.K.toNat
  (Node.mk zg.View l303 (a1u zg.Known d8.K.toNat (t6 l303:Int)) zg.Told)) f0.Acked),
  true)))) else (if (((decide (d8.Kind=4))&&(!v137))&&(decide (d8.To≠d8.K)))=true then ((qan f0 d8.To).bind fun v368=>((if v368=true then
  ((zx f0.Nodes d8.To).bind fun x374=>(ck (d8.K≠d8.To) (some (decide (x374.View.Epoch=zg.View.Epoch))))) else (some false)).bind fun v374=>(if v374=true then
  (if (kt d8.N 0 30)=true then ((qco k f0 d8.K d8.To d8.N).bind fun v421=>(some (v421,
  true))) else (if (((decide (d8.Kind=5))&&((v137&&(decide (zg.View.Epoch=f0.Truth.Epoch)))&&(decide (d8.To≠d8.K))))&&v164)=true then
  ((wa k f0 d8.K d8.To false).bind fun v467=>(some (v467,
  true))) else ((if (((decide (d8.Kind=6))&&((v137&&(decide (zg.View.Epoch=f0.Truth.Epoch)))&&(decide (d8.To≠d8.K))))&&(!v164))=true then
  ((zx zg.Known d8.To).bind fun x510=>(some (decide (zg.Told≤x510)))) else (some false)).bind fun v510=>(if v510=true then
  ((zx zg.Known d8.To).bind fun x530=>((u3 zg).bind fun v535=>(if (decide (v535≤x530))=true then
  ((wa k f0 d8.K d8.To true).bind fun v543=>(some (v543,
  true))) else (if ((decide (d8.Kind=7))&&v137)=true then ((wv f0 d8.K).bind fun v573=>(some (v573.1,v573.2))) else (some (f0,
  false)))))) else (if ((decide (d8.Kind=7))&&v137)=true then ((wv f0 d8.K).bind fun v609=>(some (v609.1,v609.2))) else (some (f0,
  false))))))) else (if (((decide (d8.Kind=5))&&((v137&&(decide (zg.View.Epoch=f0.Truth.Epoch)))&&(decide (d8.To≠d8.K))))&&v164)=true then
  ((wa k f0 d8.K d8.To false).bind fun v663=>(some (v663,
  true))) else ((if (((decide (d8.Kind=6))&&((v137&&(decide (zg.View.Epoch=f0.Truth.Epoch)))&&(decide (d8.To≠d8.K))))&&(!v164))=true then
  ((zx zg.Known d8.To).bind fun x706=>(some (decide (zg.Told≤x706)))) else (some false)).bind fun v706=>(if v706=true then
  ((zx zg.Known d8.To).bind fun x726=>((u3 zg).bind fun v731=>(if (decide (v731≤x726))=true then
  ((wa k f0 d8.K d8.To true).bind fun v739=>(some (v739,
  true))) else (if ((decide (d8.Kind=7))&&v137)=true then ((wv f0 d8.K).bind fun v769=>(some (v769.1,v769.2))) else (some (f0,
  false)))))) else (if ((decide (d8.Kind=7))&&v137)=true then ((wv f0 d8.K).bind fun v805=>(some (v805.1,v805.2))) else (some (f0,
  false))))))))) else (if (((decide (d8.Kind=5))&&((v137&&(decide (zg.View.Epoch=f0.Truth.Epoch)))&&(decide (d8.To≠d8.K))))&&v164)=true then
  ((wa k f0 d8.K d8.To false).bind fun v859=>(some (v859,
  true))) else ((if (((decide (d8.Kind=6))&&((v137&&(decide (zg.View.Epoch=f0.Truth.Epoch)))&&(decide (d8.To≠d8.K))))&&(!v164))=true then
  ((zx zg.Known d8.To).bind fun x902=>(some (decide (zg.Told≤x902)))) else (some false)).bind fun v902=>(if v902=true then
  ((zx zg.Known d8.To).bind fun x922=>((u3 zg).bind fun v927=>(if (decide (v927≤x922))=true then
  ((wa k f0 d8.K d8.To true).bind fun v935=>(some (v935,
  true))) else (if ((decide (d8.Kind=7))&&v137)=true then ((wv f0 d8.K).bind fun v965=>(some (v965.1,v965.2))) else (some (f0,
  false)))))) else (if ((decide (d8.Kind=7))&&v137)=true then ((wv f0 d8.K).bind fun v1001=>(some (v1001.1,v1001.2))) else (some (f0,false))))))))))))))))

def qdw (v21:View)(l33:List Row)(i54:Nat)(x55:Node)(s49:Cluster) : Option (Oc Cluster Cluster):=((xh x55.View).bind fun v83=>((k5 16
  ([] : List Row) x55.Log).bind fun l103=>((k5 8 ([] : List Int) x55.Known).bind fun l120=>((k5 96 s49.Nodes [(Node.mk v83 l103 l120 x55.Told)]).bind fun l137=>(some
  (.nxt (Cluster.mk (View.mk s49.Truth.Epoch s49.Truth.Leader v21.InStep) l137 l33)))))))
def qiy (v21:View)(l33:List Row)(s150:Cluster)  : Option Cluster:=(some (Cluster.mk (View.mk s150.Truth.Epoch s150.Truth.Leader v21.InStep) s150.Nodes l33))
def qcr (l4:Cluster) : Option Cluster:=((xh l4.Truth).bind fun v21=>((k5 16 ([] : List Row) l4.Acked).bind fun l33=>(jn (k9
  (fun i54 x55 s149=>qdw v21 l33 i54 x55 s149) l4.Nodes (Cluster.mk v21 [] l33)) (fun s163=>qiy v21 l33 s163))))

def qa5 (s62:List Bool)(v136:Cluster × Bool)(s155:Cluster)  : Option (Oc ((List Bool) × Cluster) (Cluster × (List Bool) × Bool)) :=
  ((k5 1 s62 [v136.2]).bind fun l196=>(some (.nxt (l196,s155))))
def x5 (k:Nat)(i80:Nat)(x81:ClusterStep)(s62:List Bool)(s67:Cluster) : Option (Oc ((List Bool) × Cluster) (Cluster × (List Bool) × Bool)) :=
  ((qcr s67).bind fun v116=>((uu k v116 x81).bind fun v136=>((if v136.2=true then (some v136.1) else (some s67)).bind
  (fun s206=>qa5 s62 v136 s206))))
def qcz (s208:List Bool)(s213:Cluster)  : Option (Cluster × (List Bool) × Bool):=((qcr s213).bind fun v233=>(some (v233,s208,true)))
def qa2 (k:Nat)(i7:Int)(r7:List ClusterStep) : Option (Cluster × (List Bool) × Bool):=((qbo k i7).bind fun v5=>(if ((!v5.2) ||
  (decide ((100:Int)<(t6 r7:Int))))=true then (some ((Cluster.mk (View.mk 0 0 []) [] []),[],
  false)) else (jn (k9 (fun i80 x81 s207=>x5 k i80 x81 s207.1 s207.2) r7 (([],
  v5.1) : (List Bool) × Cluster)) (fun s255=>qcz s255.1 s255.2))))

def uj (i0:ClusterStep) : ClusterStep:=i0

def ww (i0:List ClusterStep)(s14:Int)(s15:List ClusterStep) : Option (Oc (Int × (List ClusterStep)) (List ClusterStep)):=(if (decide (s14 <
  (t6 i0:Int)))=true then ((zx i0 s14).bind fun x40=>((zx s15 s14).bind fun x43=>(some (.nxt ((a0a .i64 (s14+1)),
  (a1u s15 s14.toNat (uj x40))))))) else (some (.brk (s14,s15))))
def qd7 (s56:Int)(s57:List ClusterStep)  : Option (List ClusterStep):=(some s57)
def yl (k:Nat)(i0:List ClusterStep) : Option (List ClusterStep):=((mkN 32 (t6 i0:Int) (ClusterStep.mk (0:Int) (0:Int) (0:Int)
  (0:Int))).bind fun l1=>(jn (ko (fun s55=>ww i0 s55.1 s55.2) k (0,l1)) (fun s66=>qd7 s66.1 s66.2)))

def zw (l8:Int)(low_1:Int)(high_2:Int) : Bool:=((decide (low_1≤l8))&&(decide (l8≤high_2)))

def xm (f0:View) : Option View:=((k5 8 ([] : List Int) f0.InStep).bind fun l15=>(some (View.mk f0.Epoch f0.Leader l15)))

def qda (i21:Nat)(s16:Cluster) : Option (Oc Cluster Cluster):=((k5 8 s16.Truth.InStep [(i21:Int)]).bind fun l50=>(some (.nxt (Cluster.mk
  (View.mk s16.Truth.Epoch s16.Truth.Leader l50) [] []))))
def qdp (i7:Int)(s63:Cluster)(i84:Nat)(s79:Cluster) : Option (Oc Cluster Cluster):=((mkN 8 i7 (0:Int)).bind fun l107=>((xm
  (View.mk s79.Truth.Epoch s79.Truth.Leader s63.Truth.InStep)).bind fun v116=>((k5 96 s79.Nodes ([(Node.mk v116 [] l107 0)])).bind fun l134=>(some (.nxt (Cluster.mk
  (View.mk s79.Truth.Epoch s79.Truth.Leader s63.Truth.InStep) l134 []))))))
def qf6 (s63:Cluster)(s147:Cluster)  : Option Cluster:=(some (Cluster.mk (View.mk s147.Truth.Epoch s147.Truth.Leader s63.Truth.InStep) s147.Nodes []))
def qf3 (i7:Int)(s63:Cluster)  : Option Cluster:=(jn (xv (fun i84 s146=>qdp i7 s63 i84 s146) i7
  (Cluster.mk s63.Truth [] [])) (fun s160=>qf6 s63 s160))
def qc1 (i7:Int) : Option Cluster:=(jn (xv (fun i21 s62=>qda i21 s62) i7 (Cluster.mk (View.mk 0 0 []) [] []))
  (fun s161=>qf3 i7 s161))

def xu (d8:Int)(i1:Nat)(x2:Int) : Option (Oc Unit Int):=(if (decide (d8=x2))=true then (some (.ret (i1:Int))) else (some (.nxt ())))
def qfd  : Option Int:=(some (-1))
def qck (s_0:List Int)(d8:Int) : Option Int:=(jn (k9 (fun i1 x2 _=>xu d8 i1 x2 ) s_0 ()) (fun _=>qfd ))

def wb (s_0:List Int)(d8:Int) : Option Bool:=((qck s_0 d8).bind fun v1=>(some (decide ((0:Int)≤v1))))

def qbj (o6:List Int)(o9:Int)(i1:Nat)(x2:Int) : Option (Oc Unit Bool):=((if (!(zw x2 0 (a0a .i64 (o9 - 1))))=true then
  (some true) else ((if (decide ((0:Int)<(i1:Int)))=true then ((zx o6 (a0a .i64 ((i1:Int) - 1))).bind fun x30=>(some (decide (x2≤x30)))) else
  (some false)).bind fun v30=>(some v30))).bind fun v27=>(if v27=true then (some (.ret false)) else (some (.nxt ()))))
def qf2  : Option Bool:=(some true)
def qbm (o6:List Int)(o9:Int) : Option Bool:=(jn (k9 (fun i1 x2 _=>qbj o6 o9 i1 x2 ) o6 ())
  (fun _=>qf2 ))

def qcx (f0:View)(r4:Int) : Option Bool:=((if (zw f0.Epoch 0 100)=true then ((qbm f0.InStep r4).bind fun v10=>(some v10)) else
  (some false)).bind fun v10=>((if v10=true then ((wb f0.InStep f0.Leader).bind fun v26=>(some v26)) else (some false)).bind fun v26=>(some v26)))

def qap (most_1:Int)(i3:Nat)(x4:Row)(s2:Int) : Option (Oc Int Bool):=(if ((!(zw x4.Epoch s2 most_1))||(!(zw x4.Value 0 99)))=true then (some
  (.ret false)) else (some (.nxt x4.Epoch)))
def qix (r5:List Row)(s54:Int)  : Option Bool:=(some (decide ((t6 r5:Int)≤30)))
def qd9 (r5:List Row)(most_1:Int) : Option Bool:=(jn (k9 (fun i3 x4 s53=>qap most_1 i3 x4 s53) r5 0) (fun s62=>qix r5 s62))

def wn (f_1:Int→Option Bool)(i1:Nat)(x2:Int) : Option (Oc Unit Int):=((f_1 x2).bind fun v23=>(if v23=true then (some (.ret (i1:Int))) else
  (some (.nxt ()))))
def qdz  : Option Int:=(some (-1))
def qaf (s_0:List Int)(f_1:Int→Option Bool) : Option Int:=(jn (k9 (fun i1 x2 _=>wn f_1 i1 x2 ) s_0 ())
  (fun _=>qdz ))

def xq (s_0:List Int)(f_1:Int→Option Bool) : Option Bool:=((qaf s_0 f_1).bind fun v1=>(some (decide ((0:Int)≤v1))))

def wk (k_0:Int)(cap_0:Node)(cap_1:Int) : Bool:=((!(zw k_0 0 (t6 cap_0.Log:Int)))||((decide (cap_0.View.Leader≠cap_1))&&(decide
  (k_0≠0))))

def ul (l8:Node)(own_1:Int)(o7:Int) : Option Bool:=((qcx l8.View o7).bind fun v13=>((if (!v13)=true then (some true) else
  ((qd9 l8.Log l8.View.Epoch).bind fun v19=>(some (!v19)))).bind fun v19=>(if ((v19||(decide ((t6 l8.Known:Int)≠o7))) ||
  (!(zw l8.Told 0 (t6 l8.Log:Int))))=true then (some false) else ((xq l8.Known (fun a0=>some
  (wk a0 l8 own_1))).bind fun v53=>(some (!v53))))))

def qa7 (s2_1:List Row)(i2:Nat)(x3:Row) : Option (Oc Unit Bool):=((zx s2_1 (i2:Int)).bind fun x24=>(if (!((x3.Epoch == x24.Epoch) &&
  ((x3.Value == x24.Value)&&true)))=true then (some (.ret false)) else (some (.nxt ()))))
def qe9  : Option Bool:=(some true)
def qav (s1_0:List Row)(s2_1:List Row) : Option Bool:=(if (decide ((t6 s1_0:Int)≠(t6 s2_1:Int)))=true then (some false) else (jn
  (k9 (fun i2 x3 _=>qa7 s2_1 i2 x3 ) s1_0 ()) (fun _=>qe9 )))

def qbv (f0:Cluster)(i32:Nat)(x33:Node) : Option (Oc Unit Bool):=((ul x33 (i32:Int) (t6 f0.Nodes:Int)).bind fun v62=>(if
  (((!v62)||(decide (f0.Truth.Epoch<x33.View.Epoch)))||((decide (x33.View.Epoch=f0.Truth.Epoch))&&(decide (x33.View.Leader≠f0.Truth.Leader))))=true then (some
  (.ret false)) else ((wb f0.Truth.InStep (i32:Int)).bind fun v109=>(if v109=true then (if (decide ((t6 x33.Log:Int) <
  (t6 f0.Acked:Int)))=true then (some (.ret false)) else ((sl x33.Log 0 (t6 f0.Acked:Int)).bind fun l117 =>
  ((qav l117 f0.Acked).bind fun v120=>(if (!v120)=true then (some (.ret false)) else (some (.nxt ())))))) else (some (.nxt ()))))))
def qgo  : Option Bool:=(some true)
def qb6 (f0:Cluster) : Option Bool:=((if (!(zw (t6 f0.Nodes:Int) 2 4))=true then (some true) else ((qcx f0.Truth
  (t6 f0.Nodes:Int)).bind fun v10=>(some (!v10)))).bind fun v10=>(if (v10||(decide ((30:Int)<(t6 f0.Acked:Int))))=true then
  (some false) else (jn (k9 (fun i32 x33 _=>qbv f0 i32 x33 ) f0.Nodes ()) (fun _=>qgo ))))

def qa8 (v21:View)(l33:List Row)(i54:Nat)(x55:Node)(s49:Cluster) : Option (Oc Cluster Cluster):=((xm x55.View).bind fun v97 =>
  ((k5 16 ([] : List Row) x55.Log).bind fun l109=>((k5 8 ([] : List Int) x55.Known).bind fun l120 =>
  ((k5 96 s49.Nodes [(Node.mk v97 l109 l120 x55.Told)]).bind fun l137=>(some (.nxt (Cluster.mk (View.mk s49.Truth.Epoch s49.Truth.Leader v21.InStep) l137 l33)))))))
def qfb (v21:View)(l33:List Row)(s150:Cluster)  : Option Cluster:=(some (Cluster.mk
  (View.mk s150.Truth.Epoch s150.Truth.Leader v21.InStep) s150.Nodes l33))
def qay (l4:Cluster) : Option Cluster:=((xm l4.Truth).bind fun v21=>((k5 16 ([] : List Row) l4.Acked).bind fun l33=>(jn (k9
  (fun i54 x55 s149=>qa8 v21 l33 i54 x55 s149) l4.Nodes (Cluster.mk v21 [] l33)) (fun s163=>qfb v21 l33 s163))))

def qa4 (s2_1:List Int)(i2:Nat)(x3:Int) : Option (Oc Unit Bool):=((zx s2_1 (i2:Int)).bind fun x24=>(if (decide (x3≠x24))=true then (some
  (.ret false)) else (some (.nxt ()))))
def qfa  : Option Bool:=(some true)
def qar (s1_0:List Int)(s2_1:List Int) : Option Bool:=(if (decide ((t6 s1_0:Int)≠(t6 s2_1:Int)))=true then (some false) else (jn
  (k9 (fun i2 x3 _=>qa4 s2_1 i2 x3 ) s1_0 ()) (fun _=>qfa )))

def qcm (i0:View)(i6:View) : Option Bool:=((if ((decide (i0.Epoch=i6.Epoch))&&(decide (i0.Leader=i6.Leader)))=true then
  ((qar i0.InStep i6.InStep).bind fun v25=>(some v25)) else (some false)).bind fun v25=>(some v25))

def we (d8:ClusterStep)(s131:Int)(s132:List Node) : Option (Oc (Int × (List Node)) (Bool × Cluster)):=((zx s132 d8.K).bind fun x157 =>
  ((zx s132 d8.To).bind fun x183=>((if (decide (s131<(mnI (t6 x157.Log:Int) (t6 x183.Log:Int))))=true then ((zx x157.Log s131).bind fun x231 =>
  ((zx x183.Log s131).bind fun x259=>(some ((x231.Epoch == x259.Epoch)&&((x231.Value == x259.Value)&&true))))) else (some false)).bind fun v208=>(if v208=true then
  (some (.nxt ((a0a .i64 (s131+1)),s132))) else (some (.brk (s131,s132)))))))
def qb8 (f0:Cluster)(d8:ClusterStep)(s289:Int)(s290:List Node)  : Option (Bool × Cluster):=((zx s290 d8.To).bind fun x300 =>
  ((sl x300.Log s289 (t6 x300.Log)).bind fun l322=>((zx s290 d8.K).bind fun x336=>(ck (d8.To≠d8.K) ((sl x336.Log 0 s289).bind fun l361=>((k5 16
  ([] : List Row) l361).bind fun l368=>((sl l322 0 (mnI d8.N (t6 l322:Int))).bind fun l378=>((k5 16 l368 l378).bind fun l385 =>
  ((zx x300.Known d8.K).bind fun x404=>(some (true,
  (Cluster.mk f0.Truth (a1u (a1u s290 d8.K.toNat (Node.mk x336.View l385 x336.Known 0)) d8.To.toNat (Node.mk x300.View x300.Log (a1u x300.Known d8.K.toNat
  (t6 l385:Int)) x300.Told)) f0.Acked))))))))))))
def uq (k:Nat)(f0:Cluster)(d8:ClusterStep) : Option (Bool × Cluster):=((zx f0.Nodes d8.K).bind fun x7=>((zx f0.Nodes d8.To).bind fun x12 =>
  (if ((((decide (d8.K=d8.To))||(decide (x12.View.Leader≠d8.To)))||(decide (x7.View.Leader=d8.K)))||(decide (x7.View.Epoch≠x12.View.Epoch)))=true then (some
  (false,f0)) else (if (!(zw d8.N 0 30))=true then (some (false,f0)) else (jn (ko (fun s288=>we d8 s288.1 s288.2) k (0,
  f0.Nodes)) (fun s424=>qb8 f0 d8 s424.1 s424.2))))))

def yo (n8:Int) : Bool:=(decide (n8≠n8))

def qcd (n8:Int)(y_1:Int) : Bool:=(((yo n8)&&(!(yo y_1)))||(decide (n8<y_1)))

def wg (n8:Int) : Bool:=(decide (n8≠n8))

def yz (n8:List Int)(target_1:Int)(s3:Int)(s4:Int) : Option (Oc (Int × Int) (Int × Bool)):=(if (decide (s3<s4))=true then ((zx n8
  (a0a .i64 (qlq .u64 (a0a .u64 (a0a .i64 (s3+s4))) 1))).bind fun x29=>(if (qcd x29 target_1)=true then (some (.nxt
  ((a0a .i64 ((a0a .i64 (qlq .u64 (a0a .u64 (a0a .i64 (s3+s4))) 1))+1)),s4))) else (some (.nxt (s3,
  (a0a .i64 (qlq .u64 (a0a .u64 (a0a .i64 (s3+s4))) 1))))))) else (some (.brk (s3,s4))))
def u6 (n8:List Int)(target_1:Int)(s37:Int)(s38:Int)  : Option (Int × Bool):=((if (decide (s37<(t6 n8:Int)))=true then
  ((zx n8 s37).bind fun x50=>((if (decide (x50=target_1))=true then (some true) else ((zx n8 s37).bind fun x56=>(some ((wg x56) &&
  (wg target_1))))).bind fun v56=>(some v56))) else (some false)).bind fun v50=>(some (s37,v50)))
def wm (k:Nat)(n8:List Int)(target_1:Int) : Option (Int × Bool):=(jn (ko (fun s36=>yz n8 target_1 s36.1 s36.2) k (0,
  (t6 n8:Int))) (fun s90=>u6 n8 target_1 s90.1 s90.2))

def qbw (s_0:List Int)(i_1:Int)(j_2:Int) : Option (List Int):=qm8 s_0 i_1 j_2

def wd (x7:Node)(i76:Nat)(s75:Int) : Option (Oc Int (Oc (Cluster × (List Node)) (Bool × Cluster))):=((zx x7.Log (i76:Int)).bind fun zg=>(if
  (decide (zg.Epoch<x7.View.Epoch))=true then (some (.nxt (a0a .i64 (s75+1)))) else (some (.nxt s75))))
def u1 (f0:Cluster)(d8:ClusterStep)(x7:Node)(v12:Int × Bool)(s120:Int)  : Option (Oc (Cluster × (List Node)) (Bool × Cluster)) :=
  ((if v12.2=true then (some true) else ((zx x7.Known d8.To).bind fun x134=>(some (decide (x134<x7.Told))))).bind fun v134=>((if v134=true then (some true) else
  ((zx x7.Known d8.To).bind fun x156=>(some (decide (x156<s120))))).bind fun v156=>(if v156=true then (some (.ret (false,
  f0))) else ((qd1 f0.Truth.InStep v12.1 [d8.To]).bind fun v187=>(some (.nxt ((Cluster.mk
  (View.mk f0.Truth.Epoch f0.Truth.Leader v187.1) f0.Nodes f0.Acked),f0.Nodes)))))))
def uy (f0:Cluster)(d8:ClusterStep)(s15:Cluster)(s20:List Node)  : Option (Bool × Cluster):=((k5 8
  ([] : List Int) s15.Truth.InStep).bind fun l217=>((zx s20 d8.K).bind fun x228=>(some (true,
  (Cluster.mk s15.Truth (a1u s20 d8.K.toNat (Node.mk (View.mk x228.View.Epoch x228.View.Leader l217) x228.Log x228.Known x228.Told)) f0.Acked)))))
def uo (k:Nat)(f0:Cluster)(d8:ClusterStep) : Option (Bool × Cluster):=((zx f0.Nodes d8.K).bind fun x7 =>
  ((wm k f0.Truth.InStep d8.To).bind fun v12=>(jn (if (decide (d8.Kind=5))=true then (if ((!v12.2)||(decide (d8.To=d8.K)))=true then (some
  (.ret (false,f0))) else ((qbw f0.Truth.InStep v12.1 (a0a .i64 (v12.1+1))).bind fun v43=>(some (.nxt ((Cluster.mk
  (View.mk f0.Truth.Epoch f0.Truth.Leader v43) f0.Nodes f0.Acked),
  f0.Nodes))))) else (jn (xv (fun i76 s119=>wd x7 i76 s119) (t6 x7.Log:Int) 0) (fun s205=>u1 f0 d8 x7 v12 s205)))
  (fun s257=>uy f0 d8 s257.1 s257.2))))

def ur (f0:Cluster)(d8:ClusterStep)(s61:List Node)  : Option (Bool × Cluster):=((xm f0.Truth).bind fun v137 =>
  ((zx s61 d8.K).bind fun x151=>(some (true,(Cluster.mk f0.Truth (a1u s61 d8.K.toNat (Node.mk v137 x151.Log x151.Known x151.Told)) f0.Acked)))))
def uk (x7:Node)(i346:Nat)(s345:Int) : Option (Oc Int (Bool × Cluster)):=((zx x7.View.InStep (i346:Int)).bind fun x370 =>
  ((zx x7.Known x370).bind fun x375=>(some (.nxt (mnI s345 x375)))))
def qde (f0:Cluster)(d8:ClusterStep)(x7:Node)(s382:Int)  : Option (Bool × Cluster):=(if (decide (s382≤x7.Told))=true then (some (false,
  f0)) else (if (decide ((t6 f0.Acked:Int)<s382))=true then ((sl x7.Log 0 s382).bind fun l406=>((k5 16 ([] : List Row) l406).bind fun l413=>(some (true,
  (Cluster.mk f0.Truth (a1u f0.Nodes d8.K.toNat (Node.mk x7.View x7.Log x7.Known s382)) l413))))) else (some (true,
  (Cluster.mk f0.Truth (a1u f0.Nodes d8.K.toNat (Node.mk x7.View x7.Log x7.Known s382)) f0.Acked)))))
def qbr (k:Nat)(f0:Cluster)(d8:ClusterStep)(x7:Node)(s260:Bool)  : Option (Bool × Cluster):=(if s260=true then (if ((!(decide
  (x7.View.Leader=d8.K)))||(decide (x7.View.Epoch≠f0.Truth.Epoch)))=true then (some (false,f0)) else ((uo k f0 d8).bind fun v310=>(some (v310.1,
  v310.2)))) else (if (decide (d8.Kind=7))=true then (if (!(decide (x7.View.Leader=d8.K)))=true then (some (false,
  f0)) else (jn (xv (fun i346 s381=>uk x7 i346 s381) (t6 x7.View.InStep:Int) 30) (fun s434=>qde f0 d8 x7 s434))) else (some
  (false,f0))))
def qbf (k:Nat)(f0:Cluster)(d8:ClusterStep) : Option (Bool × Cluster):=((zx f0.Nodes d8.K).bind fun x7=>(if (decide (d8.Kind=1))=true then
  ((wb f0.Truth.InStep d8.K).bind fun v32=>(if (!v32)=true then (some (false,f0)) else (some (true,
  (Cluster.mk (View.mk (a0a .i64 (f0.Truth.Epoch+1)) d8.K f0.Truth.InStep) f0.Nodes f0.Acked))))) else (if (decide (d8.Kind=2))=true then
  ((qcm x7.View f0.Truth).bind fun v49=>(if v49=true then (some (false,
  f0)) else ((if (decide (x7.View.Epoch≠f0.Truth.Epoch))=true then ((mkN 8 (t6 f0.Nodes:Int) (0:Int)).bind fun l72=>(if (decide
  (f0.Truth.Leader=d8.K))=true then ((zx l72 d8.K).bind fun qnl=>(some (a1u f0.Nodes d8.K.toNat (Node.mk x7.View x7.Log (a1u l72 d8.K.toNat
  (t6 x7.Log:Int)) 0)))) else (some (a1u f0.Nodes d8.K.toNat (Node.mk x7.View x7.Log l72 0))))) else (some f0.Nodes)).bind
  (fun s180=>ur f0 d8 s180)))) else (if (decide (d8.Kind=3))=true then (if (((!(decide (x7.View.Leader=d8.K)))||(!(zw d8.N 0 99))) ||
  (decide ((t6 x7.Log:Int)=30)))=true then (some (false,
  f0)) else ((k5 16 x7.Log [(Row.mk x7.View.Epoch d8.N)]).bind fun l212=>((zx x7.Known d8.K).bind fun x225=>(some (true,
  (Cluster.mk f0.Truth (a1u f0.Nodes d8.K.toNat (Node.mk x7.View l212 (a1u x7.Known d8.K.toNat (t6 l212:Int)) x7.Told)) f0.Acked)))))) else (if
  (decide (d8.Kind=4))=true then ((uq k f0 d8).bind fun v245=>(some (v245.1,
  v245.2))) else ((if (decide (d8.Kind=5))=true then (some (decide (d8.Kind=5))) else (some (decide (d8.Kind=6)))).bind
  (fun s435=>qbr k f0 d8 x7 s435)))))))

def wq (k:Nat)(f0:Cluster)(d8:ClusterStep) : Option (Cluster × Bool):=(if ((((!(zw d8.K 0 (a0a .i64
  ((t6 f0.Nodes:Int) - 1))))||(!(zw d8.To 0 (a0a .i64 ((t6 f0.Nodes:Int) - 1)))))||((!(((decide (d8.Kind=4))||(decide
  (d8.Kind=5)))||(decide (d8.Kind=6))))&&(decide (d8.To≠0))))||(((decide (d8.Kind≠3))&&(decide (d8.Kind≠4)))&&(decide (d8.N≠0))))=true then (some
  ((Cluster.mk (View.mk 0 0 []) [] []),
  false)) else ((qay f0).bind fun v106=>((qbf k v106 d8).bind fun v132=>((if (!v132.1)=true then (some true) else
  ((qb6 v132.2).bind fun v150=>(some (!v150)))).bind fun v150=>(if v150=true then (some ((Cluster.mk (View.mk 0 0 []) [] []),false)) else (some (v132.2,
  true)))))))

def qa6 (s68:List Bool)(v118:Cluster × Bool)(s146:Cluster)  : Option (Oc ((List Bool) × Cluster) (Cluster × (List Bool) × Bool)) :=
  ((k5 1 s68 [v118.2]).bind fun l187=>(some (.nxt (l187,s146))))
def xz (k:Nat)(i86:Nat)(x87:ClusterStep)(s68:List Bool)(s73:Cluster) : Option (Oc ((List Bool) × Cluster) (Cluster × (List Bool) × Bool)) :=
  ((wq k s73 x87).bind fun v118=>((if v118.2=true then (some v118.1) else (some s73)).bind (fun s197=>qa6 s68 v118 s197)))
def qfc (s199:List Bool)(s204:Cluster)  : Option (Cluster × (List Bool) × Bool):=(some (s204,s199,true))
def x8 (k:Nat)(i7:Int)(r7:List ClusterStep) : Option (Cluster × (List Bool) × Bool):=(if ((!(zw i7 2 4))||(decide ((100:Int) <
  (t6 r7:Int))))=true then (some ((Cluster.mk (View.mk 0 0 []) [] []),[],
  false)) else ((qc1 i7).bind fun v18=>(jn (k9 (fun i86 x87 s198=>xz k i86 x87 s198.1 s198.2) r7 (([] : List Bool),
  v18)) (fun s226=>qfc s226.1 s226.2))))

def qbi (i0:List Bool)(i6:List Bool)(s3:Int) : Option (Oc Int Bool):=(if (decide (s3<(t6 i0:Int)))=true then
  ((zx i0 s3).bind fun x26=>((zx i6 s3).bind fun x29=>(if (!(x26 == x29))=true then (some (.ret false)) else (some (.nxt (a0a .i64 (s3+1))))))) else
  (some (.brk s3)))
def qhx (s39:Int)  : Option Bool:=(some true)
def qaw (k:Nat)(i0:List Bool)(i6:List Bool) : Option Bool:=(if (decide ((t6 i0:Int)≠(t6 i6:Int)))=true then (some false) else (jn
  (ko (fun s38=>qbi i0 i6 s38) k 0) (fun s46=>qhx s46)))

def ut (i0:ClusterStep)(i6:ClusterStep) : Option Bool:=(if (decide (i0.Kind≠i6.Kind))=true then (some false) else (if (decide
  (i0.K≠i6.K))=true then (some false) else (if (decide (i0.To≠i6.To))=true then (some false) else (if (decide (i0.N≠i6.N))=true then (some false) else
  (some true)))))

def wx (i0:List ClusterStep)(i6:List ClusterStep)(s3:Int) : Option (Oc Int Bool):=(if (decide (s3<(t6 i0:Int)))=true then
  ((zx i0 s3).bind fun x26=>((zx i6 s3).bind fun x29=>((ut x26 x29).bind fun v32=>(if (!v32)=true then (some (.ret false)) else (some (.nxt
  (a0a .i64 (s3+1)))))))) else (some (.brk s3)))
def qeb (s42:Int)  : Option Bool:=(some true)
def xy (k:Nat)(i0:List ClusterStep)(i6:List ClusterStep) : Option Bool:=(if (decide ((t6 i0:Int)≠(t6 i6:Int)))=true then
  (some false) else (jn (ko (fun s41=>wx i0 i6 s41) k 0) (fun s49=>qeb s49)))

def wj (s6:Int)(s7:Int)(s8:List ClusterStep) : Option (Oc (Int × Int × (List ClusterStep)) (Int × (List ClusterStep))):=(if (decide (s7 <
  (t6 s8:Int)))=true then ((zx s8 s7).bind fun x33=>(some (.nxt ((a0a .i64 ((a0a .i64 ((a0a .i64 ((a0a .i64
  (s6+1))+1))+1))+1)),(a0a .i64 (s7+1)),
  (a1u s8 s7.toNat (ClusterStep.mk s6 (a0a .i64 (s6+1)) (a0a .i64 ((a0a .i64 (s6+1))+1)) (a0a .i64 ((a0a .i64
  ((a0a .i64 (s6+1))+1))+1)))))))) else (some (.brk (s6,s7,s8))))
def qc4 (s61:Int)(s62:Int)(s63:List ClusterStep)  : Option (Int × (List ClusterStep)):=(some (s61,s63))
def w8 (k:Nat)(i0:List ClusterStep)(k_1:Int) : Option (Int × (List ClusterStep)):=(jn (ko
  (fun s60=>wj s60.1 s60.2.1 s60.2.2) k (k_1,0,i0)) (fun s72=>qc4 s72.1 s72.2.1 s72.2.2))

def qaa (s6:Int)(s7:Int)(s8:List Bool) : Option (Oc (Int × Int × (List Bool)) (Int × (List Bool))):=(if (decide (s7<(t6 s8:Int)))=true then
  ((zx s8 s7).bind fun x33=>(some (.nxt ((a0a .i64 (s6+1)),(a0a .i64 (s7+1)),
  (a1u s8 s7.toNat (decide ((Int.tmod s6 3)=0))))))) else (some (.brk (s6,s7,s8))))
def qgq (s46:Int)(s47:Int)(s48:List Bool)  : Option (Int × (List Bool)):=(some (s46,s48))
def qb5 (k:Nat)(i0:List Bool)(k_1:Int) : Option (Int × (List Bool)):=(jn (ko (fun s45=>qaa s45.1 s45.2.1 s45.2.2) k (k_1,0,
  i0)) (fun s57=>qgq s57.1 s57.2.1 s57.2.2))

def u7 (i0:List Bool)(s3:Int)(s4:Int) : Option (Oc (Int × Int) Int):=(if (decide (s4<(t6 i0:Int)))=true then
  ((zx i0 s4).bind fun x27=>(if (!(x27 == (decide ((Int.tmod s3 3)=0))))=true then (some (.ret (-1))) else (some (.nxt ((a0a .i64 (s3+1)),
  (a0a .i64 (s4+1))))))) else (some (.brk (s3,s4))))
def qgp (s37:Int)(s38:Int)  : Option Int:=(some s37)
def qam (k:Nat)(i0:List Bool)(k_1:Int) : Option Int:=(jn (ko (fun s36=>u7 i0 s36.1 s36.2) k (k_1,
  0)) (fun s45=>qgp s45.1 s45.2))

def wo (k:Nat)(f0:Int)(d8:List ClusterStep) : Option Bool:=((xw d8 1048576).bind fun v1=>(if (decide (v1<0))=true then
  (some true) else ((yl k d8).bind fun v5=>((qa2 k f0 v5).bind fun v17=>((yl k d8).bind fun v49 =>
  ((x8 k f0 v49).bind fun v61=>((uc k v61.1 v17.1).bind fun v93=>((if (!v93)=true then (some true) else
  ((qaw k v61.2.1 v17.2.1).bind fun v99=>(some (!v99)))).bind fun v99=>(if (v99||(!(v61.2.2 == v17.2.2)))=true then (some false) else
  ((yl k d8).bind fun v137=>((xy k v49 v137).bind fun v149=>(if (!v149)=true then (some false) else
  ((w8 k v49 1).bind fun v153=>((if (decide (v153.1<0))=true then (some true) else ((uc k v61.1 v17.1).bind fun v163=>(some
  (!v163)))).bind fun v163=>((if v163=true then (some true) else ((qaw k v61.2.1 v17.2.1).bind fun v186=>(some (!v186)))).bind fun v186=>(if (v186 ||
  (!(v61.2.2 == v17.2.2)))=true then (some false) else ((qa1 k v61.1 1).bind fun v221=>((qb5 k v61.2.1 v221.1).bind fun v232=>((ub k
  (Cluster.mk (View.mk v61.1.Truth.Epoch v61.1.Truth.Leader v221.2.Truth.InStep) v221.2.Nodes v221.2.Acked) 1).bind fun v239=>(if (decide (v239<0))=true then
  (some false) else ((qam k v232.2 v239).bind fun v243=>(if (decide (v243<0))=true then (some false) else (if (decide (v243≠v232.1))=true then
  (some false) else ((yl k d8).bind fun v248=>((x8 k f0 v248).bind fun v260=>((uc k v260.1 v17.1).bind fun v292=>((if
  (!v292)=true then (some true) else ((qaw k v260.2.1 v17.2.1).bind fun v298=>(some (!v298)))).bind fun v298=>(if (v298||(!(v260.2.2 == v17.2.2)))=true then
  (some false) else ((ub k (Cluster.mk (View.mk v61.1.Truth.Epoch v61.1.Truth.Leader v221.2.Truth.InStep) v221.2.Nodes v221.2.Acked) 1).bind fun v326=>(if
  (decide (v326<0))=true then (some false) else ((qam k v232.2 v326).bind fun v330=>(if (decide (v330<0))=true then (some false) else (if (decide
  (v330≠v232.1))=true then (some false) else (some true))))))))))))))))))))))))))))))))))
end Go.Proofs.Ytohofoampalhoaa.X
