/- The seat's types and functions, as plain Lean has them. -/
import Derived.Test.YtohofoampalhoaaZIns
open Go.IntKind renaming wrap→l4
open List renaming length→f0,set→a0u
set_option linter.unusedVariables false
set_option linter.unusedSimpArgs false
set_option maxRecDepth 100000
namespace Go.Proofs.Ytohofoampalhoaa.X
open Go
structure BoundsError where
 x:Int
 y:Int
 signed:Bool
 code:Int
 deriving DecidableEq,Inhabited
def qw3 (x:BoundsError) : List XV:=[.int .i64 x.x,.int .i64 x.y,.bool x.signed,.int .u8 x.code]
structure View where
 Epoch:Int
 Leader:Int
 InStep:List Int
 deriving DecidableEq,Inhabited
def qsi (x:View) : List XV:=[.int .i64 x.Epoch,.int .i64 x.Leader,lst cI x.InStep]
structure Row where
 Epoch:Int
 Value:Int
 deriving DecidableEq,Inhabited
def qg (x:Row) : List XV:=[.int .i64 x.Epoch,.int .i64 x.Value]
structure Node where
 View:View
 Log:List Row
 Known:List Int
 Told:Int
 deriving DecidableEq,Inhabited
def qq (x:Node) : List XV:=[.int .i64 x.View.Epoch,.int .i64 x.View.Leader,lst cI x.View.InStep,lst qg x.Log,lst cI x.Known,.int .i64 x.Told]
structure Cluster where
 Truth:View
 Nodes:List Node
 Acked:List Row
 deriving DecidableEq,Inhabited
def qoa (x:Cluster) : List XV:=[.int .i64 x.Truth.Epoch,.int .i64 x.Truth.Leader,lst cI x.Truth.InStep,lst qq x.Nodes,lst qg x.Acked]
structure ClusterStep where
 Kind:Int
 K:Int
 To:Int
 N:Int
 deriving DecidableEq,Inhabited
def qkt (x:ClusterStep) : List XV:=[.int .i64 x.Kind,.int .i64 x.K,.int .i64 x.To,.int .i64 x.N]

def qds (s_0:List Int)(i_1:Int)(v_2:List Int) : Option (List Int × List Int):=qm5 s_0 i_1 v_2

def qbm (a_0:List Int)(b_1:List Int)(s3:Int) : Option (Oc Int Bool):=(if (decide (s3<(f0 a_0:Int)))=true then ((z7 a_0 s3).bind fun x26 =>
  ((z7 b_1 s3).bind fun x29=>(if (decide (x26≠x29))=true then (some (.ret false)) else (some (.nxt (l4 .i64 (s3+1))))))) else (some (.brk s3)))
def qii (s39:Int)  : Option Bool:=(some true)
def qcl (k:Nat)(a_0:List Int)(b_1:List Int) : Option Bool:=(if (decide ((f0 a_0:Int)≠(f0 b_1:Int)))=true then (some false) else (jn
  (kw (fun s38=>qbm a_0 b_1 s38) k 0) (fun s46=>qii s46)))

def qck (k:Nat)(a_0:View)(b_1:View) : Option Bool:=(if (decide (a_0.Epoch≠b_1.Epoch))=true then (some false) else (if (decide
  (a_0.Leader≠b_1.Leader))=true then (some false) else ((qcl k a_0.InStep b_1.InStep).bind fun v15=>(if (!v15)=true then (some false) else (some true)))))

def qez (a_0:Row)(b_1:Row) : Option Bool:=(if (decide (a_0.Epoch≠b_1.Epoch))=true then (some false) else (if (decide (a_0.Value≠b_1.Value))=true then
  (some false) else (some true)))

def qbw (a_0:List Row)(b_1:List Row)(s3:Int) : Option (Oc Int Bool):=(if (decide (s3<(f0 a_0:Int)))=true then ((z7 a_0 s3).bind fun x26 =>
  ((z7 b_1 s3).bind fun x29=>((qez x26 x29).bind fun v32=>(if (!v32)=true then (some (.ret false)) else (some (.nxt (l4 .i64 (s3+1)))))))) else (some
  (.brk s3)))
def qia (s42:Int)  : Option Bool:=(some true)
def qci (k:Nat)(a_0:List Row)(b_1:List Row) : Option Bool:=(if (decide ((f0 a_0:Int)≠(f0 b_1:Int)))=true then (some false) else (jn
  (kw (fun s41=>qbw a_0 b_1 s41) k 0) (fun s49=>qia s49)))

def qdw (k:Nat)(a_0:Node)(b_1:Node) : Option Bool:=((qck k a_0.View b_1.View).bind fun v13=>(if (!v13)=true then (some false) else
  ((qci k a_0.Log b_1.Log).bind fun v17=>(if (!v17)=true then (some false) else ((qcl k a_0.Known b_1.Known).bind fun v21=>(if (!v21)=true then
  (some false) else (if (decide (a_0.Told≠b_1.Told))=true then (some false) else (some true))))))))

def qa3 (k:Nat)(a_0:List Node)(b_1:List Node)(s3:Int) : Option (Oc Int Bool):=(if (decide (s3<(f0 a_0:Int)))=true then
  ((z7 a_0 s3).bind fun x26=>((z7 b_1 s3).bind fun x29=>((qdw k x26 x29).bind fun v32=>(if (!v32)=true then (some (.ret false)) else (some (.nxt
  (l4 .i64 (s3+1)))))))) else (some (.brk s3)))
def qhl (s42:Int)  : Option Bool:=(some true)
def qc4 (k:Nat)(a_0:List Node)(b_1:List Node) : Option Bool:=(if (decide ((f0 a_0:Int)≠(f0 b_1:Int)))=true then (some false) else (jn
  (kw (fun s41=>qa3 k a_0 b_1 s41) k 0) (fun s49=>qhl s49)))

def wz (k:Nat)(a_0:Cluster)(b_1:Cluster) : Option Bool:=((qck k a_0.Truth b_1.Truth).bind fun v13=>(if (!v13)=true then (some false) else
  ((qc4 k a_0.Nodes b_1.Nodes).bind fun v17=>(if (!v17)=true then (some false) else ((qci k a_0.Acked b_1.Acked).bind fun v21=>(if (!v21)=true then
  (some false) else (some true)))))))

def qap (s6:Int)(s7:Int)(s8:List Int) : Option (Oc (Int × Int × (List Int)) (Int × (List Int))):=(if (decide (s7<(f0 s8:Int)))=true then
  ((z7 s8 s7).bind fun x33=>(some (.nxt ((l4 .i64 (s6+1)),(l4 .i64 (s7+1)),(a0u s8 s7.toNat s6))))) else (some (.brk (s6,s7,s8))))
def qgr (s46:Int)(s47:Int)(s48:List Int)  : Option (Int × (List Int)):=(some (s46,s48))
def ux (k:Nat)(a_0:List Int)(k_1:Int) : Option (Int × (List Int)):=(jn (kw (fun s45=>qap s45.1 s45.2.1 s45.2.2) k (k_1,0,
  a_0)) (fun s57=>qgr s57.1 s57.2.1 s57.2.2))

def qb8 (k:Nat)(a_0:View)(k_1:Int) : Option (Int × View):=((ux k a_0.InStep k_1).bind fun v7=>(some (v7.1,(View.mk a_0.Epoch a_0.Leader v7.2))))

def qaf (s6:Int)(s7:Int)(s8:List Row) : Option (Oc (Int × Int × (List Row)) (Int × (List Row))):=(if (decide (s7<(f0 s8:Int)))=true then
  ((z7 s8 s7).bind fun x33=>(some (.nxt ((l4 .i64 ((l4 .i64 (s6+1))+1)),(l4 .i64 (s7+1)),
  (a0u s8 s7.toNat (Row.mk s6 (l4 .i64 (s6+1)))))))) else (some (.brk (s6,s7,s8))))
def qgq (s51:Int)(s52:Int)(s53:List Row)  : Option (Int × (List Row)):=(some (s51,s53))
def qa0 (k:Nat)(a_0:List Row)(k_1:Int) : Option (Int × (List Row)):=(jn (kw (fun s50=>qaf s50.1 s50.2.1 s50.2.2) k (k_1,0,
  a_0)) (fun s62=>qgq s62.1 s62.2.1 s62.2.2))

def u4 (k:Nat)(s6:Int)(s7:Int)(s8:List Node) : Option (Oc (Int × Int × (List Node)) (Int × (List Node))):=(if (decide (s7 <
  (f0 s8:Int)))=true then ((z7 s8 s7).bind fun x33=>((ux k x33.View.InStep (l4 .i64 ((l4 .i64 (s6+1))+1))).bind fun v65 =>
  ((qa0 k x33.Log v65.1).bind fun v72=>((ux k x33.Known v72.1).bind fun v79=>(some (.nxt ((l4 .i64 (v79.1+1)),(l4 .i64 (s7+1)),
  (a0u s8 s7.toNat (Node.mk (View.mk s6 (l4 .i64 (s6+1)) v65.2) v72.2 v79.2 v79.1))))))))) else (some (.brk (s6,s7,s8))))
def qf8 (s98:Int)(s99:Int)(s100:List Node)  : Option (Int × (List Node)):=(some (s98,s100))
def qbx (k:Nat)(a_0:List Node)(k_1:Int) : Option (Int × (List Node)):=(jn (kw (fun s97=>u4 k s97.1 s97.2.1 s97.2.2) k (k_1,0,
  a_0)) (fun s109=>qf8 s109.1 s109.2.1 s109.2.2))

def xw (k:Nat)(a_0:Cluster)(k_1:Int) : Option (Int × Cluster):=((qb8 k a_0.Truth k_1).bind fun v7 =>
  ((qbx k a_0.Nodes v7.1).bind fun v14=>((qa0 k a_0.Acked v14.1).bind fun v21=>(some (v21.1,
  (Cluster.mk (View.mk a_0.Truth.Epoch a_0.Truth.Leader v7.2.InStep) v14.2 v21.2))))))

def qah (a_0:List Int)(s3:Int)(s4:Int) : Option (Oc (Int × Int) Int):=(if (decide (s4<(f0 a_0:Int)))=true then
  ((z7 a_0 s4).bind fun x27=>(if (decide (x27≠s3))=true then (some (.ret (-1))) else (some (.nxt ((l4 .i64 (s3+1)),
  (l4 .i64 (s4+1))))))) else (some (.brk (s3,s4))))
def qg1 (s37:Int)(s38:Int)  : Option Int:=(some s37)
def uu (k:Nat)(a_0:List Int)(k_1:Int) : Option Int:=(jn (kw (fun s36=>qah a_0 s36.1 s36.2) k (k_1,
  0)) (fun s45=>qg1 s45.1 s45.2))

def qcc (k:Nat)(a_0:View)(k_1:Int) : Option Int:=((uu k a_0.InStep k_1).bind fun v7=>(if (decide (v7<0))=true then (some (-1)) else (some v7)))

def qal (a_0:List Row)(s3:Int)(s4:Int) : Option (Oc (Int × Int) Int):=(if (decide (s4<(f0 a_0:Int)))=true then
  ((z7 a_0 s4).bind fun x27=>(if (decide (x27.Epoch≠s3))=true then (some (.ret (-1))) else ((z7 a_0 s4).bind fun x34=>(if (decide (x34.Value≠(l4 .i64
  (s3+1))))=true then (some (.ret (-1))) else (some (.nxt ((l4 .i64 ((l4 .i64 (s3+1))+1)),(l4 .i64 (s4+1))))))))) else (some (.brk (s3,
  s4))))
def qgu (s44:Int)(s45:Int)  : Option Int:=(some s44)
def qay (k:Nat)(a_0:List Row)(k_1:Int) : Option Int:=(jn (kw (fun s43=>qal a_0 s43.1 s43.2) k (k_1,
  0)) (fun s52=>qgu s52.1 s52.2))

def u2 (k:Nat)(v_0:List Node)(s3:Int)(s4:Int) : Option (Oc (Int × Int) Int):=(if (decide (s4<(f0 v_0:Int)))=true then
  ((z7 v_0 s4).bind fun x27=>(if (decide (x27.View.Epoch≠s3))=true then (some (.ret (-1))) else ((z7 v_0 s4).bind fun x34=>(if (decide (x34.View.Leader ≠
  (l4 .i64 (s3+1))))=true then (some (.ret (-1))) else ((z7 v_0 s4).bind fun x41=>((uu k x41.View.InStep (l4 .i64 ((l4 .i64
  (s3+1))+1))).bind fun v44=>(if (decide (v44<0))=true then (some (.ret (-1))) else ((z7 v_0 s4).bind fun x51=>((qay k x51.Log v44).bind fun v54=>(if
  (decide (v54<0))=true then (some (.ret (-1))) else ((z7 v_0 s4).bind fun x61=>((uu k x61.Known v54).bind fun v64=>(if (decide (v64<0))=true then
  (some (.ret (-1))) else ((z7 v_0 s4).bind fun x71=>(if (decide (x71.Told≠v64))=true then (some (.ret (-1))) else (some (.nxt ((l4 .i64 (v64+1)),
  (l4 .i64 (s4+1)))))))))))))))))))) else (some (.brk (s3,s4))))
def qf9 (s81:Int)(s82:Int)  : Option Int:=(some s81)
def qbs (k:Nat)(v_0:List Node)(v_1:Int) : Option Int:=(jn (kw (fun s80=>u2 k v_0 s80.1 s80.2) k (v_1,
  0)) (fun s89=>qf9 s89.1 s89.2))

def xu (k:Nat)(a_0:Cluster)(k_1:Int) : Option Int:=((qcc k a_0.Truth k_1).bind fun v7=>(if (decide (v7<0))=true then (some (-1)) else
  ((qbs k a_0.Nodes v7).bind fun v11=>(if (decide (v11<0))=true then (some (-1)) else ((qay k a_0.Acked v11).bind fun v15=>(if (decide
  (v15<0))=true then (some (-1)) else (some v15)))))))

def qcr (a_0:List Int)(left_1:Int) : Option Int:=(if (decide ((l4 .i64 (left_1 - (f0 a_0:Int)))<0))=true then (some (-1)) else (some
  (l4 .i64 (left_1 - (f0 a_0:Int)))))

def qcp (a_0:View)(left_1:Int) : Option Int:=((qcr a_0.InStep left_1).bind fun v7=>(if (decide (v7<0))=true then (some (-1)) else (some v7)))

def qcj (a_0:List Row)(left_1:Int) : Option Int:=(if (decide ((l4 .i64 (left_1 - (f0 a_0:Int)))<0))=true then (some (-1)) else (some
  (l4 .i64 (left_1 - (f0 a_0:Int)))))

def qdz (a_0:Node)(left_1:Int) : Option Int:=((qcp a_0.View left_1).bind fun v7=>(if (decide (v7<0))=true then (some (-1)) else
  ((qcj a_0.Log v7).bind fun v11=>(if (decide (v11<0))=true then (some (-1)) else ((qcr a_0.Known v11).bind fun v15=>(if (decide (v15<0))=true then
  (some (-1)) else (some v15)))))))

def qbd (a_0:List Node)(s4:Int)(s5:Int) : Option (Oc (Int × Int) Int):=(if (decide (s5<(f0 a_0:Int)))=true then
  ((z7 a_0 s5).bind fun x28=>((qdz x28 s4).bind fun v31=>(if (decide (v31<0))=true then (some (.ret (-1))) else (some (.nxt (v31,
  (l4 .i64 (s5+1)))))))) else (some (.brk (s4,s5))))
def qhh (s41:Int)(s42:Int)  : Option Int:=(some s41)
def qcz (k:Nat)(a_0:List Node)(left_1:Int) : Option Int:=(if (decide ((l4 .i64 (left_1 - (f0 a_0:Int)))<0))=true then (some (-1)) else
  (jn (kw (fun s40=>qbd a_0 s40.1 s40.2) k ((l4 .i64 (left_1 - (f0 a_0:Int))),0)) (fun s49=>qhh s49.1 s49.2)))

def qbp (k:Nat)(a_0:Cluster)(left_1:Int) : Option Int:=((qcp a_0.Truth left_1).bind fun v7=>(if (decide (v7<0))=true then (some (-1)) else
  ((qcz k a_0.Nodes v7).bind fun v11=>(if (decide (v11<0))=true then (some (-1)) else ((qcj a_0.Acked v11).bind fun v15=>(if (decide
  (v15<0))=true then (some (-1)) else (some v15)))))))

def qbo (a_0:List Int)(s14:Int)(s15:List Int) : Option (Oc (Int × (List Int)) (List Int)):=(if (decide (s14<(f0 a_0:Int)))=true then
  ((z7 a_0 s14).bind fun x40=>((z7 s15 s14).bind fun x43=>(some (.nxt ((l4 .i64 (s14+1)),(a0u s15 s14.toNat x40)))))) else (some (.brk (s14,s15))))
def qh7 (s56:Int)(s57:List Int)  : Option (List Int):=(some s57)
def qcm (k:Nat)(a_0:List Int) : Option (List Int):=((mkN 8 (f0 a_0:Int) (0:Int)).bind fun l1=>(jn (kw
  (fun s55=>qbo a_0 s55.1 s55.2) k (0,l1)) (fun s66=>qh7 s66.1 s66.2)))

def qcq (k:Nat)(a_0:View) : Option View:=((qcm k a_0.InStep).bind fun v19=>(some (View.mk a_0.Epoch a_0.Leader v19)))

def qe1 (a_0:Row) : Row:=a_0

def qbr (a_0:List Row)(s14:Int)(s15:List Row) : Option (Oc (Int × (List Row)) (List Row)):=(if (decide (s14<(f0 a_0:Int)))=true then
  ((z7 a_0 s14).bind fun x40=>((z7 s15 s14).bind fun x43=>(some (.nxt ((l4 .i64 (s14+1)),
  (a0u s15 s14.toNat (qe1 x40))))))) else (some (.brk (s14,s15))))
def qig (s56:Int)(s57:List Row)  : Option (List Row):=(some s57)
def qch (k:Nat)(a_0:List Row) : Option (List Row):=((mkN 16 (f0 a_0:Int) (Row.mk (0:Int) (0:Int))).bind fun l1=>(jn (kw
  (fun s55=>qbr a_0 s55.1 s55.2) k (0,l1)) (fun s66=>qig s66.1 s66.2)))

def qdx (k:Nat)(a_0:Node) : Option Node:=((qcq k a_0.View).bind fun v15=>((qch k a_0.Log).bind fun v29 =>
  ((qcm k a_0.Known).bind fun v43=>(some (Node.mk v15 v29 v43 a_0.Told)))))

def qa9 (k:Nat)(a_0:List Node)(s14:Int)(s15:List Node) : Option (Oc (Int × (List Node)) (List Node)):=(if (decide (s14 <
  (f0 a_0:Int)))=true then ((z7 a_0 s14).bind fun x40=>((qdx k x40).bind fun v43=>((z7 s15 s14).bind fun x63=>(some (.nxt ((l4 .i64
  (s14+1)),(a0u s15 s14.toNat v43))))))) else (some (.brk (s14,s15))))
def qhi (s99:Int)(s100:List Node)  : Option (List Node):=(some s100)
def qc3 (k:Nat)(a_0:List Node) : Option (List Node):=((mkN 96 (f0 a_0:Int) (Node.mk (View.mk (0:Int) (0:Int) []) [] [] (0:Int))).bind fun l1 =>
  (jn (kw (fun s98=>qa9 k a_0 s98.1 s98.2) k (0,l1)) (fun s109=>qhi s109.1 s109.2)))

def w6 (k:Nat)(a_0:Cluster) : Option Cluster:=((qcq k a_0.Truth).bind fun v15=>((qc3 k a_0.Nodes).bind fun v29 =>
  ((qch k a_0.Acked).bind fun v43=>(some (Cluster.mk v15 v29 v43)))))

def ju (n_0:Int)(lo_1:Int)(hi_2:Int) : Bool:=((decide (lo_1≤n_0))&&(decide (n_0≤hi_2)))

def qcw (l_0:List Int)(many_1:Int)(i1:Nat)(x2:Int) : Option (Oc Unit Bool):=((if ((decide (x2<0))||(decide (many_1≤x2)))=true then
  (some true) else ((if (decide ((0:Int)<(i1:Int)))=true then ((z7 l_0 (l4 .i64 ((i1:Int) - 1))).bind fun x44=>(some (decide (x2≤x44)))) else
  (some false)).bind fun v44=>(some v44))).bind fun v41=>(if v41=true then (some (.ret false)) else (some (.nxt ()))))
def qg9  : Option Bool:=(some true)
def qc9 (l_0:List Int)(many_1:Int) : Option Bool:=(jn (k7 (fun i1 x2 _=>qcw l_0 many_1 i1 x2 ) l_0 ()) (fun _=>qg9 ))

def qd8 (n_1:Int)(i1:Nat)(x2:Int) : Option (Oc Unit Bool):=(if (decide (x2=n_1))=true then (some (.ret true)) else (some (.nxt ())))
def qjf  : Option Bool:=(some false)
def u5 (l_0:List Int)(n_1:Int) : Option Bool:=(jn (k7 (fun i1 x2 _=>qd8 n_1 i1 x2 ) l_0 ()) (fun _=>qjf ))

def qbq (v_0:View)(n_1:Int) : Option Bool:=((if (ju v_0.Epoch 0 100)=true then ((qc9 v_0.InStep n_1).bind fun v10=>(some v10)) else
  (some false)).bind fun v10=>((if v10=true then ((u5 v_0.InStep v_0.Leader).bind fun v26=>(some v26)) else (some false)).bind fun v26=>(some v26)))

def qdm (l_0:List Row)(epoch_1:Int)(i1:Nat)(x2:Row) : Option (Oc Unit Bool):=(if (!(ju x2.Epoch 0 epoch_1))=true then (some (.ret false)) else
  ((if (!(ju x2.Value 0 99))=true then (some true) else ((if (decide ((0:Int)<(i1:Int)))=true then ((z7 l_0 (l4 .i64
  ((i1:Int) - 1))).bind fun x42=>(some (decide (x2.Epoch<x42.Epoch)))) else (some false)).bind fun v42=>(some v42))).bind fun v39=>(if v39=true then (some
  (.ret false)) else (some (.nxt ())))))
def qie (l_0:List Row)  : Option Bool:=(some (decide ((f0 l_0:Int)≤30)))
def qcs (l_0:List Row)(epoch_1:Int) : Option Bool:=(jn (k7 (fun i1 x2 _=>qdm l_0 epoch_1 i1 x2 ) l_0 ()) (fun _=>qie l_0 ))

def w7 (c_0:Cluster)(k_1:Int) : Option Bool:=((z7 c_0.Nodes k_1).bind fun x7=>(some (decide (x7.View.Leader=k_1))))

def qa5 (a_0:List Row)(b_1:List Row)(s2:Int) : Option (Oc Int Int):=((if ((decide (s2<(f0 a_0:Int)))&&(decide (s2 <
  (f0 b_1:Int))))=true then ((z7 a_0 s2).bind fun x37=>((z7 b_1 s2).bind fun x40=>(some ((x37.Epoch == x40.Epoch) &&
  ((x37.Value == x40.Value)&&true))))) else (some false)).bind fun v37=>(if v37=true then (some (.nxt (l4 .i64 (s2+1)))) else (some (.brk s2))))
def qhk (s59:Int)  : Option Int:=(some s59)
def ua (k:Nat)(a_0:List Row)(b_1:List Row) : Option Int:=(jn (kw (fun s58=>qa5 a_0 b_1 s58) k 0) (fun s66=>qhk s66))

def qcv (v_0:Cluster)(v_1:Int)(x7:Node)(i101:Nat)(u7:Int) : Option (Oc Unit Bool):=((if ((decide (u7<0))||(decide
  ((f0 x7.Log:Int)<u7)))=true then (some true) else ((w7 v_0 v_1).bind fun v142=>(some ((!v142)&&(decide (u7≠0)))))).bind fun v142 =>
  (if v142=true then (some (.ret false)) else (some (.nxt ()))))
def qe0 (k:Nat)(v_0:Cluster)(v_1:Int)(x7:Node)  : Option Bool:=((u5 v_0.Truth.InStep v_1).bind fun v187=>(if (!v187)=true then
  (some true) else ((ua k v_0.Acked x7.Log).bind fun v191=>(some (decide (v191=(f0 v_0.Acked:Int)))))))
def qdh (k:Nat)(v_0:Cluster)(v_1:Int) : Option Bool:=((z7 v_0.Nodes v_1).bind fun x7=>((qbq x7.View (f0 v_0.Nodes:Int)).bind fun v18 =>
  ((if (((!v18)||(decide (v_0.Truth.Epoch<x7.View.Epoch)))||((decide (x7.View.Epoch=v_0.Truth.Epoch))&&(decide (x7.View.Leader≠v_0.Truth.Leader))))=true then
  (some true) else ((qcs x7.Log x7.View.Epoch).bind fun v55=>(some (!v55)))).bind fun v55=>(if (((v55||(decide ((f0 x7.Known:Int) ≠
  (f0 v_0.Nodes:Int))))||(decide (x7.Told<0)))||(decide ((f0 x7.Log:Int)<x7.Told)))=true then (some false) else (jn (k7
  (fun i101 u7 _=>qcv v_0 v_1 x7 i101 u7 ) x7.Known ()) (fun _=>qe0 k v_0 v_1 x7 ))))))

def qas (k:Nat)(c_0:Cluster)(i40:Nat) : Option (Oc Unit Bool):=((qdh k c_0 (i40:Int)).bind fun v61=>(if (!v61)=true then (some
  (.ret false)) else (some (.nxt ()))))
def qe4  : Option Bool:=(some true)
def xz (k:Nat)(c_0:Cluster) : Option Bool:=((if (!(ju (f0 c_0.Nodes:Int) 2 4))=true then (some true) else ((qbq c_0.Truth
  (f0 c_0.Nodes:Int)).bind fun v10=>(some (!v10)))).bind fun v10=>((if v10=true then (some true) else ((qcs c_0.Acked 100).bind fun v26=>(some
  (!v26)))).bind fun v26=>(if v26=true then (some false) else (jn (xk (fun i40 _=>qas k c_0 i40 ) (f0 c_0.Nodes:Int) ())
  (fun _=>qe4 )))))

def qd6 (a_0:List Int)(i1:Nat)(x2:Int) : Option (Oc Unit Bool):=((u5 a_0 x2).bind fun v23=>(if (!v23)=true then (some (.ret false)) else (some
  (.nxt ()))))
def qjc  : Option Bool:=(some true)
def qgb (a_0:List Int)(b_1:List Int) : Option Bool:=(jn (k7 (fun i1 x2 _=>qd6 a_0 i1 x2 ) b_1 ()) (fun _=>qjc ))

def qc5 (a_0:List Int)(b_1:List Int) : Option Bool:=((qgb a_0 b_1).bind fun v1=>(some (v1&&(decide ((f0 a_0:Int) =
  (f0 b_1:Int))))))

def qc1 (a_0:View)(b_1:View) : Option Bool:=((if ((decide (a_0.Epoch=b_1.Epoch))&&(decide (a_0.Leader=b_1.Leader)))=true then
  ((qc5 a_0.InStep b_1.InStep).bind fun v25=>(some v25)) else (some false)).bind fun v25=>(some v25))

def w8 (v_0:View) : Option View:=((yc 8 ([] : List Int) v_0.InStep).bind fun l15=>(some (View.mk v_0.Epoch v_0.Leader l15)))

def qan (c_0:Cluster)(k_1:Int)(x11:Node)(s41:Node)  : Option Cluster:=((w8 c_0.Truth).bind fun v88=>(some (Cluster.mk c_0.Truth
  (a0u c_0.Nodes k_1.toNat (Node.mk v88 x11.Log s41.Known s41.Told)) c_0.Acked)))
def qce (c_0:Cluster)(k_1:Int) : Option Cluster:=((z7 c_0.Nodes k_1).bind fun x11=>((if (decide (x11.View.Epoch≠c_0.Truth.Epoch))=true then ((mkN 8
  (f0 c_0.Nodes:Int) (0:Int)).bind fun l54=>(if (decide (c_0.Truth.Leader=k_1))=true then ((z7 l54 k_1).bind fun x68=>(some (Node.mk x11.View x11.Log
  (a0u l54 k_1.toNat (f0 x11.Log:Int)) 0))) else (some (Node.mk x11.View x11.Log l54 0)))) else (some x11)).bind (fun s113=>qan c_0 k_1 x11 s113)))

def qb4 (v_0:Cluster)(v_1:Int)(v_2:Int)(x11:Node)(x41:Node)(v74:Int)(s77:Int)  : Option Cluster:=((sl x41.Log 0 (l4 .i64
  (v74+s77))).bind fun l105=>((yc 16 ([] : List Row) l105).bind fun l112=>((z7 x41.Known v_1).bind fun x125=>(some (Cluster.mk v_0.Truth (a0u
  (a0u v_0.Nodes v_2.toNat (Node.mk x41.View x41.Log (a0u x41.Known v_1.toNat (f0 l112:Int)) x41.Told)) v_1.toNat
  (Node.mk x11.View l112 x11.Known 0)) v_0.Acked)))))
def qca (k:Nat)(v_0:Cluster)(v_1:Int)(v_2:Int)(v_3:Int) : Option Cluster:=((z7 v_0.Nodes v_1).bind fun x11=>((z7 v_0.Nodes v_2).bind fun x41 =>
  (ck (v_1≠v_2) ((ua k x11.Log x41.Log).bind fun v74=>((if (decide ((l4 .i64 ((f0 x41.Log:Int) - v74))<v_3))=true then (some
  (l4 .i64 ((f0 x41.Log:Int) - v74))) else (some v_3)).bind (fun s157=>qb4 v_0 v_1 v_2 x11 x41 v74 s157))))))

def qd3 (l_0:List Int)(n_1:Int)(s2:Int) : Option (Oc Int (List Int)):=((if (decide (s2<(f0 l_0:Int)))=true then ((z7 l_0 s2).bind fun x27 =>
  (some (decide (x27<n_1)))) else (some false)).bind fun v27=>(if v27=true then (some (.nxt (l4 .i64 (s2+1)))) else (some (.brk s2))))
def qf2 (l_0:List Int)(n_1:Int)(s48:Int)  : Option (List Int):=((if (decide (s48<(f0 l_0:Int)))=true then ((z7 l_0 s48).bind fun x58=>(some
  (decide (x58=n_1)))) else (some false)).bind fun v58=>(if v58=true then (some l_0) else ((sl l_0 0 s48).bind fun l76=>((yc 8 ([] : List Int) l76).bind fun l83 =>
  ((yc 8 l83 [n_1]).bind fun l98=>((sl l_0 s48 (f0 l_0)).bind fun l107=>((yc 8 l98 l107).bind fun l114=>(some l114))))))))
def qew (k:Nat)(l_0:List Int)(n_1:Int) : Option (List Int):=(jn (kw (fun s47=>qd3 l_0 n_1 s47) k 0) (fun s123=>qf2 l_0 n_1 s123))

def xd (c_0:Cluster)(to_2:Int)(i19:Nat)(s14:List Int) : Option (Oc (List Int) Cluster):=((z7 c_0.Truth.InStep (i19:Int)).bind fun x46=>(if
  (decide (x46≠to_2))=true then ((yc 8 s14 [x46]).bind fun l58=>(some (.nxt l58))) else (some (.nxt s14))))
def qbk (c_0:Cluster)(k_1:Int)(s85:List Int)  : Option Cluster:=((yc 8 ([] : List Int) s85).bind fun l125=>((z7 c_0.Nodes k_1).bind fun x136 =>
  (some (Cluster.mk (View.mk c_0.Truth.Epoch c_0.Truth.Leader s85) (a0u c_0.Nodes k_1.toNat (Node.mk
  (View.mk x136.View.Epoch x136.View.Leader l125) x136.Log x136.Known x136.Told)) c_0.Acked))))
def qdu (k:Nat)(c_0:Cluster)(k_1:Int)(to_2:Int)(in_3:Bool)(s70:List Int)  : Option Cluster:=((if in_3=true then
  ((qew k s70 to_2).bind fun v98=>(some v98)) else (some s70)).bind (fun s171=>qbk c_0 k_1 s171))
def yw (k:Nat)(c_0:Cluster)(k_1:Int)(to_2:Int)(in_3:Bool) : Option Cluster:=(jn (xk (fun i19 s69=>xd c_0 to_2 i19 s69)
  (f0 c_0.Truth.InStep:Int) ([] : (List Int))) (fun s172=>qdu k c_0 k_1 to_2 in_3 s172))

def qag (x_0:Node)(i9:Nat)(x10:Row)(s8:Int) : Option (Oc Int Int):=(if (decide (x10.Epoch<x_0.View.Epoch))=true then (some (.nxt (l4 .i64
  (s8+1)))) else (some (.nxt s8)))
def qg6 (s44:Int)  : Option Int:=(some s44)
def ut (x_0:Node) : Option Int:=(jn (k7 (fun i9 x10 s43=>qag x_0 i9 x10 s43) x_0.Log 0) (fun s51=>qg6 s51))

def qa2 (x9:Node)(i41:Nat)(s40:Int) : Option (Oc Int (Cluster × Bool)):=((z7 x9.View.InStep (i41:Int)).bind fun x67 =>
  ((z7 x9.Known x67).bind fun x72=>(if (decide (x72<s40))=true then (some (.nxt x72)) else (some (.nxt s40)))))
def qev (c_0:Cluster)(k_1:Int)(x9:Node)(s81:Int)  : Option (Cluster × Bool):=(if (decide (s81≤x9.Told))=true then (some (c_0,
  false)) else (if (decide ((f0 c_0.Acked:Int)<s81))=true then ((sl x9.Log 0 s81).bind fun l111=>((yc 16 ([] : List Row) l111).bind fun l118=>(some
  ((Cluster.mk c_0.Truth (a0u c_0.Nodes k_1.toNat (Node.mk x9.View x9.Log x9.Known s81)) l118),
  true)))) else (some ((Cluster.mk c_0.Truth (a0u c_0.Nodes k_1.toNat (Node.mk x9.View x9.Log x9.Known s81)) c_0.Acked),true))))
def wq (c_0:Cluster)(k_1:Int) : Option (Cluster × Bool):=((z7 c_0.Nodes k_1).bind fun x9=>(jn (xk (fun i41 s80=>qa2 x9 i41 s80)
  (f0 x9.View.InStep:Int) 30) (fun s143=>qev c_0 k_1 x9 s143)))

def qaj (k:Nat)(v_0:Cluster)(v_1:ClusterStep) : Option (Cluster × Bool):=(if ((((((decide (v_1.K<0))||(decide ((f0 v_0.Nodes:Int)≤v_1.K))) ||
  (decide (v_1.To<0)))||(decide ((f0 v_0.Nodes:Int)≤v_1.To)))||(((decide (v_1.Kind≠3))&&(decide (v_1.Kind≠4)))&&(decide (v_1.N≠0)))) ||
  ((!(ju v_1.Kind 4 6))&&(decide (v_1.To≠0))))=true then (some (v_0,
  false)) else ((z7 v_0.Nodes v_1.K).bind fun zj=>((w7 v_0 v_1.K).bind fun v137=>((u5 v_0.Truth.InStep v_1.To).bind fun v164=>((if (decide
  (v_1.Kind=1))=true then ((u5 v_0.Truth.InStep v_1.K).bind fun v170=>(some v170)) else (some false)).bind fun v170=>(if (v170&&(decide
  (v_0.Truth.Epoch<100)))=true then (some ((Cluster.mk (View.mk (l4 .i64 (v_0.Truth.Epoch+1)) v_1.K v_0.Truth.InStep) v_0.Nodes v_0.Acked),
  true)) else ((if (decide (v_1.Kind=2))=true then ((qc1 zj.View v_0.Truth).bind fun v217=>(some (!v217))) else (some false)).bind fun v217 =>
  (if v217=true then ((qce v_0 v_1.K).bind fun v241=>(some (v241,
  true))) else (if ((((decide (v_1.Kind=3))&&v137)&&(ju v_1.N 0 99))&&(decide ((f0 zj.Log:Int)<30)))=true then
  ((yc 16 zj.Log [(Row.mk zj.View.Epoch v_1.N)]).bind fun l303=>((z7 zj.Known v_1.K).bind fun x314=>(some ((Cluster.mk v_0.Truth (a0u v_0.Nodes v_1.K.toNat
  (Node.mk zj.View l303 (a0u zj.Known v_1.K.toNat (f0 l303:Int)) zj.Told)) v_0.Acked),
  true)))) else (if (((decide (v_1.Kind=4))&&(!v137))&&(decide (v_1.To≠v_1.K)))=true then ((w7 v_0 v_1.To).bind fun v368=>((if v368=true then
  ((z7 v_0.Nodes v_1.To).bind fun x374=>(ck (v_1.K≠v_1.To) (some (decide (x374.View.Epoch=zj.View.Epoch))))) else (some false)).bind fun v374=>(if v374=true then
  (if (ju v_1.N 0 30)=true then ((qca k v_0 v_1.K v_1.To v_1.N).bind fun v421=>(some (v421,
  true))) else (if (((decide (v_1.Kind=5))&&((v137&&(decide (zj.View.Epoch=v_0.Truth.Epoch)))&&(decide (v_1.To≠v_1.K))))&&v164)=true then
  ((yw k v_0 v_1.K v_1.To false).bind fun v467=>(some (v467,
  true))) else ((if (((decide (v_1.Kind=6))&&((v137&&(decide (zj.View.Epoch=v_0.Truth.Epoch)))&&(decide (v_1.To≠v_1.K))))&&(!v164))=true then
  ((z7 zj.Known v_1.To).bind fun x510=>(some (decide (zj.Told≤x510)))) else (some false)).bind fun v510=>(if v510=true then
  ((z7 zj.Known v_1.To).bind fun x530=>((ut zj).bind fun v535=>(if (decide (v535≤x530))=true then
  ((yw k v_0 v_1.K v_1.To true).bind fun v543=>(some (v543,
  true))) else (if ((decide (v_1.Kind=7))&&v137)=true then ((wq v_0 v_1.K).bind fun v573=>(some (v573.1,v573.2))) else (some (v_0,
  false)))))) else (if ((decide (v_1.Kind=7))&&v137)=true then ((wq v_0 v_1.K).bind fun v609=>(some (v609.1,v609.2))) else (some (v_0,
  false))))))) else (if (((decide (v_1.Kind=5))&&((v137&&(decide (zj.View.Epoch=v_0.Truth.Epoch)))&&(decide (v_1.To≠v_1.K))))&&v164)=true then
  ((yw k v_0 v_1.K v_1.To false).bind fun v663=>(some (v663,
  true))) else ((if (((decide (v_1.Kind=6))&&((v137&&(decide (zj.View.Epoch=v_0.Truth.Epoch)))&&(decide (v_1.To≠v_1.K))))&&(!v164))=true then
  ((z7 zj.Known v_1.To).bind fun x706=>(some (decide (zj.Told≤x706)))) else (some false)).bind fun v706=>(if v706=true then
  ((z7 zj.Known v_1.To).bind fun x726=>((ut zj).bind fun v731=>(if (decide (v731≤x726))=true then
  ((yw k v_0 v_1.K v_1.To true).bind fun v739=>(some (v739,
  true))) else (if ((decide (v_1.Kind=7))&&v137)=true then ((wq v_0 v_1.K).bind fun v769=>(some (v769.1,v769.2))) else (some (v_0,
  false)))))) else (if ((decide (v_1.Kind=7))&&v137)=true then ((wq v_0 v_1.K).bind fun v805=>(some (v805.1,v805.2))) else (some (v_0,
  false))))))))) else (if (((decide (v_1.Kind=5))&&((v137&&(decide (zj.View.Epoch=v_0.Truth.Epoch)))&&(decide (v_1.To≠v_1.K))))&&v164)=true then
  ((yw k v_0 v_1.K v_1.To false).bind fun v859=>(some (v859,
  true))) else ((if (((decide (v_1.Kind=6))&&((v137&&(decide (zj.View.Epoch=v_0.Truth.Epoch)))&&(decide (v_1.To≠v_1.K))))&&(!v164))=true then
  ((z7 zj.Known v_1.To).bind fun x902=>(some (decide (zj.Told≤x902)))) else (some false)).bind fun v902=>(if v902=true then
  ((z7 zj.Known v_1.To).bind fun x922=>((ut zj).bind fun v927=>(if (decide (v927≤x922))=true then
  ((yw k v_0 v_1.K v_1.To true).bind fun v935=>(some (v935,
  true))) else (if ((decide (v_1.Kind=7))&&v137)=true then ((wq v_0 v_1.K).bind fun v965=>(some (v965.1,v965.2))) else (some (v_0,
  false)))))) else (if ((decide (v_1.Kind=7))&&v137)=true then ((wq v_0 v_1.K).bind fun v1001=>(some (v1001.1,v1001.2))) else (some (v_0,false))))))))))))))))

def qdp (v21:View)(l33:List Row)(i54:Nat)(x55:Node)(s49:Cluster) : Option (Oc Cluster Cluster):=((w8 x55.View).bind fun v83=>((yc 16
  ([] : List Row) x55.Log).bind fun l103=>((yc 8 ([] : List Int) x55.Known).bind fun l120=>((yc 96 s49.Nodes [(Node.mk v83 l103 l120 x55.Told)]).bind fun l137=>(some
  (.nxt (Cluster.mk (View.mk s49.Truth.Epoch s49.Truth.Leader v21.InStep) l137 l33)))))))
def qh2 (v21:View)(l33:List Row)(s150:Cluster)  : Option Cluster:=(some (Cluster.mk (View.mk s150.Truth.Epoch s150.Truth.Leader v21.InStep) s150.Nodes l33))
def qcg (c_0:Cluster) : Option Cluster:=((w8 c_0.Truth).bind fun v21=>((yc 16 ([] : List Row) c_0.Acked).bind fun l33=>(jn (k7
  (fun i54 x55 s149=>qdp v21 l33 i54 x55 s149) c_0.Nodes (Cluster.mk v21 [] l33)) (fun s163=>qh2 v21 l33 s163))))

def qao (k:Nat)(c_0:Cluster)(x_1:ClusterStep) : Option (Cluster × Bool):=((xz k c_0).bind fun v17=>(if (!v17)=true then (some
  ((Cluster.mk (View.mk 0 0 []) [] []),
  false)) else ((qcg c_0).bind fun v27=>((qaj k v27 x_1).bind fun v47=>((if (!v47.2)=true then (some true) else
  ((xz k v47.1).bind fun v69=>(some (!v69)))).bind fun v69=>(if v69=true then (some ((Cluster.mk (View.mk 0 0 []) [] []),
  false)) else ((qcg v47.1).bind fun v86=>(some (v86,true)))))))))

def yk (a_0:ClusterStep) : ClusterStep:=a_0

def jc (n_0:Int)(low_1:Int)(high_2:Int) : Bool:=((decide (low_1≤n_0))&&(decide (n_0≤high_2)))

def xm (v_1:Int)(i1:Nat)(x2:Int) : Option (Oc Unit Int):=(if (decide (v_1=x2))=true then (some (.ret (i1:Int))) else (some (.nxt ())))
def qe5  : Option Int:=(some (-1))
def qb3 (s_0:List Int)(v_1:Int) : Option Int:=(jn (k7 (fun i1 x2 _=>xm v_1 i1 x2 ) s_0 ()) (fun _=>qe5 ))

def yx (s_0:List Int)(v_1:Int) : Option Bool:=((qb3 s_0 v_1).bind fun v1=>(some (decide ((0:Int)≤v1))))

def qa7 (list_0:List Int)(many_1:Int)(i1:Nat)(x2:Int) : Option (Oc Unit Bool):=((if (!(jc x2 0 (l4 .i64 (many_1 - 1))))=true then
  (some true) else ((if (decide ((0:Int)<(i1:Int)))=true then ((z7 list_0 (l4 .i64 ((i1:Int) - 1))).bind fun x30=>(some (decide (x2≤x30)))) else
  (some false)).bind fun v30=>(some v30))).bind fun v27=>(if v27=true then (some (.ret false)) else (some (.nxt ()))))
def qfu  : Option Bool:=(some true)
def qa8 (list_0:List Int)(many_1:Int) : Option Bool:=(jn (k7 (fun i1 x2 _=>qa7 list_0 many_1 i1 x2 ) list_0 ())
  (fun _=>qfu ))

def qcf (v_0:View)(nodes_1:Int) : Option Bool:=((if (jc v_0.Epoch 0 100)=true then ((qa8 v_0.InStep nodes_1).bind fun v10=>(some v10)) else
  (some false)).bind fun v10=>((if v10=true then ((yx v_0.InStep v_0.Leader).bind fun v26=>(some v26)) else (some false)).bind fun v26=>(some v26)))

def qac (most_1:Int)(i3:Nat)(x4:Row)(s2:Int) : Option (Oc Int Bool):=(if ((!(jc x4.Epoch s2 most_1))||(!(jc x4.Value 0 99)))=true then (some
  (.ret false)) else (some (.nxt x4.Epoch)))
def qh8 (l_0:List Row)(s54:Int)  : Option Bool:=(some (decide ((f0 l_0:Int)≤30)))
def qd0 (l_0:List Row)(most_1:Int) : Option Bool:=(jn (k7 (fun i3 x4 s53=>qac most_1 i3 x4 s53) l_0 0) (fun s62=>qh8 l_0 s62))

def wk (f_1:Int→Option Bool)(i1:Nat)(x2:Int) : Option (Oc Unit Int):=((f_1 x2).bind fun v23=>(if v23=true then (some (.ret (i1:Int))) else
  (some (.nxt ()))))
def qdr  : Option Int:=(some (-1))
def u6 (s_0:List Int)(f_1:Int→Option Bool) : Option Int:=(jn (k7 (fun i1 x2 _=>wk f_1 i1 x2 ) s_0 ())
  (fun _=>qdr ))

def xj (s_0:List Int)(f_1:Int→Option Bool) : Option Bool:=((u6 s_0 f_1).bind fun v1=>(some (decide ((0:Int)≤v1))))

def wi (k_0:Int)(cap_0:Node)(cap_1:Int) : Bool:=((!(jc k_0 0 (f0 cap_0.Log:Int)))||((decide (cap_0.View.Leader≠cap_1))&&(decide
  (k_0≠0))))

def ud (n_0:Node)(own_1:Int)(nodes_2:Int) : Option Bool:=((qcf n_0.View nodes_2).bind fun v13=>((if (!v13)=true then (some true) else
  ((qd0 n_0.Log n_0.View.Epoch).bind fun v19=>(some (!v19)))).bind fun v19=>(if ((v19||(decide ((f0 n_0.Known:Int)≠nodes_2))) ||
  (!(jc n_0.Told 0 (f0 n_0.Log:Int))))=true then (some false) else ((xj n_0.Known (fun a0=>some
  (wi a0 n_0 own_1))).bind fun v53=>(some (!v53))))))

def qau (s2_1:List Row)(i2:Nat)(x3:Row) : Option (Oc Unit Bool):=((z7 s2_1 (i2:Int)).bind fun x24=>(if (!((x3.Epoch == x24.Epoch) &&
  ((x3.Value == x24.Value)&&true)))=true then (some (.ret false)) else (some (.nxt ()))))
def qe3  : Option Bool:=(some true)
def qak (s1_0:List Row)(s2_1:List Row) : Option Bool:=(if (decide ((f0 s1_0:Int)≠(f0 s2_1:Int)))=true then (some false) else (jn
  (k7 (fun i2 x3 _=>qau s2_1 i2 x3 ) s1_0 ()) (fun _=>qe3 )))

def qbj (v_0:Cluster)(i32:Nat)(x33:Node) : Option (Oc Unit Bool):=((ud x33 (i32:Int) (f0 v_0.Nodes:Int)).bind fun v62=>(if
  (((!v62)||(decide (v_0.Truth.Epoch<x33.View.Epoch)))||((decide (x33.View.Epoch=v_0.Truth.Epoch))&&(decide (x33.View.Leader≠v_0.Truth.Leader))))=true then (some
  (.ret false)) else ((yx v_0.Truth.InStep (i32:Int)).bind fun v109=>(if v109=true then (if (decide ((f0 x33.Log:Int) <
  (f0 v_0.Acked:Int)))=true then (some (.ret false)) else ((sl x33.Log 0 (f0 v_0.Acked:Int)).bind fun l117 =>
  ((qak l117 v_0.Acked).bind fun v120=>(if (!v120)=true then (some (.ret false)) else (some (.nxt ())))))) else (some (.nxt ()))))))
def qf7  : Option Bool:=(some true)
def qad (v_0:Cluster) : Option Bool:=((if (!(jc (f0 v_0.Nodes:Int) 2 4))=true then (some true) else ((qcf v_0.Truth
  (f0 v_0.Nodes:Int)).bind fun v10=>(some (!v10)))).bind fun v10=>(if (v10||(decide ((30:Int)<(f0 v_0.Acked:Int))))=true then
  (some false) else (jn (k7 (fun i32 x33 _=>qbj v_0 i32 x33 ) v_0.Nodes ()) (fun _=>qf7 ))))

def uw (v_0:View) : Option View:=((yc 8 ([] : List Int) v_0.InStep).bind fun l15=>(some (View.mk v_0.Epoch v_0.Leader l15)))

def qat (v21:View)(l33:List Row)(i54:Nat)(x55:Node)(s49:Cluster) : Option (Oc Cluster Cluster):=((uw x55.View).bind fun v97 =>
  ((yc 16 ([] : List Row) x55.Log).bind fun l109=>((yc 8 ([] : List Int) x55.Known).bind fun l120 =>
  ((yc 96 s49.Nodes [(Node.mk v97 l109 l120 x55.Told)]).bind fun l137=>(some (.nxt (Cluster.mk (View.mk s49.Truth.Epoch s49.Truth.Leader v21.InStep) l137 l33)))))))
def qe7 (v21:View)(l33:List Row)(s150:Cluster)  : Option Cluster:=(some (Cluster.mk
  (View.mk s150.Truth.Epoch s150.Truth.Leader v21.InStep) s150.Nodes l33))
def qai (c_0:Cluster) : Option Cluster:=((uw c_0.Truth).bind fun v21=>((yc 16 ([] : List Row) c_0.Acked).bind fun l33=>(jn (k7
  (fun i54 x55 s149=>qat v21 l33 i54 x55 s149) c_0.Nodes (Cluster.mk v21 [] l33)) (fun s163=>qe7 v21 l33 s163))))

def qav (s2_1:List Int)(i2:Nat)(x3:Int) : Option (Oc Unit Bool):=((z7 s2_1 (i2:Int)).bind fun x24=>(if (decide (x3≠x24))=true then (some
  (.ret false)) else (some (.nxt ()))))
def qe6  : Option Bool:=(some true)
def qae (s1_0:List Int)(s2_1:List Int) : Option Bool:=(if (decide ((f0 s1_0:Int)≠(f0 s2_1:Int)))=true then (some false) else (jn
  (k7 (fun i2 x3 _=>qav s2_1 i2 x3 ) s1_0 ()) (fun _=>qe6 )))

def qb9 (a_0:View)(b_1:View) : Option Bool:=((if ((decide (a_0.Epoch=b_1.Epoch))&&(decide (a_0.Leader=b_1.Leader)))=true then
  ((qae a_0.InStep b_1.InStep).bind fun v25=>(some v25)) else (some false)).bind fun v25=>(some v25))

def y7 (v_1:ClusterStep)(s131:Int)(s132:List Node) : Option (Oc (Int × (List Node)) (Bool × Cluster)):=((z7 s132 v_1.K).bind fun x157 =>
  ((z7 s132 v_1.To).bind fun x183=>((if (decide (s131<(mnI (f0 x157.Log:Int) (f0 x183.Log:Int))))=true then ((z7 x157.Log s131).bind fun x231 =>
  ((z7 x183.Log s131).bind fun x259=>(some ((x231.Epoch == x259.Epoch)&&((x231.Value == x259.Value)&&true))))) else (some false)).bind fun v208=>(if v208=true then
  (some (.nxt ((l4 .i64 (s131+1)),s132))) else (some (.brk (s131,s132)))))))
def qbn (v_0:Cluster)(v_1:ClusterStep)(s289:Int)(s290:List Node)  : Option (Bool × Cluster):=((z7 s290 v_1.To).bind fun x300 =>
  ((sl x300.Log s289 (f0 x300.Log)).bind fun l322=>((z7 s290 v_1.K).bind fun x336=>(ck (v_1.To≠v_1.K) ((sl x336.Log 0 s289).bind fun l361=>((yc 16
  ([] : List Row) l361).bind fun l368=>((sl l322 0 (mnI v_1.N (f0 l322:Int))).bind fun l378=>((yc 16 l368 l378).bind fun l385 =>
  ((z7 x300.Known v_1.K).bind fun x404=>(some (true,
  (Cluster.mk v_0.Truth (a0u (a0u s290 v_1.K.toNat (Node.mk x336.View l385 x336.Known 0)) v_1.To.toNat (Node.mk x300.View x300.Log (a0u x300.Known v_1.K.toNat
  (f0 l385:Int)) x300.Told)) v_0.Acked))))))))))))
def uj (k:Nat)(v_0:Cluster)(v_1:ClusterStep) : Option (Bool × Cluster):=((z7 v_0.Nodes v_1.K).bind fun x7=>((z7 v_0.Nodes v_1.To).bind fun x12 =>
  (if ((((decide (v_1.K=v_1.To))||(decide (x12.View.Leader≠v_1.To)))||(decide (x7.View.Leader=v_1.K)))||(decide (x7.View.Epoch≠x12.View.Epoch)))=true then (some
  (false,v_0)) else (if (!(jc v_1.N 0 30))=true then (some (false,v_0)) else (jn (kw (fun s288=>y7 v_1 s288.1 s288.2) k (0,
  v_0.Nodes)) (fun s424=>qbn v_0 v_1 s424.1 s424.2))))))

def yh (x_0:Int) : Bool:=(decide (x_0≠x_0))

def qbu (x_0:Int)(y_1:Int) : Bool:=(((yh x_0)&&(!(yh y_1)))||(decide (x_0<y_1)))

def wc (x_0:Int) : Bool:=(decide (x_0≠x_0))

def yq (x_0:List Int)(target_1:Int)(s3:Int)(s4:Int) : Option (Oc (Int × Int) (Int × Bool)):=(if (decide (s3<s4))=true then ((z7 x_0
  (l4 .i64 (qlk .u64 (l4 .u64 (l4 .i64 (s3+s4))) 1))).bind fun x29=>(if (qbu x29 target_1)=true then (some (.nxt
  ((l4 .i64 ((l4 .i64 (qlk .u64 (l4 .u64 (l4 .i64 (s3+s4))) 1))+1)),s4))) else (some (.nxt (s3,
  (l4 .i64 (qlk .u64 (l4 .u64 (l4 .i64 (s3+s4))) 1))))))) else (some (.brk (s3,s4))))
def uv (x_0:List Int)(target_1:Int)(s37:Int)(s38:Int)  : Option (Int × Bool):=((if (decide (s37<(f0 x_0:Int)))=true then
  ((z7 x_0 s37).bind fun x50=>((if (decide (x50=target_1))=true then (some true) else ((z7 x_0 s37).bind fun x56=>(some ((wc x56) &&
  (wc target_1))))).bind fun v56=>(some v56))) else (some false)).bind fun v50=>(some (s37,v50)))
def wl (k:Nat)(x_0:List Int)(target_1:Int) : Option (Int × Bool):=(jn (kw (fun s36=>yq x_0 target_1 s36.1 s36.2) k (0,
  (f0 x_0:Int))) (fun s90=>uv x_0 target_1 s90.1 s90.2))

def qbl (s_0:List Int)(i_1:Int)(j_2:Int) : Option (List Int):=qng s_0 i_1 j_2

def y8 (x7:Node)(i76:Nat)(s75:Int) : Option (Oc Int (Oc (Cluster × (List Node)) (Bool × Cluster))):=((z7 x7.Log (i76:Int)).bind fun zj=>(if
  (decide (zj.Epoch<x7.View.Epoch))=true then (some (.nxt (l4 .i64 (s75+1)))) else (some (.nxt s75))))
def uk (v_0:Cluster)(v_1:ClusterStep)(x7:Node)(v12:Int × Bool)(s120:Int)  : Option (Oc (Cluster × (List Node)) (Bool × Cluster)) :=
  ((if v12.2=true then (some true) else ((z7 x7.Known v_1.To).bind fun x134=>(some (decide (x134<x7.Told))))).bind fun v134=>((if v134=true then (some true) else
  ((z7 x7.Known v_1.To).bind fun x156=>(some (decide (x156<s120))))).bind fun v156=>(if v156=true then (some (.ret (false,
  v_0))) else ((qds v_0.Truth.InStep v12.1 [v_1.To]).bind fun v187=>(some (.nxt ((Cluster.mk
  (View.mk v_0.Truth.Epoch v_0.Truth.Leader v187.1) v_0.Nodes v_0.Acked),v_0.Nodes)))))))
def uo (v_0:Cluster)(v_1:ClusterStep)(s15:Cluster)(s20:List Node)  : Option (Bool × Cluster):=((yc 8
  ([] : List Int) s15.Truth.InStep).bind fun l217=>((z7 s20 v_1.K).bind fun x228=>(some (true,
  (Cluster.mk s15.Truth (a0u s20 v_1.K.toNat (Node.mk (View.mk x228.View.Epoch x228.View.Leader l217) x228.Log x228.Known x228.Told)) v_0.Acked)))))
def ug (k:Nat)(v_0:Cluster)(v_1:ClusterStep) : Option (Bool × Cluster):=((z7 v_0.Nodes v_1.K).bind fun x7 =>
  ((wl k v_0.Truth.InStep v_1.To).bind fun v12=>(jn (if (decide (v_1.Kind=5))=true then (if ((!v12.2)||(decide (v_1.To=v_1.K)))=true then (some
  (.ret (false,v_0))) else ((qbl v_0.Truth.InStep v12.1 (l4 .i64 (v12.1+1))).bind fun v43=>(some (.nxt ((Cluster.mk
  (View.mk v_0.Truth.Epoch v_0.Truth.Leader v43) v_0.Nodes v_0.Acked),
  v_0.Nodes))))) else (jn (xk (fun i76 s119=>y8 x7 i76 s119) (f0 x7.Log:Int) 0) (fun s205=>uk v_0 v_1 x7 v12 s205)))
  (fun s257=>uo v_0 v_1 s257.1 s257.2))))

def ub (v_0:Cluster)(v_1:ClusterStep)(s61:List Node)  : Option (Bool × Cluster):=((uw v_0.Truth).bind fun v137 =>
  ((z7 s61 v_1.K).bind fun x151=>(some (true,(Cluster.mk v_0.Truth (a0u s61 v_1.K.toNat (Node.mk v137 x151.Log x151.Known x151.Told)) v_0.Acked)))))
def ue (x7:Node)(i346:Nat)(s345:Int) : Option (Oc Int (Bool × Cluster)):=((z7 x7.View.InStep (i346:Int)).bind fun x370 =>
  ((z7 x7.Known x370).bind fun x375=>(some (.nxt (mnI s345 x375)))))
def qdd (v_0:Cluster)(v_1:ClusterStep)(x7:Node)(s382:Int)  : Option (Bool × Cluster):=(if (decide (s382≤x7.Told))=true then (some (false,
  v_0)) else (if (decide ((f0 v_0.Acked:Int)<s382))=true then ((sl x7.Log 0 s382).bind fun l406=>((yc 16 ([] : List Row) l406).bind fun l413=>(some (true,
  (Cluster.mk v_0.Truth (a0u v_0.Nodes v_1.K.toNat (Node.mk x7.View x7.Log x7.Known s382)) l413))))) else (some (true,
  (Cluster.mk v_0.Truth (a0u v_0.Nodes v_1.K.toNat (Node.mk x7.View x7.Log x7.Known s382)) v_0.Acked)))))
def qa4 (k:Nat)(v_0:Cluster)(v_1:ClusterStep)(x7:Node)(s260:Bool)  : Option (Bool × Cluster):=(if s260=true then (if ((!(decide
  (x7.View.Leader=v_1.K)))||(decide (x7.View.Epoch≠v_0.Truth.Epoch)))=true then (some (false,v_0)) else ((ug k v_0 v_1).bind fun v310=>(some (v310.1,
  v310.2)))) else (if (decide (v_1.Kind=7))=true then (if (!(decide (x7.View.Leader=v_1.K)))=true then (some (false,
  v_0)) else (jn (xk (fun i346 s381=>ue x7 i346 s381) (f0 x7.View.InStep:Int) 30) (fun s434=>qdd v_0 v_1 x7 s434))) else (some
  (false,v_0))))
def qba (k:Nat)(v_0:Cluster)(v_1:ClusterStep) : Option (Bool × Cluster):=((z7 v_0.Nodes v_1.K).bind fun x7=>(if (decide (v_1.Kind=1))=true then
  ((yx v_0.Truth.InStep v_1.K).bind fun v32=>(if (!v32)=true then (some (false,v_0)) else (some (true,
  (Cluster.mk (View.mk (l4 .i64 (v_0.Truth.Epoch+1)) v_1.K v_0.Truth.InStep) v_0.Nodes v_0.Acked))))) else (if (decide (v_1.Kind=2))=true then
  ((qb9 x7.View v_0.Truth).bind fun v49=>(if v49=true then (some (false,
  v_0)) else ((if (decide (x7.View.Epoch≠v_0.Truth.Epoch))=true then ((mkN 8 (f0 v_0.Nodes:Int) (0:Int)).bind fun l72=>(if (decide
  (v_0.Truth.Leader=v_1.K))=true then ((z7 l72 v_1.K).bind fun qm0=>(some (a0u v_0.Nodes v_1.K.toNat (Node.mk x7.View x7.Log (a0u l72 v_1.K.toNat
  (f0 x7.Log:Int)) 0)))) else (some (a0u v_0.Nodes v_1.K.toNat (Node.mk x7.View x7.Log l72 0))))) else (some v_0.Nodes)).bind
  (fun s180=>ub v_0 v_1 s180)))) else (if (decide (v_1.Kind=3))=true then (if (((!(decide (x7.View.Leader=v_1.K)))||(!(jc v_1.N 0 99))) ||
  (decide ((f0 x7.Log:Int)=30)))=true then (some (false,
  v_0)) else ((yc 16 x7.Log [(Row.mk x7.View.Epoch v_1.N)]).bind fun l212=>((z7 x7.Known v_1.K).bind fun x225=>(some (true,
  (Cluster.mk v_0.Truth (a0u v_0.Nodes v_1.K.toNat (Node.mk x7.View l212 (a0u x7.Known v_1.K.toNat (f0 l212:Int)) x7.Told)) v_0.Acked)))))) else (if
  (decide (v_1.Kind=4))=true then ((uj k v_0 v_1).bind fun v245=>(some (v245.1,
  v245.2))) else ((if (decide (v_1.Kind=5))=true then (some (decide (v_1.Kind=5))) else (some (decide (v_1.Kind=6)))).bind
  (fun s435=>qa4 k v_0 v_1 x7 s435)))))))

def xe (k:Nat)(v_0:Cluster)(v_1:ClusterStep) : Option (Cluster × Bool):=(if ((((!(jc v_1.K 0 (l4 .i64
  ((f0 v_0.Nodes:Int) - 1))))||(!(jc v_1.To 0 (l4 .i64 ((f0 v_0.Nodes:Int) - 1)))))||((!(((decide (v_1.Kind=4))||(decide
  (v_1.Kind=5)))||(decide (v_1.Kind=6))))&&(decide (v_1.To≠0))))||(((decide (v_1.Kind≠3))&&(decide (v_1.Kind≠4)))&&(decide (v_1.N≠0))))=true then (some
  ((Cluster.mk (View.mk 0 0 []) [] []),
  false)) else ((qai v_0).bind fun v106=>((qba k v106 v_1).bind fun v132=>((if (!v132.1)=true then (some true) else
  ((qad v132.2).bind fun v150=>(some (!v150)))).bind fun v150=>(if v150=true then (some ((Cluster.mk (View.mk 0 0 []) [] []),false)) else (some (v132.2,
  true)))))))

def x5 (k:Nat)(c_0:Cluster)(x_1:ClusterStep) : Option (Cluster × Bool):=((qad c_0).bind fun v17=>(if (!v17)=true then (some ((Cluster.mk
  (View.mk 0 0 []) [] []),false)) else ((xe k c_0 x_1).bind fun v23=>(some (v23.1,v23.2)))))

def wj (k:Nat)(v_0:Cluster)(v_1:ClusterStep) : Option Bool:=((qbp k v_0 1048576).bind fun v13=>(if (decide (v13<0))=true then
  (some true) else ((w6 k v_0).bind fun v21=>((qao k v21 (yk v_1)).bind fun v41=>((w6 k v_0).bind fun v65 =>
  ((x5 k v65 (yk v_1)).bind fun v97=>((wz k v97.1 v41.1).bind fun v121=>(if ((!v121)||(!(v97.2 == v41.2)))=true then
  (some false) else ((w6 k v_0).bind fun v139=>((wz k v65 v139).bind fun v159=>(if (!v159)=true then (some false) else
  ((xw k v65 1).bind fun v163=>((if (decide (v163.1<0))=true then (some true) else ((wz k v97.1 v41.1).bind fun v177=>(some
  (!v177)))).bind fun v177=>(if (v177||(!(v97.2 == v41.2)))=true then (some false) else ((xw k v97.1 1).bind fun v208=>((xu k (Cluster.mk
  (View.mk v97.1.Truth.Epoch v97.1.Truth.Leader v208.2.Truth.InStep) v208.2.Nodes v208.2.Acked) 1).bind fun v219=>(if (decide (v219<0))=true then (some false) else (if
  (decide (v219≠v208.1))=true then (some false) else ((w6 k v_0).bind fun v228=>((x5 k v228 (yk v_1)).bind fun v248 =>
  ((wz k v248.1 v41.1).bind fun v272=>(if ((!v272)||(!(v248.2 == v41.2)))=true then (some false) else ((xu k (Cluster.mk
  (View.mk v97.1.Truth.Epoch v97.1.Truth.Leader v208.2.Truth.InStep) v208.2.Nodes v208.2.Acked) 1).bind fun v285=>(if (decide (v285<0))=true then (some false) else (if
  (decide (v285≠v208.1))=true then (some false) else (some true))))))))))))))))))))))))))
end Go.Proofs.Ytohofoampalhoaa.X
