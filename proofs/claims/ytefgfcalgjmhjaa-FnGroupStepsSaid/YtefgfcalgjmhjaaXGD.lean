/- The seat's types and functions, as plain Lean has them. -/
import Derived.Test.YtefgfcalgjmhjaaZIns
set_option linter.unusedVariables false
set_option linter.unusedSimpArgs false
set_option maxRecDepth 100000
namespace Go.Proofs.Ytefgfcalgjmhjaa.X
open Go
open Nat (reduceEqDiff)
structure BoundsError where
 x:Int
 y:Int
 signed:Bool
 code:Int
 deriving DecidableEq,Inhabited
def BoundsError.cells (x:BoundsError) : List XV:=[.int .i64 x.x,.int .i64 x.y,.bool x.signed,.int .u8 x.code]
structure Row where
 Epoch:Int
 Value:Int
 deriving DecidableEq,Inhabited
def Row.cells (x:Row) : List XV:=[.int .i64 x.Epoch,.int .i64 x.Value]
structure Replica where
 Log:List Row
 Epoch:Int
 Known:Int
 deriving DecidableEq,Inhabited
def Replica.cells (x:Replica) : List XV:=[lst Row.cells x.Log,.int .i64 x.Epoch,.int .i64 x.Known]
structure Group where
 Epoch:Int
 Leader:Int
 InStep:List Int
 High:Int
 Replicas:List Replica
 deriving DecidableEq,Inhabited
def Group.cells (x:Group) : List XV:=[.int .i64 x.Epoch,.int .i64 x.Leader,lst cI x.InStep,.int .i64 x.High,lst Replica.cells x.Replicas]
structure IsrStep where
 Kind:Int
 K:Int
 N:Int
 deriving DecidableEq,Inhabited
def IsrStep.cells (x:IsrStep) : List XV:=[.int .i64 x.Kind,.int .i64 x.K,.int .i64 x.N]
structure L1Cur where
 code:List Int
 at_:Int
 seed:Int
 deriving DecidableEq,Inhabited
def L1Cur.cells (x:L1Cur) : List XV:=[lst cU8 x.code,.int .i64 x.at_,.int .u64 x.seed]

def qdb (s_0:List Int)(i_1:Int)(v_2:List Int) : Option (List Int × List Int):=qk7 s_0 i_1 v_2

def z9 (n_0:Int)(lo_1:Int)(hi_2:Int) : Bool:=((decide (lo_1≤n_0))&&(decide (n_0≤hi_2)))

def qcd (l_0:List Int)(many_1:Int)(i1:Nat)(x2:Int) : Option (Oc Unit Bool):=((if ((decide (x2<0))||(decide (many_1≤x2)))=true then
  (some true) else ((if (decide ((0:Int)<(i1:Int)))=true then ((zy l_0 (IntKind.wrap .i64 ((i1:Int) - 1))).bind fun x44=>(some (decide (x2≤x44)))) else
  (some false)).bind fun v44=>(some v44))).bind fun v41=>(if v41=true then (some (.ret false)) else (some (.nxt ()))))
def qgn  : Option Bool:=(some true)
def qcp (l_0:List Int)(many_1:Int) : Option Bool:=(jn (kf (fun i1 x2 _=>qcd l_0 many_1 i1 x2 ) l_0 ()) (fun _=>qgn ))

def qdh (n_1:Int)(i1:Nat)(x2:Int) : Option (Oc Unit Bool):=(if (decide (x2=n_1))=true then (some (.ret true)) else (some (.nxt ())))
def qhv  : Option Bool:=(some false)
def qb2 (l_0:List Int)(n_1:Int) : Option Bool:=(jn (kf (fun i1 x2 _=>qdh n_1 i1 x2 ) l_0 ()) (fun _=>qhv ))

def qcx (l_0:List Row)(epoch_1:Int)(i1:Nat)(x2:Row) : Option (Oc Unit Bool):=(if (!(z9 x2.Epoch 0 epoch_1))=true then (some (.ret false)) else
  ((if (!(z9 x2.Value 0 99))=true then (some true) else ((if (decide ((0:Int)<(i1:Int)))=true then ((zy l_0 (IntKind.wrap .i64
  ((i1:Int) - 1))).bind fun x42=>(some (decide (x2.Epoch<x42.Epoch)))) else (some false)).bind fun v42=>(some v42))).bind fun v39=>(if v39=true then (some
  (.ret false)) else (some (.nxt ())))))
def qg5 (l_0:List Row)  : Option Bool:=(some (decide ((List.length l_0:Int)≤30)))
def qde (l_0:List Row)(epoch_1:Int) : Option Bool:=(jn (kf (fun i1 x2 _=>qcx l_0 epoch_1 i1 x2 ) l_0 ()) (fun _=>qg5 l_0 ))

def qa3 (a_0:List Row)(b_1:List Row)(s2:Int) : Option (Oc Int Int):=((if ((decide (s2<(List.length a_0:Int)))&&(decide (s2 <
  (List.length b_1:Int))))=true then ((zy a_0 s2).bind fun x37=>((zy b_1 s2).bind fun x40=>(some ((x37.Epoch == x40.Epoch) &&
  ((x37.Value == x40.Value)&&true))))) else (some false)).bind fun v37=>(if v37=true then (some (.nxt (IntKind.wrap .i64 (s2+1)))) else (some (.brk s2))))
def qgl (s59:Int)  : Option Int:=(some s59)
def wh (k:Nat)(a_0:List Row)(b_1:List Row) : Option Int:=(jn (uj (fun s58=>qa3 a_0 b_1 s58) k 0) (fun s66=>qgl s66))

def u7 (k:Nat)(v_0:Group)(i57:Nat)(x58:Replica) : Option (Oc Unit Bool):=((qde x58.Log v_0.Epoch).bind fun v87=>(if ((((!v87) ||
  (!(z9 x58.Epoch 0 v_0.Epoch)))||(decide (x58.Known<0)))||(decide ((List.length x58.Log:Int)<x58.Known)))=true then (some (.ret false)) else
  ((qb2 v_0.InStep (i57:Int)).bind fun v133=>(if v133=true then ((zy v_0.Replicas v_0.Leader).bind fun x137 =>
  ((wh k x58.Log x137.Log).bind fun v140=>(if (decide (v140<v_0.High))=true then (some (.ret false)) else (if (decide (x58.Epoch=v_0.Epoch))=true then
  ((zy v_0.Replicas v_0.Leader).bind fun x148=>((wh k x58.Log x148.Log).bind fun v151=>(if (decide (v151<x58.Known))=true then (some (.ret false)) else
  (some (.nxt ()))))) else (some (.nxt ())))))) else (if (decide (x58.Epoch=v_0.Epoch))=true then ((zy v_0.Replicas v_0.Leader).bind fun x161 =>
  ((wh k x58.Log x161.Log).bind fun v164=>(if (decide (v164<x58.Known))=true then (some (.ret false)) else (some (.nxt ()))))) else (some (.nxt ())))))))
def qfd  : Option Bool:=(some true)
def y7 (k:Nat)(v_0:Group) : Option Bool:=((if ((!(z9 (List.length v_0.Replicas:Int) 2 4))||(!(z9 v_0.Epoch 0 100)))=true then
  (some true) else ((qcp v_0.InStep (List.length v_0.Replicas:Int)).bind fun v19=>(some (!v19)))).bind fun v19=>((if v19=true then (some true) else
  ((qb2 v_0.InStep v_0.Leader).bind fun v35=>(some (!v35)))).bind fun v35=>(if (v35||(decide (v_0.High<0)))=true then (some false) else (jn (kf
  (fun i57 x58 _=>u7 k v_0 i57 x58 ) v_0.Replicas ()) (fun _=>qfd )))))

def qc3 (l21:List Int)(i43:Nat)(x44:Replica)(s38:Group) : Option (Oc Group Group):=((ki 16 ([] : List Row) x44.Log).bind fun l78 =>
  ((ki 40 s38.Replicas [(Replica.mk l78 x44.Epoch x44.Known)]).bind fun l95=>(some (.nxt (Group.mk s38.Epoch s38.Leader l21 s38.High l95)))))
def qg6 (l21:List Int)(s108:Group)  : Option Group:=(some (Group.mk s108.Epoch s108.Leader l21 s108.High s108.Replicas))
def xg (g_0:Group) : Option Group:=((ki 8 ([] : List Int) g_0.InStep).bind fun l21=>(jn (kf
  (fun i43 x44 s107=>qc3 l21 i43 x44 s107) g_0.Replicas (Group.mk g_0.Epoch g_0.Leader l21 g_0.High [])) (fun s121=>qg6 l21 s121)))

def qal (g_0:Group)(k_1:Int)(x11:Replica)(v50:Int)(s53:Int)  : Option Group:=((sl x11.Log 0 (IntKind.wrap .i64 (v50+s53))).bind fun l80 =>
  ((ki 16 ([] : List Row) l80).bind fun l87=>(some (Group.mk g_0.Epoch g_0.Leader g_0.InStep g_0.High (List.set g_0.Replicas k_1.toNat (Replica.mk l87 g_0.Epoch
  (List.length l87:Int)))))))
def wu (k:Nat)(g_0:Group)(k_1:Int)(n_2:Int) : Option Group:=((zy g_0.Replicas g_0.Leader).bind fun x11=>((zy g_0.Replicas k_1).bind fun x27=>(ck
  (g_0.Leader≠k_1) ((wh k x27.Log x11.Log).bind fun v50=>((if (decide ((IntKind.wrap .i64 ((List.length x11.Log:Int) - v50))<n_2))=true then (some
  (IntKind.wrap .i64 ((List.length x11.Log:Int) - v50))) else (some n_2)).bind (fun s117=>qal g_0 k_1 x11 v50 s117))))))

def qdn (l_0:List Int)(n_1:Int)(s2:Int) : Option (Oc Int (List Int)):=((if (decide (s2<(List.length l_0:Int)))=true then ((zy l_0 s2).bind fun x27 =>
  (some (decide (x27<n_1)))) else (some false)).bind fun v27=>(if v27=true then (some (.nxt (IntKind.wrap .i64 (s2+1)))) else (some (.brk s2))))
def qfb (l_0:List Int)(n_1:Int)(s48:Int)  : Option (List Int):=((if (decide (s48<(List.length l_0:Int)))=true then ((zy l_0 s48).bind fun x58=>(some
  (decide (x58=n_1)))) else (some false)).bind fun v58=>(if v58=true then (some l_0) else ((sl l_0 0 s48).bind fun l76=>((ki 8 ([] : List Int) l76).bind fun l83 =>
  ((ki 8 l83 [n_1]).bind fun l98=>((sl l_0 s48 (List.length l_0)).bind fun l107=>((ki 8 l98 l107).bind fun l114=>(some l114))))))))
def qb3 (k:Nat)(l_0:List Int)(n_1:Int) : Option (List Int):=(jn (uj (fun s47=>qdn l_0 n_1 s47) k 0) (fun s123=>qfb l_0 n_1 s123))

def kc (g_0:Group)(i9:Nat)(x10:Int)(s8:Int) : Option (Oc Int Int):=((zy g_0.Replicas x10).bind fun x32=>(if (decide
  (x32.Epoch≠g_0.Epoch))=true then (some (.ret (-1))) else (if (decide (x32.Known<s8))=true then (some (.nxt x32.Known)) else (some (.nxt s8)))))
def qft (s51:Int)  : Option Int:=(some s51)
def wj (g_0:Group) : Option Int:=(jn (kf (fun i9 x10 s50=>kc g_0 i9 x10 s50) g_0.InStep 30) (fun s58=>qft s58))

def qat (k:Nat)(i90:Nat)(s113:Group)(s114:List Int)(s117:List Replica)  : Option (Oc (Group × (List Replica)) (Group × Int × Bool)) :=
  ((qb3 k s114 (i90:Int)).bind fun v151=>(some (.nxt ((Group.mk s113.Epoch s113.Leader v151 s113.High s117),s117))))
def wa (k:Nat)(i90:Nat)(s82:Group)(s87:List Replica) : Option (Oc (Group × (List Replica)) (Group × Int × Bool)):=((if (decide
  ((i90:Int)≠s82.Leader))=true then ((wu k (Group.mk s82.Epoch s82.Leader s82.InStep s82.High s87) (i90:Int) 30).bind fun v129=>(some (v129,v129.InStep,
  v129.Replicas))) else (some ((Group.mk s82.Epoch s82.Leader s82.InStep s82.High s87),s82.InStep,s87))).bind (fun s163=>qat k i90 s163.1 s163.2.1 s163.2.2))
def qcc (v_0:Group)(s165:Group)(s170:List Replica)(s182:Group)  : Option (Group × Int × Bool):=((xg
  (Group.mk s182.Epoch s182.Leader s165.InStep s182.High s170)).bind fun v201=>(some (v201,(IntKind.wrap .i64 (s182.High - v_0.High)),true)))
def qca (v_0:Group)(s165:Group)(s170:List Replica)  : Option (Group × Int × Bool):=((wj
  (Group.mk s165.Epoch s165.Leader s165.InStep s165.High s170)).bind fun v179=>((if (decide (s165.High<v179))=true then (some
  (Group.mk s165.Epoch s165.Leader s165.InStep v179 s170)) else (some (Group.mk s165.Epoch s165.Leader s165.InStep s165.High s170))).bind
  (fun s219=>qcc v_0 s165 s170 s219)))
def qai (k:Nat)(v_0:Group) : Option (Group × Int × Bool):=((y7 k v_0).bind fun v11=>(if (!v11)=true then (some ((Group.mk 0 0 [] 0 []),0,
  false)) else ((xg v_0).bind fun v17=>((zy v17.Replicas v17.Leader).bind fun x39=>(jn (xn (fun i90 s164=>wa k i90 s164.1 s164.2)
  (List.length v17.Replicas:Int) ((Group.mk v17.Epoch v17.Leader v17.InStep v17.High (List.set v17.Replicas v17.Leader.toNat (Replica.mk x39.Log v17.Epoch
  (List.length x39.Log:Int)))),(List.set v17.Replicas v17.Leader.toNat (Replica.mk x39.Log v17.Epoch (List.length x39.Log:Int)))))
  (fun s220=>qca v_0 s220.1 s220.2))))))

def z7 (n_0:Int)(low_1:Int)(high_2:Int) : Bool:=((decide (low_1≤n_0))&&(decide (n_0≤high_2)))

def xq (x7:Replica)(x10:Replica)(s14:Int) : Option (Oc Int Int):=((if (decide (s14<(mnI (List.length x7.Log:Int)
  (List.length x10.Log:Int))))=true then ((zy x7.Log s14).bind fun x39=>((zy x10.Log s14).bind fun x42=>(some ((x39.Epoch == x42.Epoch) &&
  ((x39.Value == x42.Value)&&true))))) else (some false)).bind fun v39=>(if v39=true then (some (.nxt (IntKind.wrap .i64 (s14+1)))) else (some (.brk s14))))
def qea (s61:Int)  : Option Int:=(some s61)
def k6 (k:Nat)(g_0:Group)(k_1:Int) : Option Int:=((zy g_0.Replicas k_1).bind fun x7=>((zy g_0.Replicas g_0.Leader).bind fun x10=>(jn (uj
  (fun s60=>xq x7 x10 s60) k 0) (fun s68=>qea s68))))

def qa7 (list_0:List Int)(many_1:Int)(i1:Nat)(x2:Int) : Option (Oc Unit Bool):=((if (!(z7 x2 0 (IntKind.wrap .i64 (many_1 - 1))))=true then
  (some true) else ((if (decide ((0:Int)<(i1:Int)))=true then ((zy list_0 (IntKind.wrap .i64 ((i1:Int) - 1))).bind fun x30=>(some (decide (x2≤x30)))) else
  (some false)).bind fun v30=>(some v30))).bind fun v27=>(if v27=true then (some (.ret false)) else (some (.nxt ()))))
def qez  : Option Bool:=(some true)
def qa6 (list_0:List Int)(many_1:Int) : Option Bool:=(jn (kf (fun i1 x2 _=>qa7 list_0 many_1 i1 x2 ) list_0 ())
  (fun _=>qez ))

def ua (v_1:Int)(i1:Nat)(x2:Int) : Option (Oc Unit Int):=(if (decide (v_1=x2))=true then (some (.ret (i1:Int))) else (some (.nxt ())))
def qed  : Option Int:=(some (-1))
def qbu (s_0:List Int)(v_1:Int) : Option Int:=(jn (kf (fun i1 x2 _=>ua v_1 i1 x2 ) s_0 ()) (fun _=>qed ))

def yk (s_0:List Int)(v_1:Int) : Option Bool:=((qbu s_0 v_1).bind fun v1=>(some (decide ((0:Int)≤v1))))

def qae (most_1:Int)(i3:Nat)(x4:Row)(s2:Int) : Option (Oc Int Bool):=(if ((!(z7 x4.Epoch s2 most_1))||(!(z7 x4.Value 0 99)))=true then (some
  (.ret false)) else (some (.nxt x4.Epoch)))
def qg1 (l_0:List Row)(s54:Int)  : Option Bool:=(some (decide ((List.length l_0:Int)≤30)))
def qdf (l_0:List Row)(most_1:Int) : Option Bool:=(jn (kf (fun i3 x4 s53=>qae most_1 i3 x4 s53) l_0 0) (fun s62=>qg1 l_0 s62))

def qax (k:Nat)(v_0:Group)(i66:Nat)(x67:Replica) : Option (Oc Unit Bool):=((qdf x67.Log v_0.Epoch).bind fun v96=>(if (!v96)=true then (some
  (.ret false)) else (if (!(z7 x67.Epoch 0 v_0.Epoch))=true then (some (.ret false)) else (if (!(z7 x67.Known 0 (List.length x67.Log:Int)))=true then (some
  (.ret false)) else (if (decide (x67.Epoch=v_0.Epoch))=true then ((k6 k v_0 (i66:Int)).bind fun v112=>(if (decide (v112<x67.Known))=true then (some
  (.ret false)) else ((yk v_0.InStep (i66:Int)).bind fun v119=>(if v119=true then ((k6 k v_0 (i66:Int)).bind fun v123=>(if (decide
  (v123<v_0.High))=true then (some (.ret false)) else (some (.nxt ())))) else (some (.nxt ())))))) else ((yk v_0.InStep (i66:Int)).bind fun v132 =>
  (if v132=true then ((k6 k v_0 (i66:Int)).bind fun v136=>(if (decide (v136<v_0.High))=true then (some (.ret false)) else (some (.nxt ())))) else (some
  (.nxt ())))))))))
def qgf  : Option Bool:=(some true)
def ws (k:Nat)(v_0:Group) : Option Bool:=((if (((!(z7 (List.length v_0.Replicas:Int) 2 4))||(!(z7 v_0.Epoch 0 100)))||(!(z7 v_0.Leader 0
  (IntKind.wrap .i64 ((List.length v_0.Replicas:Int) - 1)))))=true then (some true) else ((qa6 v_0.InStep (List.length v_0.Replicas:Int)).bind fun v28 =>
  (some (!v28)))).bind fun v28=>((if v28=true then (some true) else ((yk v_0.InStep v_0.Leader).bind fun v44=>(some (!v44)))).bind fun v44=>(if (v44 ||
  (decide (v_0.High<0)))=true then (some false) else (jn (kf (fun i66 x67 _=>qax k v_0 i66 x67 ) v_0.Replicas ()) (fun _=>qgf )))))

def qbh (l21:List Int)(i43:Nat)(x44:Replica)(s38:Group) : Option (Oc Group Group):=((ki 16 ([] : List Row) x44.Log).bind fun l78 =>
  ((ki 40 s38.Replicas [(Replica.mk l78 x44.Epoch x44.Known)]).bind fun l95=>(some (.nxt (Group.mk s38.Epoch s38.Leader l21 s38.High l95)))))
def qfe (l21:List Int)(s108:Group)  : Option Group:=(some (Group.mk s108.Epoch s108.Leader l21 s108.High s108.Replicas))
def qac (g_0:Group) : Option Group:=((ki 8 ([] : List Int) g_0.InStep).bind fun l21=>(jn (kf
  (fun i43 x44 s107=>qbh l21 i43 x44 s107) g_0.Replicas (Group.mk g_0.Epoch g_0.Leader l21 g_0.High [])) (fun s121=>qfe l21 s121)))

def kr (g_0:Group)(k_1:Int) : Option Group:=((zy g_0.Replicas k_1).bind fun x1=>(some (Group.mk g_0.Epoch g_0.Leader g_0.InStep g_0.High
  (List.set g_0.Replicas k_1.toNat (Replica.mk x1.Log g_0.Epoch (List.length x1.Log:Int))))))

def yp (k:Nat)(g_0:Group)(k_1:Int)(many_2:Int) : Option Group:=((k6 k g_0 k_1).bind fun v1 =>
  ((zy g_0.Replicas g_0.Leader).bind fun x4=>((sl x4.Log v1 (List.length x4.Log)).bind fun l20=>((zy g_0.Replicas k_1).bind fun x27=>(ck (g_0.Leader≠k_1)
  ((sl x27.Log 0 v1).bind fun l50=>((ki 16 ([] : List Row) l50).bind fun l57=>((sl l20 0 (mnI many_2 (List.length l20:Int))).bind fun l66 =>
  ((ki 16 l57 l66).bind fun l73=>((kr (Group.mk g_0.Epoch g_0.Leader g_0.InStep g_0.High (List.set g_0.Replicas k_1.toNat
  (Replica.mk l73 x27.Epoch x27.Known))) k_1).bind fun v95=>(some v95)))))))))))

def qas (i57:Nat)(s80:Group)(s81:List Int)(s84:List Replica)  : Option (Oc (Group × (List Replica)) (Group × Int × Bool)) :=
  ((ki 8 s81 [(i57:Int)]).bind fun l131=>(some (.nxt ((Group.mk s80.Epoch s80.Leader l131 s80.High s84),s84))))
def y8 (k:Nat)(i57:Nat)(s49:Group)(s54:List Replica) : Option (Oc (Group × (List Replica)) (Group × Int × Bool)):=((if (decide
  ((i57:Int)=s49.Leader))=true then ((kr (Group.mk s49.Epoch s49.Leader s49.InStep s49.High s54) (i57:Int)).bind fun v96=>(some (v96,v96.InStep,
  v96.Replicas))) else ((yp k (Group.mk s49.Epoch s49.Leader s49.InStep s49.High s54) (i57:Int) 30).bind fun v106=>(some (v106,v106.InStep,
  v106.Replicas)))).bind (fun s143=>qas i57 s143.1 s143.2.1 s143.2.2))
def qar (g_0:Group)(s145:Group)(s150:List Replica)  : Option (Group × Int × Bool):=((zy s150 s145.Leader).bind fun x159=>(some
  ((Group.mk s145.Epoch s145.Leader s145.InStep (List.length x159.Log:Int) s150),(IntKind.wrap .i64 ((List.length x159.Log:Int) - g_0.High)),true)))
def wz (k:Nat)(g_0:Group) : Option (Group × Int × Bool):=((ws k g_0).bind fun v11=>(if (!v11)=true then (some ((Group.mk 0 0 [] 0 []),0,
  false)) else ((qac g_0).bind fun v17=>(jn (xn (fun i57 s144=>y8 k i57 s144.1 s144.2) (List.length v17.Replicas:Int)
  ((Group.mk v17.Epoch v17.Leader [] v17.High v17.Replicas),v17.Replicas)) (fun s183=>qar g_0 s183.1 s183.2)))))

def qb0 (b_1:List Row)(i2:Nat)(x3:Row) : Option (Oc Unit Bool):=((zy b_1 (i2:Int)).bind fun x24=>(if (!((x3.Epoch == x24.Epoch) &&
  ((x3.Value == x24.Value)&&true)))=true then (some (.ret false)) else (some (.nxt ()))))
def qfw  : Option Bool:=(some true)
def u2 (a_0:List Row)(b_1:List Row) : Option Bool:=(if (decide ((List.length a_0:Int)≠(List.length b_1:Int)))=true then (some false) else (jn (kf
  (fun i2 x3 _=>qb0 b_1 i2 x3 ) a_0 ()) (fun _=>qfw )))

def qap (b_1:List Int)(i2:Nat)(x3:Int) : Option (Oc Unit Bool):=((zy b_1 (i2:Int)).bind fun x24=>(if (decide (x3≠x24))=true then (some
  (.ret false)) else (some (.nxt ()))))
def qf1  : Option Bool:=(some true)
def u1 (a_0:List Int)(b_1:List Int) : Option Bool:=(if (decide ((List.length a_0:Int)≠(List.length b_1:Int)))=true then (some false) else (jn (kf
  (fun i2 x3 _=>qap b_1 i2 x3 ) a_0 ()) (fun _=>qf1 )))

def um (v_0:Group)(v_1:Group)(i58:Nat) : Option (Oc Unit Bool):=((zy v_0.Replicas (i58:Int)).bind fun x80=>((zy v_1.Replicas
  (i58:Int)).bind fun x91=>((if ((decide (x80.Epoch≠x91.Epoch))||(decide (x80.Known≠x91.Known)))=true then (some true) else
  ((u2 x80.Log x91.Log).bind fun v118=>(some (!v118)))).bind fun v118=>(if v118=true then (some (.ret false)) else (some (.nxt ()))))))
def qe4  : Option Bool:=(some true)
def xh (v_0:Group)(v_1:Group) : Option Bool:=((if (((decide (v_0.Epoch≠v_1.Epoch))||(decide (v_0.Leader≠v_1.Leader)))||(decide
  (v_0.High≠v_1.High)))=true then (some true) else ((u1 v_0.InStep v_1.InStep).bind fun v34=>(some (!v34)))).bind fun v34=>(if (v34||(decide
  ((List.length v_0.Replicas:Int)≠(List.length v_1.Replicas:Int))))=true then (some false) else (jn (xn (fun i58 _=>um v_0 v_1 i58 )
  (List.length v_0.Replicas:Int) ()) (fun _=>qe4 ))))

def yg (k:Nat)(g_0:Group) : Option ((List Row) × Bool):=((ws k g_0).bind fun v7=>(if (!v7)=true then (some ([],
  false)) else ((zy g_0.Replicas g_0.Leader).bind fun x17=>((sl x17.Log 0 g_0.High).bind fun l20=>((ki 16 ([] : List Row) l20).bind fun l23=>(some (l23,true)))))))

def ue (k:Nat)(g_0:Group) : Option Bool:=((ws k g_0).bind fun v7=>(some v7))

def qay (k:Nat)(g_0:Group)(replica_1:Int) : Option (Int × Bool):=((ws k g_0).bind fun v7=>(if ((!v7)||(!(z7 replica_1 0 (IntKind.wrap .i64
  ((List.length g_0.Replicas:Int) - 1)))))=true then (some (0,
  false)) else ((zy g_0.Replicas g_0.Leader).bind fun x20=>((k6 k g_0 replica_1).bind fun v23=>(some ((IntKind.wrap .i64
  ((List.length x20.Log:Int) - v23)),true))))))

def qdz (c_0:L1Cur)(s1:Int)  : Option (Int × L1Cur):=(if (decide ((IntKind.wrap .i64 (c_0.at_+1))≤(List.length c_0.code:Int)))=true then (some (s1,
  (L1Cur.mk c_0.code (IntKind.wrap .i64 (c_0.at_+1)) (IntKind.wrap .u64 ((IntKind.wrap .u64 ((IntKind.wrap .u64 (c_0.seed*6364136223846793005)) +
  (IntKind.wrap .u64 s1)))+1442695040888963407))))) else (some ((IntKind.wrap .i64 (qlb .u64 (qhq .u64 (IntKind.wrap .u64 ((IntKind.wrap .u64 ((IntKind.wrap .u64
  (c_0.seed*6364136223846793005))+(IntKind.wrap .u64 s1)))+1442695040888963407)) 40) 255)),
  (L1Cur.mk c_0.code (IntKind.wrap .i64 (c_0.at_+1)) (IntKind.wrap .u64 ((IntKind.wrap .u64 ((IntKind.wrap .u64 (c_0.seed*6364136223846793005)) +
  (IntKind.wrap .u64 s1)))+1442695040888963407))))))
def qdv (c_0:L1Cur) : Option (Int × L1Cur):=((if (decide (c_0.at_<(List.length c_0.code:Int)))=true then ((zy c_0.code c_0.at_).bind fun x10=>(some
  (IntKind.wrap .i64 x10))) else (some 0)).bind (fun s25=>qdz c_0 s25))

def kj (c_0:L1Cur)(n_1:Int) : Option (Int × L1Cur):=(if (decide (n_1≤1))=true then (some (0,
  c_0)) else ((qdv c_0).bind fun v2=>(if (decide ((200:Int)<n_1))=true then ((qdv v2.2).bind fun v8=>(ck (n_1≠0) (some ((Int.tmod (IntKind.wrap .i64
  ((IntKind.wrap .i64 (v2.1*256))+v8.1)) n_1),v8.2)))) else (ck (n_1≠0) (some ((Int.tmod v2.1 n_1),v2.2))))))

def qeg (c_0:L1Cur)(n_1:Int) : Option (Bool × L1Cur):=((kj c_0 n_1).bind fun v1=>(some ((decide (v1.1=0)),v1.2)))

def qc4 (c_0:L1Cur)(list_1:List Int) : Option (Int × L1Cur × (List Int)):=((kj c_0 (List.length list_1:Int)).bind fun v1 =>
  ((zy list_1 v1.1).bind fun x6=>(some (x6,v1.2,list_1))))

def qbz (replicas_1:Int)(v79:Int × L1Cur × (List Int))(s125:Bool)  : Option (L1Cur × IsrStep):=(if s125=true then
  ((kj v79.2.1 replicas_1).bind fun v148=>(some (v148.2,(IsrStep.mk v79.1 v148.1 0)))) else (some (v79.2.1,(IsrStep.mk v79.1 0 0))))
def qbx (s43:List IsrStep)(s48:Int)(s171:L1Cur)(s172:IsrStep)  : Option (Oc ((List IsrStep) × Int × L1Cur) ((List IsrStep) × L1Cur)) :=
  ((ki 24 s43 [s172]).bind fun l215=>(some (.nxt (l215,(IntKind.wrap .i64 (s48 - 1)),s171))))
def qam (s43:List IsrStep)(s48:Int)(s92:L1Cur)(s93:IsrStep)  : Option (Oc ((List IsrStep) × Int × L1Cur) ((List IsrStep) × L1Cur)) :=
  ((qeg s92 60).bind fun v166=>((if v166.1=true then ((kj v166.2 8).bind fun v182=>((kj v182.2 6).bind fun v187 =>
  ((kj v187.2 40).bind fun v192=>(some (v192.2,(IsrStep.mk v182.1 (IntKind.wrap .i64 (v187.1 - 1)) (IntKind.wrap .i64 (v192.1 - 1)))))))) else (some (v166.2,
  s93))).bind (fun s225=>qbx s43 s48 s225.1 s225.2)))
def wy (replicas_1:Int)(s43:List IsrStep)(s48:Int)(s49:L1Cur) : Option (Oc ((List IsrStep) × Int × L1Cur) ((List IsrStep) × L1Cur)):=(if (decide
  ((0:Int)<s48))=true then ((qc4 s49 [1,2,2,2,3,3,3,3,4,5,6,6,
  6]).bind fun v79=>((if (decide (v79.1=2))=true then ((kj v79.2.1 9).bind fun v103=>(some (v103.2,
  (IsrStep.mk v79.1 0 v103.1)))) else (if (decide (v79.1=3))=true then ((kj v79.2.1 replicas_1).bind fun v112=>((kj v112.2 4).bind fun v117=>(some (v117.2,
  (IsrStep.mk 3 v112.1 v117.1))))) else ((if (decide (v79.1=1))=true then (some (decide (v79.1=1))) else (if (decide (v79.1=4))=true then (some (decide
  (v79.1=4))) else (some (decide (v79.1=5))))).bind (fun s157=>qbz replicas_1 v79 s157)))).bind (fun s226=>qam s43 s48 s226.1 s226.2))) else
  (some (.brk (s43,s48,s49))))
def qbv (s229:List IsrStep)(s234:Int)(s235:L1Cur)  : Option ((List IsrStep) × L1Cur):=(some (s229,s235))
def qdp (k:Nat)(replicas_1:Int)(s11:Int)(s12:L1Cur)  : Option ((List IsrStep) × L1Cur):=(jn (uj
  (fun s228=>wy replicas_1 s228.1 s228.2.1 s228.2.2) k (([],s11,s12) : (List IsrStep) × Int × L1Cur)) (fun s243=>qbv s243.1 s243.2.1 s243.2.2))
def uw (k:Nat)(c_0:L1Cur)(replicas_1:Int) : Option ((List IsrStep) × L1Cur):=((kj c_0 40).bind fun v1=>((qeg v1.2 8).bind fun v6 =>
  ((if v6.1=true then ((kj v6.2 12).bind fun v22=>(some ((IntKind.wrap .i64 ((90:Int)+v22.1)),v22.2))) else (some (v1.1,
  v6.2))).bind (fun s244=>qdp k replicas_1 s244.1 s244.2))))

def qaf (replicas_0:Int)(l8:List Replica)(s29:Int)(s30:Group) : Option (Oc (Int × Group) (Group × Bool)):=(if (decide (s29<replicas_0))=true then
  ((ki 8 s30.InStep [s29]).bind fun l64=>(some (.nxt ((IntKind.wrap .i64 (s29+1)),(Group.mk s30.Epoch s30.Leader l64 s30.High l8))))) else (some (.brk (s29,
  (Group.mk s30.Epoch s30.Leader s30.InStep s30.High l8)))))
def qf2 (l8:List Replica)(s78:Int)(s79:Group)  : Option (Group × Bool):=(some ((Group.mk s79.Epoch s79.Leader s79.InStep s79.High l8),true))
def yv (k:Nat)(replicas_0:Int) : Option (Group × Bool):=(if (!(z9 replicas_0 2 4))=true then (some ((Group.mk 0 0 [] 0 []),
  false)) else ((mkN 40 replicas_0 (Replica.mk [] (0:Int) (0:Int))).bind fun l8=>(jn (uj (fun s77=>qaf replicas_0 l8 s77.1 s77.2) k (0,
  (Group.mk 0 0 [] 0 l8))) (fun s93=>qf2 l8 s93.1 s93.2))))

def uq (v_0:Group)(v_1:IsrStep)(i309:Nat)(s304:List Int) : Option (Oc (List Int) (Group × Bool)):=((zy v_0.InStep (i309:Int)).bind fun x334=>(if
  (decide (x334≠v_1.K))=true then ((ki 8 s304 [x334]).bind fun l346=>(some (.nxt l346))) else (some (.nxt s304))))
def qgo (v_0:Group)(s358:List Int)  : Option (Group × Bool):=(some ((Group.mk v_0.Epoch v_0.Leader s358 v_0.High v_0.Replicas),true))
def qbj (k:Nat)(v_0:Group)(v_1:IsrStep) : Option (Group × Bool):=((qb2 v_0.InStep v_1.K).bind fun v15=>((zy v_0.Replicas v_0.Leader).bind fun x29 =>
  (if ((((decide (v_1.Kind=1))&&v15)&&(decide (v_1.N=0)))&&(decide (v_0.Epoch<100)))=true then ((zy v_0.Replicas v_1.K).bind fun x95=>(some ((Group.mk
  (IntKind.wrap .i64 (v_0.Epoch+1)) v_1.K v_0.InStep v_0.High (List.set v_0.Replicas v_1.K.toNat (Replica.mk x95.Log (IntKind.wrap .i64 (v_0.Epoch+1))
  (List.length x95.Log:Int)))),true))) else (if ((((decide (v_1.Kind=2))&&(decide (v_1.K=0)))&&(z9 v_1.N 0 99))&&(decide
  ((List.length x29.Log:Int)<30)))=true then ((ki 16 x29.Log [(Row.mk v_0.Epoch v_1.N)]).bind fun l180=>(some ((Group.mk v_0.Epoch v_0.Leader v_0.InStep v_0.High
  (List.set v_0.Replicas v_0.Leader.toNat (Replica.mk l180 v_0.Epoch (List.length l180:Int)))),
  true))) else (if ((((decide (v_1.Kind=3))&&((decide ((0:Int)≤v_1.K))&&(decide (v_1.K<(List.length v_0.Replicas:Int)))))&&(decide (v_1.K≠v_0.Leader))) &&
  (z9 v_1.N 0 30))=true then ((wu k v_0 v_1.K v_1.N).bind fun v247=>(some (v247,
  true))) else (if ((((decide (v_1.Kind=4))&&v15)&&(decide (v_1.K≠v_0.Leader)))&&(decide (v_1.N=0)))=true then (jn (xn
  (fun i309 s357=>uq v_0 v_1 i309 s357) (List.length v_0.InStep:Int) ([] : (List Int))) (fun s375=>qgo v_0 s375)) else ((if ((((decide
  (v_1.Kind=5))&&((decide ((0:Int)≤v_1.K))&&(decide (v_1.K<(List.length v_0.Replicas:Int)))))&&(!v15))&&(decide (v_1.N=0)))=true then
  ((zy v_0.Replicas v_1.K).bind fun x410=>(some (decide (x410.Epoch=v_0.Epoch)))) else (some false)).bind fun v410=>((if v410=true then
  ((zy v_0.Replicas v_1.K).bind fun x443=>(some (decide (v_0.High≤x443.Known)))) else (some false)).bind fun v443=>(if v443=true then
  ((qb3 k v_0.InStep v_1.K).bind fun v474=>(some ((Group.mk v_0.Epoch v_0.Leader v474 v_0.High v_0.Replicas),
  true))) else (if (((decide (v_1.Kind=6))&&(decide (v_1.K=0)))&&(decide (v_1.N=0)))=true then ((wj v_0).bind fun v515=>(if (decide
  (v_0.High<v515))=true then ((wj v_0).bind fun v519=>(some ((Group.mk v_0.Epoch v_0.Leader v_0.InStep v519 v_0.Replicas),true))) else (some (v_0,
  false)))) else (some (v_0,false))))))))))))

def qc8 (s54:List Bool)(v120:Group × Bool)(s135:Group)  : Option (Oc ((List Bool) × Group) (Group × (List Bool) × Bool)) :=
  ((ki 1 s54 [v120.2]).bind fun l172=>(some (.nxt (l172,s135))))
def u6 (k:Nat)(i68:Nat)(x69:IsrStep)(s54:List Bool)(s59:Group) : Option (Oc ((List Bool) × Group) (Group × (List Bool) × Bool)) :=
  ((xg s59).bind fun v104=>((qbj k v104 x69).bind fun v120=>((if v120.2=true then (some v120.1) else (some s59)).bind
  (fun s182=>qc8 s54 v120 s182))))
def qdc (s184:List Bool)(s189:Group)  : Option (Group × (List Bool) × Bool):=((xg s189).bind fun v205=>(some (v205,s184,true)))
def wk (k:Nat)(replicas_0:Int)(l_1:List IsrStep) : Option (Group × (List Bool) × Bool):=((yv k replicas_0).bind fun v5=>(if ((!v5.2)||(decide
  ((100:Int)<(List.length l_1:Int))))=true then (some ((Group.mk 0 0 [] 0 []),[],
  false)) else (jn (kf (fun i68 x69 s183=>u6 k i68 x69 s183.1 s183.2) l_1 (([],
  v5.1) : (List Bool) × Group)) (fun s223=>qdc s223.1 s223.2))))

def qdl (k:Nat)(v5:Int × L1Cur)(v10:(List IsrStep) × L1Cur)(s19:List IsrStep)  : Option (Group × L1Cur):=((wk k (IntKind.wrap .i64
  ((2:Int)+v5.1)) s19).bind fun v48=>((kj v10.2 30).bind fun v74=>(if (decide (v74.1=0))=true then (some ((Group.mk v48.1.Epoch v48.1.Leader v48.1.InStep
  (IntKind.wrap .i64 (v48.1.High+1)) v48.1.Replicas),v74.2)) else (if (decide (v74.1=1))=true then ((qc4 v74.2 [(-1),0,100,
  101]).bind fun v91=>(some ((Group.mk v91.1 v48.1.Leader v48.1.InStep v48.1.High v48.1.Replicas),
  v91.2.1))) else (if (decide (v74.1=2))=true then ((zy v48.1.Replicas (0:Int)).bind fun x103=>(some ((Group.mk v48.1.Epoch v48.1.Leader v48.1.InStep v48.1.High
  (List.set v48.1.Replicas (0:Int).toNat (Replica.mk x103.Log x103.Epoch (IntKind.wrap .i64 (x103.Known+1))))),
  v74.2))) else (if (decide (v74.1=3))=true then ((kj v74.2 5).bind fun v131=>(some ((Group.mk v48.1.Epoch v131.1 v48.1.InStep v48.1.High v48.1.Replicas),
  v131.2))) else (some (v48.1,v74.2))))))))
def qby (k:Nat)(c_0:L1Cur) : Option (Group × L1Cur):=((kj c_0 3).bind fun v5=>((uw k v5.2 (IntKind.wrap .i64
  ((2:Int)+v5.1))).bind fun v10=>((if (decide ((100:Int)<(List.length v10.1:Int)))=true then ((sl v10.1 0 100).bind fun l32=>(some l32)) else (some v10.1)).bind
  (fun s142=>qdl k v5 v10 s142))))

def uk (k:Nat)(code_0:List Int) : Option (Group × IsrStep):=((qby k (L1Cur.mk code_0 0 0)).bind fun v13=>((uw k v13.2
  (List.length v13.1.Replicas:Int)).bind fun v34=>(if (decide ((List.length v34.1:Int)=0))=true then (some (v13.1,
  (IsrStep.mk 6 0 0))) else ((zy v34.1 (0:Int)).bind fun x48=>(some (v13.1,x48))))))

def yl (x_0:Int) : Bool:=(decide (x_0≠x_0))

def qbp (x_0:Int)(y_1:Int) : Bool:=(((yl x_0)&&(!(yl y_1)))||(decide (x_0<y_1)))

def wd (x_0:Int) : Bool:=(decide (x_0≠x_0))

def yx (x_0:List Int)(target_1:Int)(s3:Int)(s4:Int) : Option (Oc (Int × Int) (Int × Bool)):=(if (decide (s3<s4))=true then ((zy x_0
  (IntKind.wrap .i64 (qhq .u64 (IntKind.wrap .u64 (IntKind.wrap .i64 (s3+s4))) 1))).bind fun x29=>(if (qbp x29 target_1)=true then (some (.nxt
  ((IntKind.wrap .i64 ((IntKind.wrap .i64 (qhq .u64 (IntKind.wrap .u64 (IntKind.wrap .i64 (s3+s4))) 1))+1)),s4))) else (some (.nxt (s3,
  (IntKind.wrap .i64 (qhq .u64 (IntKind.wrap .u64 (IntKind.wrap .i64 (s3+s4))) 1))))))) else (some (.brk (s3,s4))))
def uz (x_0:List Int)(target_1:Int)(s37:Int)(s38:Int)  : Option (Int × Bool):=((if (decide (s37<(List.length x_0:Int)))=true then
  ((zy x_0 s37).bind fun x50=>((if (decide (x50=target_1))=true then (some true) else ((zy x_0 s37).bind fun x56=>(some ((wd x56) &&
  (wd target_1))))).bind fun v56=>(some v56))) else (some false)).bind fun v50=>(some (s37,v50)))
def wm (k:Nat)(x_0:List Int)(target_1:Int) : Option (Int × Bool):=(jn (uj (fun s36=>yx x_0 target_1 s36.1 s36.2) k (0,
  (List.length x_0:Int))) (fun s90=>uz x_0 target_1 s90.1 s90.2))

def qc7 (s_0:List Int)(i_1:Int)(j_2:Int) : Option (List Int):=qk4 s_0 i_1 j_2

def wg (v_0:Group)(i295:Nat)(s291:Int)(s292:List Replica) : Option (Oc (Int × (List Replica)) (Bool × Group)):=((zy v_0.InStep
  (i295:Int)).bind fun x319=>((zy s292 x319).bind fun x324=>(if (decide (x324.Epoch≠v_0.Epoch))=true then (some (.ret (false,
  (Group.mk v_0.Epoch v_0.Leader v_0.InStep v_0.High s292)))) else (some (.nxt ((mnI s291 x324.Known),s292))))))
def qcu (v_0:Group)(v_1:IsrStep)(s352:Int)(s353:List Replica)  : Option (Bool × Group):=(if ((decide (v_1.K≠0))||(decide
  (s352≤v_0.High)))=true then (some (false,(Group.mk v_0.Epoch v_0.Leader v_0.InStep v_0.High s353))) else (some (true,
  (Group.mk v_0.Epoch v_0.Leader v_0.InStep s352 s353))))
def qa0 (k:Nat)(v_0:Group)(v_1:IsrStep) : Option (Bool × Group):=(if (((decide (v_1.Kind≠2))&&(decide (v_1.Kind≠3)))&&(decide
  (v_1.N≠0)))=true then (some (false,v_0)) else (if (!(z7 v_1.K 0 (IntKind.wrap .i64 ((List.length v_0.Replicas:Int) - 1))))=true then (some (false,
  v_0)) else ((wm k v_0.InStep v_1.K).bind fun v27=>((zy v_0.Replicas v_1.K).bind fun x30=>(if (decide (v_1.Kind=1))=true then (if ((!v27.2) ||
  (decide (v_0.Epoch=100)))=true then (some (false,
  v_0)) else ((kr (Group.mk (IntKind.wrap .i64 (v_0.Epoch+1)) v_1.K v_0.InStep v_0.High v_0.Replicas) v_1.K).bind fun v77=>(some (true,
  v77)))) else (if (decide (v_1.Kind=2))=true then ((zy v_0.Replicas v_0.Leader).bind fun x87=>(if (((decide (v_1.K≠0))||(!(z7 v_1.N 0 99)))||(decide
  ((List.length x87.Log:Int)=30)))=true then (some (false,
  v_0)) else ((ki 16 x87.Log [(Row.mk v_0.Epoch v_1.N)]).bind fun l151=>((kr (Group.mk v_0.Epoch v_0.Leader v_0.InStep v_0.High
  (List.set v_0.Replicas v_0.Leader.toNat (Replica.mk l151 x87.Epoch x87.Known))) v_0.Leader).bind fun v169=>(some (true,
  v169)))))) else (if (decide (v_1.Kind=3))=true then (if (decide (v_1.K=v_0.Leader))=true then (some (false,
  v_0)) else (if (!(z7 v_1.N 0 30))=true then (some (false,v_0)) else ((yp k v_0 v_1.K v_1.N).bind fun v193=>(some (true,
  v193))))) else (if (decide (v_1.Kind=4))=true then (if ((!v27.2)||(decide (v_1.K=v_0.Leader)))=true then (some (false,
  v_0)) else ((qc7 v_0.InStep v27.1 (IntKind.wrap .i64 (v27.1+1))).bind fun v217=>(some (true,
  (Group.mk v_0.Epoch v_0.Leader v217 v_0.High v_0.Replicas))))) else (if (decide (v_1.Kind=5))=true then (if ((v27.2||(decide (x30.Epoch≠v_0.Epoch)))||(decide
  (x30.Known<v_0.High)))=true then (some (false,v_0)) else ((qdb v_0.InStep v27.1 [v_1.K]).bind fun v265=>(some (true,
  (Group.mk v_0.Epoch v_0.Leader v265.1 v_0.High v_0.Replicas))))) else (if (decide (v_1.Kind=6))=true then (jn (xn
  (fun i295 s351=>wg v_0 i295 s351.1 s351.2) (List.length v_0.InStep:Int) (31,
  v_0.Replicas)) (fun s375=>qcu v_0 v_1 s375.1 s375.2)) else (some (false,v_0))))))))))))

def qbi (k:Nat)(g_0:Group)(x_1:IsrStep) : Option (Group × Bool):=((ws k g_0).bind fun v17=>(if (!v17)=true then (some ((Group.mk 0 0 [] 0 []),
  false)) else ((qac g_0).bind fun v23=>((qa0 k v23 x_1).bind fun v45=>(if (!v45.1)=true then (some ((Group.mk 0 0 [] 0 []),
  false)) else (some (v45.2,true)))))))

def qbo (k:Nat)(g_0:Group)(x_1:IsrStep) : Option (Group × Bool):=((y7 k g_0).bind fun v17=>(if (!v17)=true then (some ((Group.mk 0 0 [] 0 []),
  false)) else ((xg g_0).bind fun v27=>((qbj k v27 x_1).bind fun v43=>(if (!v43.2)=true then (some ((Group.mk 0 0 [] 0 []),
  false)) else ((xg v43.1).bind fun v61=>(some (v61,true))))))))

def qbl (k:Nat)(code_0:List Int) : Option (Group × Int):=((qby k (L1Cur.mk code_0 0 0)).bind fun v9=>((kj v9.2 (IntKind.wrap .i64
  ((List.length v9.1.Replicas:Int)+1))).bind fun v30=>(some (v9.1,v30.1))))

def qbw (k:Nat)(g_0:Group)(replica_1:Int) : Option (Int × Bool):=((y7 k g_0).bind fun v7=>(if (((!v7)||(decide (replica_1<0)))||(decide
  ((List.length g_0.Replicas:Int)≤replica_1)))=true then (some (0,
  false)) else ((zy g_0.Replicas g_0.Leader).bind fun x29=>((zy g_0.Replicas replica_1).bind fun x32=>((wh k x32.Log x29.Log).bind fun v35=>(some
  ((IntKind.wrap .i64 ((List.length x29.Log:Int) - v35)),true)))))))

def qaz (k:Nat)(code_0:List Int) : Option Group:=((qby k (L1Cur.mk code_0 0 0)).bind fun v9=>(some v9.1))

def xm (k:Nat)(code_0:List Int) : Option Group:=((qaz k code_0).bind fun v5=>(some v5))

def xa (k:Nat)(g_0:Group) : Option ((List Row) × Bool):=((y7 k g_0).bind fun v7=>(if (!v7)=true then (some ([],
  false)) else ((zy g_0.Replicas g_0.Leader).bind fun x17=>((sl x17.Log 0 g_0.High).bind fun l20=>((ki 16 ([] : List Row) l20).bind fun l23=>(some (l23,true)))))))

def u3 (code_0:List Int) : Option Int:=((kj (L1Cur.mk code_0 0 0) 7).bind fun v5=>(some v5.1))

def qaj (l5:List Replica)(i30:Nat)(s25:Group) : Option (Oc Group Group):=((ki 8 s25.InStep [(i30:Int)]).bind fun l58=>(some (.nxt
  (Group.mk s25.Epoch s25.Leader l58 s25.High l5))))
def qfq (l5:List Replica)(s71:Group)  : Option Group:=(some (Group.mk s71.Epoch s71.Leader s71.InStep s71.High l5))
def qb7 (replicas_0:Int) : Option Group:=((mkN 40 replicas_0 (Replica.mk [] (0:Int) (0:Int))).bind fun l5=>(jn (xn
  (fun i30 s70=>qaj l5 i30 s70) replicas_0 (Group.mk 0 0 [] 0 l5)) (fun s83=>qfq l5 s83)))

def qb6 (replicas_0:Int) : Option (Group × Bool):=(if (!(z7 replicas_0 2 4))=true then (some ((Group.mk 0 0 [] 0 []),
  false)) else ((qb7 replicas_0).bind fun v8=>(some (v8,true))))

def u9 (k:Nat)(v_1:List Int)  : Option Bool:=((qbl k v_1).bind fun v191=>((qay k v191.1 v191.2).bind fun v202 =>
  ((qbw k v191.1 v191.2).bind fun v205=>((xm k v_1).bind fun v208=>((wz k v208).bind fun v232 =>
  ((qai k v208).bind fun v256=>((yg k v208).bind fun v280=>((xa k v208).bind fun v292 =>
  ((u3 v_1).bind fun v304=>((qb6 v304).bind fun v307=>((yv k v304).bind fun v318=>((if ((((v202.2 == v205.2)&&(decide
  (v202.1=v205.1)))&&(v232.2.2 == v256.2.2))&&(decide (v232.2.1=v256.2.1)))=true then ((xh v232.1 v256.1).bind fun v402=>(some v402)) else
  (some false)).bind fun v402=>((if (v402&&(v280.2 == v292.2))=true then ((u2 v280.1 v292.1).bind fun v438=>(some v438)) else (some false)).bind fun v438 =>
  ((if (v438&&(v307.2 == v318.2))=true then ((xh v307.1 v318.1).bind fun v466=>(some v466)) else (some false)).bind fun v466=>(some v466)))))))))))))))
def u4 (k:Nat)(v_0:List Int)(v_1:List Int) : Option Bool:=(if (decide ((1048576:Int)<(IntKind.wrap .i64 ((List.length v_0:Int) +
  (List.length v_1:Int)))))=true then (some true) else ((uk k v_0).bind fun v2=>((qbi k v2.1 v2.2).bind fun v34 =>
  ((qbo k v2.1 v2.2).bind fun v58=>(if (!(v34.2 == v58.2))=true then (some false) else ((xh v34.1 v58.1).bind fun v83=>(if (!v83)=true then
  (some false) else ((ue k v2.1).bind fun v87=>((y7 k v2.1).bind fun v90=>(if (!(v87 == v90))=true then (some false) else (jn
  (if v34.2=true then ((yg k v2.1).bind fun v102=>((yg k v34.1).bind fun v114=>((ue k v34.1).bind fun v126=>((if
  ((((!v126)||(!v102.2))||(!v114.2))||(decide ((List.length v114.1:Int)<(List.length v102.1:Int))))=true then (some true) else ((sl v114.1 0
  (List.length v102.1:Int)).bind fun l163=>((u2 v102.1 l163).bind fun v170=>(some (!v170))))).bind fun v163=>(if v163=true then (some (.ret false)) else
  (some (.nxt ()))))))) else (some (.nxt ()))) (fun _=>u9 k v_1 ))))))))))))
end Go.Proofs.Ytefgfcalgjmhjaa.X
