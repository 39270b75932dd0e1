/- The seat's types and functions, as plain Lean has them. -/
import Derived.Test.YtefgfcalgjmhjaaZIns
set_option linter.unusedVariables false
set_option linter.unusedSimpArgs false
set_option maxRecDepth 100000
namespace Go.Proofs.Ytefgfcalgjmhjaa.X
open Go
open Nat (reduceEqDiff)
structure BoundsError where
 x:Int
 y:Int
 signed:Bool
 code:Int
 deriving DecidableEq,Inhabited
def BoundsError.cells (x:BoundsError) : List XV:=[.int .i64 x.x,.int .i64 x.y,.bool x.signed,.int .u8 x.code]
structure Row where
 Epoch:Int
 Value:Int
 deriving DecidableEq,Inhabited
def Row.cells (x:Row) : List XV:=[.int .i64 x.Epoch,.int .i64 x.Value]
structure Replica where
 Log:List Row
 Epoch:Int
 Known:Int
 deriving DecidableEq,Inhabited
def Replica.cells (x:Replica) : List XV:=[lst Row.cells x.Log,.int .i64 x.Epoch,.int .i64 x.Known]
structure Group where
 Epoch:Int
 Leader:Int
 InStep:List Int
 High:Int
 Replicas:List Replica
 deriving DecidableEq,Inhabited
def Group.cells (x:Group) : List XV:=[.int .i64 x.Epoch,.int .i64 x.Leader,lst cI x.InStep,.int .i64 x.High,lst Replica.cells x.Replicas]
structure IsrStep where
 Kind:Int
 K:Int
 N:Int
 deriving DecidableEq,Inhabited
def IsrStep.cells (x:IsrStep) : List XV:=[.int .i64 x.Kind,.int .i64 x.K,.int .i64 x.N]
structure L1Cur where
 code:List Int
 at_:Int
 seed:Int
 deriving DecidableEq,Inhabited
def L1Cur.cells (x:L1Cur) : List XV:=[lst cU8 x.code,.int .i64 x.at_,.int .u64 x.seed]

def qb3 (s_0:List Int)(i_1:Int)(v_2:List Int) : Option (List Int × List Int):=qjo s_0 i_1 v_2

def zp (n_0:Int)(low_1:Int)(high_2:Int) : Bool:=((decide (low_1≤n_0))&&(decide (n_0≤high_2)))

def wo (x7:Replica)(x10:Replica)(s14:Int) : Option (Oc Int Int):=((if (decide (s14<(mnI (List.length x7.Log:Int)
  (List.length x10.Log:Int))))=true then ((zy x7.Log s14).bind fun x39=>((zy x10.Log s14).bind fun x42=>(some ((x39.Epoch == x42.Epoch) &&
  ((x39.Value == x42.Value)&&true))))) else (some false)).bind fun v39=>(if v39=true then (some (.nxt (IntKind.wrap .i64 (s14+1)))) else (some (.brk s14))))
def qc2 (s61:Int)  : Option Int:=(some s61)
def kn (k:Nat)(g_0:Group)(k_1:Int) : Option Int:=((zy g_0.Replicas k_1).bind fun x7=>((zy g_0.Replicas g_0.Leader).bind fun x10=>(jn (xe
  (fun s60=>wo x7 x10 s60) k 0) (fun s68=>qc2 s68))))

def qaa (list_0:List Int)(many_1:Int)(i1:Nat)(x2:Int) : Option (Oc Unit Bool):=((if (!(zp x2 0 (IntKind.wrap .i64 (many_1 - 1))))=true then
  (some true) else ((if (decide ((0:Int)<(i1:Int)))=true then ((zy list_0 (IntKind.wrap .i64 ((i1:Int) - 1))).bind fun x30=>(some (decide (x2≤x30)))) else
  (some false)).bind fun v30=>(some v30))).bind fun v27=>(if v27=true then (some (.ret false)) else (some (.nxt ()))))
def qdy  : Option Bool:=(some true)
def uz (list_0:List Int)(many_1:Int) : Option Bool:=(jn (jv (fun i1 x2 _=>qaa list_0 many_1 i1 x2 ) list_0 ())
  (fun _=>qdy ))

def wy (v_1:Int)(i1:Nat)(x2:Int) : Option (Oc Unit Int):=(if (decide (v_1=x2))=true then (some (.ret (i1:Int))) else (some (.nxt ())))
def qc5  : Option Int:=(some (-1))
def qa0 (s_0:List Int)(v_1:Int) : Option Int:=(jn (jv (fun i1 x2 _=>wy v_1 i1 x2 ) s_0 ()) (fun _=>qc5 ))

def ky (s_0:List Int)(v_1:Int) : Option Bool:=((qa0 s_0 v_1).bind fun v1=>(some (decide ((0:Int)≤v1))))

def uc (most_1:Int)(i3:Nat)(x4:Row)(s2:Int) : Option (Oc Int Bool):=(if ((!(zp x4.Epoch s2 most_1))||(!(zp x4.Value 0 99)))=true then (some
  (.ret false)) else (some (.nxt x4.Epoch)))
def qfr (l_0:List Row)(s54:Int)  : Option Bool:=(some (decide ((List.length l_0:Int)≤30)))
def qb6 (l_0:List Row)(most_1:Int) : Option Bool:=(jn (jv (fun i3 x4 s53=>uc most_1 i3 x4 s53) l_0 0) (fun s62=>qfr l_0 s62))

def u0 (k:Nat)(v_0:Group)(i66:Nat)(x67:Replica) : Option (Oc Unit Bool):=((qb6 x67.Log v_0.Epoch).bind fun v96=>(if (!v96)=true then (some
  (.ret false)) else (if (!(zp x67.Epoch 0 v_0.Epoch))=true then (some (.ret false)) else (if (!(zp x67.Known 0 (List.length x67.Log:Int)))=true then (some
  (.ret false)) else (if (decide (x67.Epoch=v_0.Epoch))=true then ((kn k v_0 (i66:Int)).bind fun v112=>(if (decide (v112<x67.Known))=true then (some
  (.ret false)) else ((ky v_0.InStep (i66:Int)).bind fun v119=>(if v119=true then ((kn k v_0 (i66:Int)).bind fun v123=>(if (decide
  (v123<v_0.High))=true then (some (.ret false)) else (some (.nxt ())))) else (some (.nxt ())))))) else ((ky v_0.InStep (i66:Int)).bind fun v132 =>
  (if v132=true then ((kn k v_0 (i66:Int)).bind fun v136=>(if (decide (v136<v_0.High))=true then (some (.ret false)) else (some (.nxt ())))) else (some
  (.nxt ())))))))))
def qff  : Option Bool:=(some true)
def ws (k:Nat)(v_0:Group) : Option Bool:=((if (((!(zp (List.length v_0.Replicas:Int) 2 4))||(!(zp v_0.Epoch 0 100)))||(!(zp v_0.Leader 0
  (IntKind.wrap .i64 ((List.length v_0.Replicas:Int) - 1)))))=true then (some true) else ((uz v_0.InStep (List.length v_0.Replicas:Int)).bind fun v28 =>
  (some (!v28)))).bind fun v28=>((if v28=true then (some true) else ((ky v_0.InStep v_0.Leader).bind fun v44=>(some (!v44)))).bind fun v44=>(if (v44 ||
  (decide (v_0.High<0)))=true then (some false) else (jn (jv (fun i66 x67 _=>u0 k v_0 i66 x67 ) v_0.Replicas ()) (fun _=>qff )))))

def qak (l21:List Int)(i43:Nat)(x44:Replica)(s38:Group) : Option (Oc Group Group):=((j7 16 ([] : List Row) x44.Log).bind fun l78 =>
  ((j7 40 s38.Replicas [(Replica.mk l78 x44.Epoch x44.Known)]).bind fun l95=>(some (.nxt (Group.mk s38.Epoch s38.Leader l21 s38.High l95)))))
def qd8 (l21:List Int)(s108:Group)  : Option Group:=(some (Group.mk s108.Epoch s108.Leader l21 s108.High s108.Replicas))
def qas (g_0:Group) : Option Group:=((j7 8 ([] : List Int) g_0.InStep).bind fun l21=>(jn (jv
  (fun i43 x44 s107=>qak l21 i43 x44 s107) g_0.Replicas (Group.mk g_0.Epoch g_0.Leader l21 g_0.High [])) (fun s121=>qd8 l21 s121)))

def j8 (g_0:Group)(k_1:Int) : Option Group:=((zy g_0.Replicas k_1).bind fun x1=>(some (Group.mk g_0.Epoch g_0.Leader g_0.InStep g_0.High
  (List.set g_0.Replicas k_1.toNat (Replica.mk x1.Log g_0.Epoch (List.length x1.Log:Int))))))

def yc (k:Nat)(g_0:Group)(k_1:Int)(many_2:Int) : Option Group:=((kn k g_0 k_1).bind fun v1 =>
  ((zy g_0.Replicas g_0.Leader).bind fun x4=>((sl x4.Log v1 (List.length x4.Log)).bind fun l20=>((zy g_0.Replicas k_1).bind fun x27=>(ck (g_0.Leader≠k_1)
  ((sl x27.Log 0 v1).bind fun l50=>((j7 16 ([] : List Row) l50).bind fun l57=>((sl l20 0 (mnI many_2 (List.length l20:Int))).bind fun l66 =>
  ((j7 16 l57 l66).bind fun l73=>((j8 (Group.mk g_0.Epoch g_0.Leader g_0.InStep g_0.High (List.set g_0.Replicas k_1.toNat
  (Replica.mk l73 x27.Epoch x27.Known))) k_1).bind fun v95=>(some v95)))))))))))

def ut (i57:Nat)(s80:Group)(s81:List Int)(s84:List Replica)  : Option (Oc (Group × (List Replica)) (Group × Int × Bool)) :=
  ((j7 8 s81 [(i57:Int)]).bind fun l131=>(some (.nxt ((Group.mk s80.Epoch s80.Leader l131 s80.High s84),s84))))
def ym (k:Nat)(i57:Nat)(s49:Group)(s54:List Replica) : Option (Oc (Group × (List Replica)) (Group × Int × Bool)):=((if (decide
  ((i57:Int)=s49.Leader))=true then ((j8 (Group.mk s49.Epoch s49.Leader s49.InStep s49.High s54) (i57:Int)).bind fun v96=>(some (v96,v96.InStep,
  v96.Replicas))) else ((yc k (Group.mk s49.Epoch s49.Leader s49.InStep s49.High s54) (i57:Int) 30).bind fun v106=>(some (v106,v106.InStep,
  v106.Replicas)))).bind (fun s143=>ut i57 s143.1 s143.2.1 s143.2.2))
def qbe (g_0:Group)(s145:Group)(s150:List Replica)  : Option (Group × Int × Bool):=((zy s150 s145.Leader).bind fun x159=>(some
  ((Group.mk s145.Epoch s145.Leader s145.InStep (List.length x159.Log:Int) s150),(IntKind.wrap .i64 ((List.length x159.Log:Int) - g_0.High)),true)))
def uq (k:Nat)(g_0:Group) : Option (Group × Int × Bool):=((ws k g_0).bind fun v11=>(if (!v11)=true then (some ((Group.mk 0 0 [] 0 []),0,
  false)) else ((qas g_0).bind fun v17=>(jn (wz (fun i57 s144=>ym k i57 s144.1 s144.2) (List.length v17.Replicas:Int)
  ((Group.mk v17.Epoch v17.Leader [] v17.High v17.Replicas),v17.Replicas)) (fun s183=>qbe g_0 s183.1 s183.2)))))

def qct (c_0:L1Cur)(s1:Int)  : Option (Int × L1Cur):=(if (decide ((IntKind.wrap .i64 (c_0.at_+1))≤(List.length c_0.code:Int)))=true then (some (s1,
  (L1Cur.mk c_0.code (IntKind.wrap .i64 (c_0.at_+1)) (IntKind.wrap .u64 ((IntKind.wrap .u64 ((IntKind.wrap .u64 (c_0.seed*6364136223846793005)) +
  (IntKind.wrap .u64 s1)))+1442695040888963407))))) else (some ((IntKind.wrap .i64 (qjx .u64 (qf5 .u64 (IntKind.wrap .u64 ((IntKind.wrap .u64 ((IntKind.wrap .u64
  (c_0.seed*6364136223846793005))+(IntKind.wrap .u64 s1)))+1442695040888963407)) 40) 255)),
  (L1Cur.mk c_0.code (IntKind.wrap .i64 (c_0.at_+1)) (IntKind.wrap .u64 ((IntKind.wrap .u64 ((IntKind.wrap .u64 (c_0.seed*6364136223846793005)) +
  (IntKind.wrap .u64 s1)))+1442695040888963407))))))
def qck (c_0:L1Cur) : Option (Int × L1Cur):=((if (decide (c_0.at_<(List.length c_0.code:Int)))=true then ((zy c_0.code c_0.at_).bind fun x10=>(some
  (IntKind.wrap .i64 x10))) else (some 0)).bind (fun s25=>qct c_0 s25))

def yk (c_0:L1Cur)(n_1:Int) : Option (Int × L1Cur):=(if (decide (n_1≤1))=true then (some (0,
  c_0)) else ((qck c_0).bind fun v2=>(if (decide ((200:Int)<n_1))=true then ((qck v2.2).bind fun v8=>(ck (n_1≠0) (some ((Int.tmod (IntKind.wrap .i64
  ((IntKind.wrap .i64 (v2.1*256))+v8.1)) n_1),v8.2)))) else (ck (n_1≠0) (some ((Int.tmod v2.1 n_1),v2.2))))))

def qc8 (c_0:L1Cur)(n_1:Int) : Option (Bool × L1Cur):=((yk c_0 n_1).bind fun v1=>(some ((decide (v1.1=0)),v1.2)))

def qcu (c_0:L1Cur)(list_1:List Int) : Option (Int × L1Cur × (List Int)):=((yk c_0 (List.length list_1:Int)).bind fun v1 =>
  ((zy list_1 v1.1).bind fun x6=>(some (x6,v1.2,list_1))))

def qay (replicas_1:Int)(v79:Int × L1Cur × (List Int))(s125:Bool)  : Option (L1Cur × IsrStep):=(if s125=true then
  ((yk v79.2.1 replicas_1).bind fun v148=>(some (v148.2,(IsrStep.mk v79.1 v148.1 0)))) else (some (v79.2.1,(IsrStep.mk v79.1 0 0))))
def qau (s43:List IsrStep)(s48:Int)(s171:L1Cur)(s172:IsrStep)  : Option (Oc ((List IsrStep) × Int × L1Cur) ((List IsrStep) × L1Cur)) :=
  ((j7 24 s43 [s172]).bind fun l215=>(some (.nxt (l215,(IntKind.wrap .i64 (s48 - 1)),s171))))
def ul (s43:List IsrStep)(s48:Int)(s92:L1Cur)(s93:IsrStep)  : Option (Oc ((List IsrStep) × Int × L1Cur) ((List IsrStep) × L1Cur)) :=
  ((qc8 s92 60).bind fun v166=>((if v166.1=true then ((yk v166.2 8).bind fun v182=>((yk v182.2 6).bind fun v187 =>
  ((yk v187.2 40).bind fun v192=>(some (v192.2,(IsrStep.mk v182.1 (IntKind.wrap .i64 (v187.1 - 1)) (IntKind.wrap .i64 (v192.1 - 1)))))))) else (some (v166.2,
  s93))).bind (fun s225=>qau s43 s48 s225.1 s225.2)))
def wh (replicas_1:Int)(s43:List IsrStep)(s48:Int)(s49:L1Cur) : Option (Oc ((List IsrStep) × Int × L1Cur) ((List IsrStep) × L1Cur)):=(if (decide
  ((0:Int)<s48))=true then ((qcu s49 [1,2,2,2,3,3,3,3,4,5,6,6,
  6]).bind fun v79=>((if (decide (v79.1=2))=true then ((yk v79.2.1 9).bind fun v103=>(some (v103.2,
  (IsrStep.mk v79.1 0 v103.1)))) else (if (decide (v79.1=3))=true then ((yk v79.2.1 replicas_1).bind fun v112=>((yk v112.2 4).bind fun v117=>(some (v117.2,
  (IsrStep.mk 3 v112.1 v117.1))))) else ((if (decide (v79.1=1))=true then (some (decide (v79.1=1))) else (if (decide (v79.1=4))=true then (some (decide
  (v79.1=4))) else (some (decide (v79.1=5))))).bind (fun s157=>qay replicas_1 v79 s157)))).bind (fun s226=>ul s43 s48 s226.1 s226.2))) else
  (some (.brk (s43,s48,s49))))
def qax (s229:List IsrStep)(s234:Int)(s235:L1Cur)  : Option ((List IsrStep) × L1Cur):=(some (s229,s235))
def qci (k:Nat)(replicas_1:Int)(s11:Int)(s12:L1Cur)  : Option ((List IsrStep) × L1Cur):=(jn (xe
  (fun s228=>wh replicas_1 s228.1 s228.2.1 s228.2.2) k (([],s11,s12) : (List IsrStep) × Int × L1Cur)) (fun s243=>qax s243.1 s243.2.1 s243.2.2))
def ux (k:Nat)(c_0:L1Cur)(replicas_1:Int) : Option ((List IsrStep) × L1Cur):=((yk c_0 40).bind fun v1=>((qc8 v1.2 8).bind fun v6 =>
  ((if v6.1=true then ((yk v6.2 12).bind fun v22=>(some ((IntKind.wrap .i64 ((90:Int)+v22.1)),v22.2))) else (some (v1.1,
  v6.2))).bind (fun s244=>qci k replicas_1 s244.1 s244.2))))

def xh (k:Nat)(code_0:List Int) : Option (Int × (List IsrStep)):=((yk (L1Cur.mk code_0 0 0) 3).bind fun v5=>((ux k v5.2
  (IntKind.wrap .i64 ((2:Int)+v5.1))).bind fun v10=>(some ((IntKind.wrap .i64 ((2:Int)+v5.1)),v10.1))))

def uh (l5:List Replica)(i30:Nat)(s25:Group) : Option (Oc Group Group):=((j7 8 s25.InStep [(i30:Int)]).bind fun l58=>(some (.nxt
  (Group.mk s25.Epoch s25.Leader l58 s25.High l5))))
def qer (l5:List Replica)(s71:Group)  : Option Group:=(some (Group.mk s71.Epoch s71.Leader s71.InStep s71.High l5))
def qa7 (replicas_0:Int) : Option Group:=((mkN 40 replicas_0 (Replica.mk [] (0:Int) (0:Int))).bind fun l5=>(jn (wz
  (fun i30 s70=>uh l5 i30 s70) replicas_0 (Group.mk 0 0 [] 0 l5)) (fun s83=>qer l5 s83)))

def k5 (x_0:Int) : Bool:=(decide (x_0≠x_0))

def qat (x_0:Int)(y_1:Int) : Bool:=(((k5 x_0)&&(!(k5 y_1)))||(decide (x_0<y_1)))

def yu (x_0:Int) : Bool:=(decide (x_0≠x_0))

def ye (x_0:List Int)(target_1:Int)(s3:Int)(s4:Int) : Option (Oc (Int × Int) (Int × Bool)):=(if (decide (s3<s4))=true then ((zy x_0
  (IntKind.wrap .i64 (qf5 .u64 (IntKind.wrap .u64 (IntKind.wrap .i64 (s3+s4))) 1))).bind fun x29=>(if (qat x29 target_1)=true then (some (.nxt
  ((IntKind.wrap .i64 ((IntKind.wrap .i64 (qf5 .u64 (IntKind.wrap .u64 (IntKind.wrap .i64 (s3+s4))) 1))+1)),s4))) else (some (.nxt (s3,
  (IntKind.wrap .i64 (qf5 .u64 (IntKind.wrap .u64 (IntKind.wrap .i64 (s3+s4))) 1))))))) else (some (.brk (s3,s4))))
def x5 (x_0:List Int)(target_1:Int)(s37:Int)(s38:Int)  : Option (Int × Bool):=((if (decide (s37<(List.length x_0:Int)))=true then
  ((zy x_0 s37).bind fun x50=>((if (decide (x50=target_1))=true then (some true) else ((zy x_0 s37).bind fun x56=>(some ((yu x56) &&
  (yu target_1))))).bind fun v56=>(some v56))) else (some false)).bind fun v50=>(some (s37,v50)))
def y9 (k:Nat)(x_0:List Int)(target_1:Int) : Option (Int × Bool):=(jn (xe (fun s36=>ye x_0 target_1 s36.1 s36.2) k (0,
  (List.length x_0:Int))) (fun s90=>x5 x_0 target_1 s90.1 s90.2))

def qb1 (s_0:List Int)(i_1:Int)(j_2:Int) : Option (List Int):=qjd s_0 i_1 j_2

def yq (v_0:Group)(i295:Nat)(s291:Int)(s292:List Replica) : Option (Oc (Int × (List Replica)) (Bool × Group)):=((zy v_0.InStep
  (i295:Int)).bind fun x319=>((zy s292 x319).bind fun x324=>(if (decide (x324.Epoch≠v_0.Epoch))=true then (some (.ret (false,
  (Group.mk v_0.Epoch v_0.Leader v_0.InStep v_0.High s292)))) else (some (.nxt ((mnI s291 x324.Known),s292))))))
def qbj (v_0:Group)(v_1:IsrStep)(s352:Int)(s353:List Replica)  : Option (Bool × Group):=(if ((decide (v_1.K≠0))||(decide
  (s352≤v_0.High)))=true then (some (false,(Group.mk v_0.Epoch v_0.Leader v_0.InStep v_0.High s353))) else (some (true,
  (Group.mk v_0.Epoch v_0.Leader v_0.InStep s352 s353))))
def u5 (k:Nat)(v_0:Group)(v_1:IsrStep) : Option (Bool × Group):=(if (((decide (v_1.Kind≠2))&&(decide (v_1.Kind≠3)))&&(decide
  (v_1.N≠0)))=true then (some (false,v_0)) else (if (!(zp v_1.K 0 (IntKind.wrap .i64 ((List.length v_0.Replicas:Int) - 1))))=true then (some (false,
  v_0)) else ((y9 k v_0.InStep v_1.K).bind fun v27=>((zy v_0.Replicas v_1.K).bind fun x30=>(if (decide (v_1.Kind=1))=true then (if ((!v27.2) ||
  (decide (v_0.Epoch=100)))=true then (some (false,
  v_0)) else ((j8 (Group.mk (IntKind.wrap .i64 (v_0.Epoch+1)) v_1.K v_0.InStep v_0.High v_0.Replicas) v_1.K).bind fun v77=>(some (true,
  v77)))) else (if (decide (v_1.Kind=2))=true then ((zy v_0.Replicas v_0.Leader).bind fun x87=>(if (((decide (v_1.K≠0))||(!(zp v_1.N 0 99)))||(decide
  ((List.length x87.Log:Int)=30)))=true then (some (false,
  v_0)) else ((j7 16 x87.Log [(Row.mk v_0.Epoch v_1.N)]).bind fun l151=>((j8 (Group.mk v_0.Epoch v_0.Leader v_0.InStep v_0.High
  (List.set v_0.Replicas v_0.Leader.toNat (Replica.mk l151 x87.Epoch x87.Known))) v_0.Leader).bind fun v169=>(some (true,
  v169)))))) else (if (decide (v_1.Kind=3))=true then (if (decide (v_1.K=v_0.Leader))=true then (some (false,
  v_0)) else (if (!(zp v_1.N 0 30))=true then (some (false,v_0)) else ((yc k v_0 v_1.K v_1.N).bind fun v193=>(some (true,
  v193))))) else (if (decide (v_1.Kind=4))=true then (if ((!v27.2)||(decide (v_1.K=v_0.Leader)))=true then (some (false,
  v_0)) else ((qb1 v_0.InStep v27.1 (IntKind.wrap .i64 (v27.1+1))).bind fun v217=>(some (true,
  (Group.mk v_0.Epoch v_0.Leader v217 v_0.High v_0.Replicas))))) else (if (decide (v_1.Kind=5))=true then (if ((v27.2||(decide (x30.Epoch≠v_0.Epoch)))||(decide
  (x30.Known<v_0.High)))=true then (some (false,v_0)) else ((qb3 v_0.InStep v27.1 [v_1.K]).bind fun v265=>(some (true,
  (Group.mk v_0.Epoch v_0.Leader v265.1 v_0.High v_0.Replicas))))) else (if (decide (v_1.Kind=6))=true then (jn (wz
  (fun i295 s351=>yq v_0 i295 s351.1 s351.2) (List.length v_0.InStep:Int) (31,
  v_0.Replicas)) (fun s375=>qbj v_0 v_1 s375.1 s375.2)) else (some (false,v_0))))))))))))

def ub (k:Nat)(i72:Nat)(x73:IsrStep)(s59:List Bool)(s64:Group)(s69:List Replica) : Option (Oc ((List Bool) × Group × (List Replica)) (Group ×
  (List Bool) × Bool)):=((u5 k (Group.mk s64.Epoch s64.Leader s64.InStep s64.High s69) x73).bind fun v104=>((j7 1 s59 [v104.1]).bind fun l121=>(some (.nxt
  (l121,v104.2,v104.2.Replicas)))))
def qd7 (s132:List Bool)(s137:Group)(s142:List Replica)  : Option (Group × (List Bool) × Bool):=(some
  ((Group.mk s137.Epoch s137.Leader s137.InStep s137.High s142),s132,true))
def yg (k:Nat)(replicas_0:Int)(l_1:List IsrStep) : Option (Group × (List Bool) × Bool):=(if ((!(zp replicas_0 2 4))||(decide ((100:Int) <
  (List.length l_1:Int))))=true then (some ((Group.mk 0 0 [] 0 []),[],
  false)) else ((qa7 replicas_0).bind fun v18=>(jn (jv (fun i72 x73 s131=>ub k i72 x73 s131.1 s131.2.1 s131.2.2) l_1 (([] : List Bool),v18,
  v18.Replicas)) (fun s154=>qd7 s154.1 s154.2.1 s154.2.2))))

def kj (n_0:Int)(lo_1:Int)(hi_2:Int) : Bool:=((decide (lo_1≤n_0))&&(decide (n_0≤hi_2)))

def uj (replicas_0:Int)(l8:List Replica)(s29:Int)(s30:Group) : Option (Oc (Int × Group) (Group × Bool)):=(if (decide (s29<replicas_0))=true then
  ((j7 8 s30.InStep [s29]).bind fun l64=>(some (.nxt ((IntKind.wrap .i64 (s29+1)),(Group.mk s30.Epoch s30.Leader l64 s30.High l8))))) else (some (.brk (s29,
  (Group.mk s30.Epoch s30.Leader s30.InStep s30.High l8)))))
def qev (l8:List Replica)(s78:Int)(s79:Group)  : Option (Group × Bool):=(some ((Group.mk s79.Epoch s79.Leader s79.InStep s79.High l8),true))
def wg (k:Nat)(replicas_0:Int) : Option (Group × Bool):=(if (!(kj replicas_0 2 4))=true then (some ((Group.mk 0 0 [] 0 []),
  false)) else ((mkN 40 replicas_0 (Replica.mk [] (0:Int) (0:Int))).bind fun l8=>(jn (xe (fun s77=>uj replicas_0 l8 s77.1 s77.2) k (0,
  (Group.mk 0 0 [] 0 l8))) (fun s93=>qev l8 s93.1 s93.2))))

def qbu (l21:List Int)(i43:Nat)(x44:Replica)(s38:Group) : Option (Oc Group Group):=((j7 16 ([] : List Row) x44.Log).bind fun l78 =>
  ((j7 40 s38.Replicas [(Replica.mk l78 x44.Epoch x44.Known)]).bind fun l95=>(some (.nxt (Group.mk s38.Epoch s38.Leader l21 s38.High l95)))))
def qfv (l21:List Int)(s108:Group)  : Option Group:=(some (Group.mk s108.Epoch s108.Leader l21 s108.High s108.Replicas))
def qba (g_0:Group) : Option Group:=((j7 8 ([] : List Int) g_0.InStep).bind fun l21=>(jn (jv
  (fun i43 x44 s107=>qbu l21 i43 x44 s107) g_0.Replicas (Group.mk g_0.Epoch g_0.Leader l21 g_0.High [])) (fun s121=>qfv l21 s121)))

def u7 (a_0:List Row)(b_1:List Row)(s2:Int) : Option (Oc Int Int):=((if ((decide (s2<(List.length a_0:Int)))&&(decide (s2 <
  (List.length b_1:Int))))=true then ((zy a_0 s2).bind fun x37=>((zy b_1 s2).bind fun x40=>(some ((x37.Epoch == x40.Epoch) &&
  ((x37.Value == x40.Value)&&true))))) else (some false)).bind fun v37=>(if v37=true then (some (.nxt (IntKind.wrap .i64 (s2+1)))) else (some (.brk s2))))
def qe6 (s59:Int)  : Option Int:=(some s59)
def qan (k:Nat)(a_0:List Row)(b_1:List Row) : Option Int:=(jn (xe (fun s58=>u7 a_0 b_1 s58) k 0) (fun s66=>qe6 s66))

def um (g_0:Group)(k_1:Int)(x11:Replica)(v50:Int)(s53:Int)  : Option Group:=((sl x11.Log 0 (IntKind.wrap .i64 (v50+s53))).bind fun l80 =>
  ((j7 16 ([] : List Row) l80).bind fun l87=>(some (Group.mk g_0.Epoch g_0.Leader g_0.InStep g_0.High (List.set g_0.Replicas k_1.toNat (Replica.mk l87 g_0.Epoch
  (List.length l87:Int)))))))
def xy (k:Nat)(g_0:Group)(k_1:Int)(n_2:Int) : Option Group:=((zy g_0.Replicas g_0.Leader).bind fun x11=>((zy g_0.Replicas k_1).bind fun x27=>(ck
  (g_0.Leader≠k_1) ((qan k x27.Log x11.Log).bind fun v50=>((if (decide ((IntKind.wrap .i64 ((List.length x11.Log:Int) - v50))<n_2))=true then (some
  (IntKind.wrap .i64 ((List.length x11.Log:Int) - v50))) else (some n_2)).bind (fun s117=>um g_0 k_1 x11 v50 s117))))))

def qb9 (l_0:List Int)(n_1:Int)(s2:Int) : Option (Oc Int (List Int)):=((if (decide (s2<(List.length l_0:Int)))=true then ((zy l_0 s2).bind fun x27 =>
  (some (decide (x27<n_1)))) else (some false)).bind fun v27=>(if v27=true then (some (.nxt (IntKind.wrap .i64 (s2+1)))) else (some (.brk s2))))
def qd2 (l_0:List Int)(n_1:Int)(s48:Int)  : Option (List Int):=((if (decide (s48<(List.length l_0:Int)))=true then ((zy l_0 s48).bind fun x58=>(some
  (decide (x58=n_1)))) else (some false)).bind fun v58=>(if v58=true then (some l_0) else ((sl l_0 0 s48).bind fun l76=>((j7 8 ([] : List Int) l76).bind fun l83 =>
  ((j7 8 l83 [n_1]).bind fun l98=>((sl l_0 s48 (List.length l_0)).bind fun l107=>((j7 8 l98 l107).bind fun l114=>(some l114))))))))
def qcw (k:Nat)(l_0:List Int)(n_1:Int) : Option (List Int):=(jn (xe (fun s47=>qb9 l_0 n_1 s47) k 0) (fun s123=>qd2 l_0 n_1 s123))

def kc (g_0:Group)(i9:Nat)(x10:Int)(s8:Int) : Option (Oc Int Int):=((zy g_0.Replicas x10).bind fun x32=>(if (decide
  (x32.Epoch≠g_0.Epoch))=true then (some (.ret (-1))) else (if (decide (x32.Known<s8))=true then (some (.nxt x32.Known)) else (some (.nxt s8)))))
def qex (s51:Int)  : Option Int:=(some s51)
def xx (g_0:Group) : Option Int:=(jn (jv (fun i9 x10 s50=>kc g_0 i9 x10 s50) g_0.InStep 30) (fun s58=>qex s58))

def qcc (n_1:Int)(i1:Nat)(x2:Int) : Option (Oc Unit Bool):=(if (decide (x2=n_1))=true then (some (.ret true)) else (some (.nxt ())))
def qgo  : Option Bool:=(some false)
def qcx (l_0:List Int)(n_1:Int) : Option Bool:=(jn (jv (fun i1 x2 _=>qcc n_1 i1 x2 ) l_0 ()) (fun _=>qgo ))

def xp (v_0:Group)(v_1:IsrStep)(i309:Nat)(s304:List Int) : Option (Oc (List Int) (Group × Bool)):=((zy v_0.InStep (i309:Int)).bind fun x334=>(if
  (decide (x334≠v_1.K))=true then ((j7 8 s304 [x334]).bind fun l346=>(some (.nxt l346))) else (some (.nxt s304))))
def qfa (v_0:Group)(s358:List Int)  : Option (Group × Bool):=(some ((Group.mk v_0.Epoch v_0.Leader s358 v_0.High v_0.Replicas),true))
def qbg (k:Nat)(v_0:Group)(v_1:IsrStep) : Option (Group × Bool):=((qcx v_0.InStep v_1.K).bind fun v15=>((zy v_0.Replicas v_0.Leader).bind fun x29 =>
  (if ((((decide (v_1.Kind=1))&&v15)&&(decide (v_1.N=0)))&&(decide (v_0.Epoch<100)))=true then ((zy v_0.Replicas v_1.K).bind fun x95=>(some ((Group.mk
  (IntKind.wrap .i64 (v_0.Epoch+1)) v_1.K v_0.InStep v_0.High (List.set v_0.Replicas v_1.K.toNat (Replica.mk x95.Log (IntKind.wrap .i64 (v_0.Epoch+1))
  (List.length x95.Log:Int)))),true))) else (if ((((decide (v_1.Kind=2))&&(decide (v_1.K=0)))&&(kj v_1.N 0 99))&&(decide
  ((List.length x29.Log:Int)<30)))=true then ((j7 16 x29.Log [(Row.mk v_0.Epoch v_1.N)]).bind fun l180=>(some ((Group.mk v_0.Epoch v_0.Leader v_0.InStep v_0.High
  (List.set v_0.Replicas v_0.Leader.toNat (Replica.mk l180 v_0.Epoch (List.length l180:Int)))),
  true))) else (if ((((decide (v_1.Kind=3))&&((decide ((0:Int)≤v_1.K))&&(decide (v_1.K<(List.length v_0.Replicas:Int)))))&&(decide (v_1.K≠v_0.Leader))) &&
  (kj v_1.N 0 30))=true then ((xy k v_0 v_1.K v_1.N).bind fun v247=>(some (v247,
  true))) else (if ((((decide (v_1.Kind=4))&&v15)&&(decide (v_1.K≠v_0.Leader)))&&(decide (v_1.N=0)))=true then (jn (wz
  (fun i309 s357=>xp v_0 v_1 i309 s357) (List.length v_0.InStep:Int) ([] : (List Int))) (fun s375=>qfa v_0 s375)) else ((if ((((decide
  (v_1.Kind=5))&&((decide ((0:Int)≤v_1.K))&&(decide (v_1.K<(List.length v_0.Replicas:Int)))))&&(!v15))&&(decide (v_1.N=0)))=true then
  ((zy v_0.Replicas v_1.K).bind fun x410=>(some (decide (x410.Epoch=v_0.Epoch)))) else (some false)).bind fun v410=>((if v410=true then
  ((zy v_0.Replicas v_1.K).bind fun x443=>(some (decide (v_0.High≤x443.Known)))) else (some false)).bind fun v443=>(if v443=true then
  ((qcw k v_0.InStep v_1.K).bind fun v474=>(some ((Group.mk v_0.Epoch v_0.Leader v474 v_0.High v_0.Replicas),
  true))) else (if (((decide (v_1.Kind=6))&&(decide (v_1.K=0)))&&(decide (v_1.N=0)))=true then ((xx v_0).bind fun v515=>(if (decide
  (v_0.High<v515))=true then ((xx v_0).bind fun v519=>(some ((Group.mk v_0.Epoch v_0.Leader v_0.InStep v519 v_0.Replicas),true))) else (some (v_0,
  false)))) else (some (v_0,false))))))))))))

def qb2 (s54:List Bool)(v120:Group × Bool)(s135:Group)  : Option (Oc ((List Bool) × Group) (Group × (List Bool) × Bool)) :=
  ((j7 1 s54 [v120.2]).bind fun l172=>(some (.nxt (l172,s135))))
def x9 (k:Nat)(i68:Nat)(x69:IsrStep)(s54:List Bool)(s59:Group) : Option (Oc ((List Bool) × Group) (Group × (List Bool) × Bool)) :=
  ((qba s59).bind fun v104=>((qbg k v104 x69).bind fun v120=>((if v120.2=true then (some v120.1) else (some s59)).bind
  (fun s182=>qb2 s54 v120 s182))))
def qbz (s184:List Bool)(s189:Group)  : Option (Group × (List Bool) × Bool):=((qba s189).bind fun v205=>(some (v205,s184,true)))
def yh (k:Nat)(replicas_0:Int)(l_1:List IsrStep) : Option (Group × (List Bool) × Bool):=((wg k replicas_0).bind fun v5=>(if ((!v5.2)||(decide
  ((100:Int)<(List.length l_1:Int))))=true then (some ((Group.mk 0 0 [] 0 []),[],
  false)) else (jn (jv (fun i68 x69 s183=>x9 k i68 x69 s183.1 s183.2) l_1 (([],
  v5.1) : (List Bool) × Group)) (fun s223=>qbz s223.1 s223.2))))

def qah (b_1:List Bool)(i2:Nat)(x3:Bool) : Option (Oc Unit Bool):=((zy b_1 (i2:Int)).bind fun x24=>(if (!(x3 == x24))=true then (some
  (.ret false)) else (some (.nxt ()))))
def qd6  : Option Bool:=(some true)
def qal (a_0:List Bool)(b_1:List Bool) : Option Bool:=(if (decide ((List.length a_0:Int)≠(List.length b_1:Int)))=true then (some false) else (jn (jv
  (fun i2 x3 _=>qah b_1 i2 x3 ) a_0 ()) (fun _=>qd6 )))

def qaw (b_1:List Row)(i2:Nat)(x3:Row) : Option (Oc Unit Bool):=((zy b_1 (i2:Int)).bind fun x24=>(if (!((x3.Epoch == x24.Epoch) &&
  ((x3.Value == x24.Value)&&true)))=true then (some (.ret false)) else (some (.nxt ()))))
def qeq  : Option Bool:=(some true)
def wd (a_0:List Row)(b_1:List Row) : Option Bool:=(if (decide ((List.length a_0:Int)≠(List.length b_1:Int)))=true then (some false) else (jn (jv
  (fun i2 x3 _=>qaw b_1 i2 x3 ) a_0 ()) (fun _=>qeq )))

def uo (b_1:List Int)(i2:Nat)(x3:Int) : Option (Oc Unit Bool):=((zy b_1 (i2:Int)).bind fun x24=>(if (decide (x3≠x24))=true then (some
  (.ret false)) else (some (.nxt ()))))
def qe3  : Option Bool:=(some true)
def xz (a_0:List Int)(b_1:List Int) : Option Bool:=(if (decide ((List.length a_0:Int)≠(List.length b_1:Int)))=true then (some false) else (jn (jv
  (fun i2 x3 _=>uo b_1 i2 x3 ) a_0 ()) (fun _=>qe3 )))

def xg (v_0:Group)(v_1:Group)(i58:Nat) : Option (Oc Unit Bool):=((zy v_0.Replicas (i58:Int)).bind fun x80=>((zy v_1.Replicas
  (i58:Int)).bind fun x91=>((if ((decide (x80.Epoch≠x91.Epoch))||(decide (x80.Known≠x91.Known)))=true then (some true) else
  ((wd x80.Log x91.Log).bind fun v118=>(some (!v118)))).bind fun v118=>(if v118=true then (some (.ret false)) else (some (.nxt ()))))))
def qds  : Option Bool:=(some true)
def xm (v_0:Group)(v_1:Group) : Option Bool:=((if (((decide (v_0.Epoch≠v_1.Epoch))||(decide (v_0.Leader≠v_1.Leader)))||(decide
  (v_0.High≠v_1.High)))=true then (some true) else ((xz v_0.InStep v_1.InStep).bind fun v34=>(some (!v34)))).bind fun v34=>(if (v34||(decide
  ((List.length v_0.Replicas:Int)≠(List.length v_1.Replicas:Int))))=true then (some false) else (jn (wz (fun i58 _=>xg v_0 v_1 i58 )
  (List.length v_0.Replicas:Int) ()) (fun _=>qds ))))

def yw (k:Nat)(g_0:Group) : Option ((List Row) × Bool):=((ws k g_0).bind fun v7=>(if (!v7)=true then (some ([],
  false)) else ((zy g_0.Replicas g_0.Leader).bind fun x17=>((sl x17.Log 0 g_0.High).bind fun l20=>((j7 16 ([] : List Row) l20).bind fun l23=>(some (l23,true)))))))

def ud (k:Nat)(g_0:Group) : Option Bool:=((ws k g_0).bind fun v7=>(some v7))

def w7 (i3:Nat)(x4:Int)(s2:Int) : Option (Oc Int Int):=(some (.nxt (Int.tmod (IntKind.wrap .i64 ((IntKind.wrap .i64 ((31:Int)*s2)) +
  (IntKind.wrap .i64 x4))) 1000003)))
def qey (s27:Int)  : Option Int:=(some s27)
def qa2 (b_0:List Int) : Option Int:=(jn (jv (fun i3 x4 s26=>w7 i3 x4 s26) b_0 0) (fun s33=>qey s33))

def qc0 (k:Nat)(g_0:Group)(replica_1:Int) : Option (Int × Bool):=((ws k g_0).bind fun v7=>(if ((!v7)||(!(zp replica_1 0 (IntKind.wrap .i64
  ((List.length g_0.Replicas:Int) - 1)))))=true then (some (0,
  false)) else ((zy g_0.Replicas g_0.Leader).bind fun x20=>((kn k g_0 replica_1).bind fun v23=>(some ((IntKind.wrap .i64
  ((List.length x20.Log:Int) - v23)),true))))))

def ur (k:Nat)(v252:Group × Int × Bool)(v276:(List Row) × Bool)(i400:Nat) : Option (Oc Unit Bool):=((qc0 k v252.1 (i400:Int)).bind fun v422 =>
  ((if ((!v422.2)||(decide (v422.1≠0)))=true then (some true) else ((zy v252.1.Replicas (i400:Int)).bind fun x440=>((wd x440.Log v276.1).bind fun v456 =>
  (some (!v456))))).bind fun v440=>(if v440=true then (some (.ret false)) else (some (.nxt ())))))
def qe0  : Option Bool:=(some true)
def qa3 (k:Nat)(v_0:List Int)(v_1:List Int) : Option Bool:=(if (decide ((1048576:Int)<(IntKind.wrap .i64 ((List.length v_0:Int) +
  (List.length v_1:Int)))))=true then (some true) else ((xh k v_0).bind fun v2=>((yg k v2.1 v2.2).bind fun v14 =>
  ((yh k v2.1 v2.2).bind fun v42=>((if (!(v14.2.2 == v42.2.2))=true then (some true) else ((qal v14.2.1 v42.2.1).bind fun v73=>(some
  (!v73)))).bind fun v73=>((if v73=true then (some true) else ((xm v14.1 v42.1).bind fun v95=>(some (!v95)))).bind fun v95=>(if v95=true then
  (some false) else (if (!v14.2.2)=true then (some (decide ((List.length v14.2.1:Int)=0))) else ((yw k v14.1).bind fun v115 =>
  ((ud k v14.1).bind fun v127=>(if (((!v127)||(!v115.2))||(decide ((List.length v115.1:Int)≠v14.1.High)))=true then (some false) else
  ((qa2 v_1).bind fun v155=>(ck ((IntKind.wrap .i64 ((List.length v2.2:Int)+1))≠0) ((sl v2.2 0 (Int.tmod v155 (IntKind.wrap .i64
  ((List.length v2.2:Int)+1)))).bind fun l160=>((yg k v2.1 l160).bind fun v167=>((yw k v167.1).bind fun v195=>((if (((!v167.2.2) ||
  (!v195.2))||(decide ((List.length v115.1:Int)<(List.length v195.1:Int))))=true then (some true) else ((sl v115.1 0 (List.length v195.1:Int)).bind fun l230 =>
  ((wd v195.1 l230).bind fun v237=>(some (!v237))))).bind fun v230=>(if v230=true then (some false) else ((uq k v14.1).bind fun v252 =>
  ((yw k v252.1).bind fun v276=>((if ((!v252.2.2)||(!v276.2))=true then (some true) else ((ud k v252.1).bind fun v303=>(some
  (!v303)))).bind fun v303=>((if (v303||(decide (v252.2.1≠(IntKind.wrap .i64 (v252.1.High - v14.1.High)))))=true then (some true) else
  ((zy v14.1.Replicas v14.1.Leader).bind fun x334=>((wd v276.1 x334.Log).bind fun v350=>(some (!v350))))).bind fun v334=>((if (v334||(decide
  ((List.length v276.1:Int)<(List.length v115.1:Int))))=true then (some true) else ((sl v276.1 0 (List.length v115.1:Int)).bind fun l378 =>
  ((wd l378 v115.1).bind fun v385=>(some (!v385))))).bind fun v378=>(if v378=true then (some false) else (jn (wz
  (fun i400 _=>ur k v252 v276 i400 ) (List.length v252.1.Replicas:Int) ()) (fun _=>qe0 ))))))))))))))))))))))))))
end Go.Proofs.Ytefgfcalgjmhjaa.X
