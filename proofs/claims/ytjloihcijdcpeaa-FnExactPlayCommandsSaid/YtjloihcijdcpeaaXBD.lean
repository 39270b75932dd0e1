/- The seat's types and functions, as plain Lean has them. -/
import Derived.Test.YtjloihcijdcpeaaZIns
set_option linter.unusedVariables false
set_option linter.unusedSimpArgs false
set_option maxRecDepth 100000
namespace Go.Proofs.Ytjloihcijdcpeaa.X
open Go
open Nat (reduceEqDiff)
structure BoundsError where
 x:Int
 y:Int
 signed:Bool
 code:Int
 deriving DecidableEq,Inhabited
def qt1 (x:BoundsError) : List XV:=[.int .i64 x.x,.int .i64 x.y,.bool x.signed,.int .u8 x.code]
structure Broker where
 Epoch:Int
 Left:Int
 Fenced:Bool
 deriving DecidableEq,Inhabited
def qi (x:Broker) : List XV:=[.int .i64 x.Epoch,.int .i64 x.Left,.bool x.Fenced]
structure Partition where
 Homes:List Int
 InStep:List Int
 Leader:Int
 Epoch:Int
 Stamp:Int
 deriving DecidableEq,Inhabited
def qj (x:Partition) : List XV:=[lst cI x.Homes,lst cI x.InStep,.int .i64 x.Leader,.int .i64 x.Epoch,.int .i64 x.Stamp]
structure Control where
 Brokers:List Broker
 Parts:List Partition
 Next:Int
 deriving DecidableEq,Inhabited
def q49 (x:Control) : List XV:=[lst qi x.Brokers,lst qj x.Parts,.int .i64 x.Next]
structure Command where
 Kind:Int
 Broker:Int
 Epoch:Int
 Part:Int
 Stamp:Int
 InStep:List Int
 deriving DecidableEq,Inhabited
def zh (x:Command) : List XV:=[.int .i64 x.Kind,.int .i64 x.Broker,.int .i64 x.Epoch,.int .i64 x.Part,.int .i64 x.Stamp,lst cI x.InStep]
structure L1Cur where
 code:List Int
 at_:Int
 seed:Int
 deriving DecidableEq,Inhabited
def q7b (x:L1Cur) : List XV:=[lst cU8 x.code,.int .i64 x.at_,.int .u64 x.seed]

def jk (n_0:Int)(low_1:Int)(high_2:Int) : Bool:=((decide (low_1≤n_0))&&(decide (n_0≤high_2)))

def xz (i21:Nat)(s16:Control) : Option (Oc Control Control):=((kq 24 s16.Brokers [(Broker.mk 0 0 true)]).bind fun l49=>(some (.nxt
  (Control.mk l49 [] s16.Next))))
def qeq (s62:Control)  : Option Control:=(some (Control.mk s62.Brokers [] s62.Next))
def qao (brokers_0:Int) : Option Control:=(jn (wz (fun i21 s61=>xz i21 s61) brokers_0 (Control.mk [] [] 1))
  (fun s74=>qeq s74))

def qan (list_0:List Int)(many_1:Int)(i1:Nat)(x2:Int) : Option (Oc Unit Bool):=((if (!(jk x2 0 (IntKind.wrap .i64 (many_1 - 1))))=true then
  (some true) else ((if (decide ((0:Int)<(i1:Int)))=true then ((zz list_0 (IntKind.wrap .i64 ((i1:Int) - 1))).bind fun x30=>(some (decide (x2≤x30)))) else
  (some false)).bind fun v30=>(some v30))).bind fun v27=>(if v27=true then (some (.ret false)) else (some (.nxt ()))))
def qer  : Option Bool:=(some true)
def qam (list_0:List Int)(many_1:Int) : Option Bool:=(jn (jq (fun i1 x2 _=>qan list_0 many_1 i1 x2 ) list_0 ())
  (fun _=>qer ))

def qbh (v_0:Command)(v_1:Int) : Option Bool:=((if ((((!(jk v_0.Broker 0 (IntKind.wrap .i64 (v_1 - 1))))||(!(jk v_0.Epoch 0 1000))) ||
  (!(jk v_0.Part 0 1000)))||(!(jk v_0.Stamp 0 1000)))=true then (some true) else ((qam v_0.InStep v_1).bind fun v37=>(some (!v37)))).bind fun v37 =>
  (if v37=true then (some false) else (if (decide (v_0.Kind=1))=true then (some ((((decide (v_0.Epoch=0))&&(decide (v_0.Stamp=0)))&&(decide
  ((List.length v_0.InStep:Int)=0)))&&(decide (v_0.Part=0)))) else (if (decide (v_0.Kind=2))=true then (some (((decide (v_0.Stamp=0))&&(decide
  ((List.length v_0.InStep:Int)=0)))&&(decide (v_0.Part=0)))) else (if (decide (v_0.Kind=3))=true then (some (((((decide (v_0.Epoch=0))&&(decide
  (v_0.Stamp=0)))&&(decide ((List.length v_0.InStep:Int)=0)))&&(decide (v_0.Part=0)))&&(decide (v_0.Broker=0)))) else (if (decide (v_0.Kind=4))=true then
  (some ((((decide (v_0.Epoch=0))&&(decide (v_0.Stamp=0)))&&(decide (v_0.Part=0)))&&(decide (v_0.Broker=0)))) else (if (decide (v_0.Kind=5))=true then
  (some true) else (if (decide (v_0.Kind=6))=true then (some (((decide (v_0.Epoch=0))&&(decide (v_0.Stamp=0)))&&(decide ((List.length v_0.InStep:Int)=0)))) else
  (some false)))))))))

def u5 (l22:List Broker)(i44:Nat)(x45:Partition)(s39:Control) : Option (Oc Control Control):=((kq 8 ([] : List Int) x45.Homes).bind fun l79 =>
  ((kq 8 ([] : List Int) x45.InStep).bind fun l96=>((kq 72 s39.Parts [(Partition.mk l79 l96 x45.Leader x45.Epoch x45.Stamp)]).bind fun l113=>(some (.nxt
  (Control.mk l22 l113 s39.Next))))))
def qdz (l22:List Broker)(s126:Control)  : Option Control:=(some (Control.mk l22 s126.Parts s126.Next))
def y5 (c_0:Control) : Option Control:=((kq 24 ([] : List Broker) c_0.Brokers).bind fun l22=>(jn (jq
  (fun i44 x45 s125=>u5 l22 i44 x45 s125) c_0.Parts (Control.mk l22 [] c_0.Next)) (fun s139=>qdz l22 s139)))

def w8 (v_1:Int)(i1:Nat)(x2:Int) : Option (Oc Unit Int):=(if (decide (v_1=x2))=true then (some (.ret (i1:Int))) else (some (.nxt ())))
def qd0  : Option Int:=(some (-1))
def qbn (s_0:List Int)(v_1:Int) : Option Int:=(jn (jq (fun i1 x2 _=>w8 v_1 i1 x2 ) s_0 ()) (fun _=>qd0 ))

def jx (s_0:List Int)(v_1:Int) : Option Bool:=((qbn s_0 v_1).bind fun v1=>(some (decide ((0:Int)≤v1))))

def qdx (k_0:Int)(cap_0:List Int) : Option Bool:=((jx cap_0 k_0).bind fun v1=>(some (!v1)))

def qbq (of_1:List Int)(i16:Nat)(x17:Int) : Option (Oc Unit Int):=((qdx x17 of_1).bind fun v38=>(if v38=true then (some (.ret (i16:Int))) else
  (some (.nxt ()))))
def qhg  : Option Int:=(some (-1))
def qbm (list_0:List Int)(of_1:List Int) : Option Bool:=(((jn (jq (fun i16 x17 _=>qbq of_1 i16 x17 ) list_0 ())
  (fun _=>qhg ))).bind fun v10=>(some (!(decide ((0:Int)≤v10)))))

def y9 (i41:Nat)(s38:List Broker) : Option (Oc (List Broker) (Int × Control)):=((zz s38 (i41:Int)).bind fun x62=>(some (.nxt (List.set s38
  (i41:Int).toNat (Broker.mk x62.Epoch (mxI (IntKind.wrap .i64 (x62.Left - 1)) 0) x62.Fenced)))))
def qcb (v_0:Control)(s72:List Broker)  : Option (Int × Control):=(some (0,(Control.mk s72 v_0.Parts v_0.Next)))
def ym (v_0:Control)(x161:Partition)(i274:Nat)(x275:Int) : Option (Oc Unit Int):=((zz v_0.Brokers x275).bind fun x300 =>
  ((if x300.Fenced=true then ((jx x161.InStep x275).bind fun v321=>(some (!v321))) else (some false)).bind fun v306=>(if v306=true then (some (.ret
  (i274:Int))) else (some (.nxt ())))))
def qaj  : Option Int:=(some (-1))
def kt (v_0:Control)(v_1:Command)(x7:Broker)(s141:Bool)  : Option (Int × Control):=(if s141=true then (if (decide
  ((List.length v_0.Parts:Int)≤v_1.Part))=true then (some (1,
  v_0)) else ((zz v_0.Parts v_1.Part).bind fun x161=>(if (decide (v_1.Kind=6))=true then ((jx x161.InStep v_1.Broker).bind fun v182=>(if
  ((!v182)||x7.Fenced)=true then (some (4,v_0)) else (some (0,
  (Control.mk v_0.Brokers (List.set v_0.Parts v_1.Part.toNat (Partition.mk x161.Homes x161.InStep v_1.Broker x161.Epoch x161.Stamp)) v_0.Next))))) else (if (decide
  (v_1.Epoch≠x161.Epoch))=true then (some (2,v_0)) else (if (decide (v_1.Broker≠x161.Leader))=true then (some (3,
  v_0)) else (if (decide (v_1.Stamp≠x161.Stamp))=true then (some (2,
  v_0)) else (((jn (jq (fun i274 x275 _=>ym v_0 x161 i274 x275 ) v_1.InStep ()) (fun _=>qaj ))).bind fun v267 =>
  ((qbm v_1.InStep x161.Homes).bind fun v363=>(if (!v363)=true then (some (4,
  v_0)) else ((jx v_1.InStep x161.Leader).bind fun v371=>(if ((!v371)||(decide ((0:Int)≤v267)))=true then (some (4,
  v_0)) else ((kq 8 ([] : List Int) v_1.InStep).bind fun l395=>(some (0,
  (Control.mk v_0.Brokers (List.set v_0.Parts v_1.Part.toNat (Partition.mk x161.Homes l395 x161.Leader x161.Epoch (IntKind.wrap .i64
  (x161.Stamp+1)))) v_0.Next))))))))))))))) else (some (0,v_0)))
def qag (v_0:Control)(v_1:Command) : Option (Int × Control):=((zz v_0.Brokers v_1.Broker).bind fun x7=>(if (decide (v_1.Kind=1))=true then (if (decide
  (v_0.Next=1000))=true then (some (4,v_0)) else (some (0,
  (Control.mk (List.set v_0.Brokers v_1.Broker.toNat (Broker.mk v_0.Next 9 x7.Fenced)) v_0.Parts (IntKind.wrap .i64 (v_0.Next+1)))))) else (if (decide
  (v_1.Kind=2))=true then (if (decide (x7.Epoch=0))=true then (some (1,v_0)) else (if (decide (x7.Epoch≠v_1.Epoch))=true then (some (2,v_0)) else (some (0,
  (Control.mk (List.set v_0.Brokers v_1.Broker.toNat (Broker.mk x7.Epoch 9 x7.Fenced)) v_0.Parts v_0.Next))))) else (if (decide (v_1.Kind=3))=true then (jn (wz
  (fun i41 s71=>y9 i41 s71) (List.length v_0.Brokers:Int) v_0.Brokers) (fun s79=>qcb v_0 s79)) else (if (decide (v_1.Kind=4))=true then
  (if ((decide ((List.length v_1.InStep:Int)=0))||(decide ((List.length v_0.Parts:Int)=5)))=true then (some (4,
  v_0)) else ((kq 8 ([] : List Int) v_1.InStep).bind fun l104=>((kq 8 ([] : List Int) v_1.InStep).bind fun l114=>((kq 72 v_0.Parts [(Partition.mk l104 l114
  (-1) 0 0)]).bind fun l130=>(some (0,
  (Control.mk v_0.Brokers l130 v_0.Next))))))) else ((if (decide (v_1.Kind=5))=true then (some (decide (v_1.Kind=5))) else (some (decide (v_1.Kind=6)))).bind
  (fun s418=>kt v_0 v_1 x7 s418)))))))

def um (c_0:Control)(i7:Nat)(x8:Int) : Option (Oc Unit Int):=((zz c_0.Brokers x8).bind fun x29=>(if (!x29.Fenced)=true then (some
  (.ret x8)) else (some (.nxt ()))))
def qbz  : Option Int:=(some (-1))
def xl (c_0:Control)(list_1:List Int) : Option Int:=(jn (jq (fun i7 x8 _=>um c_0 i7 x8 ) list_1 ())
  (fun _=>qbz ))

def qa2 (i75:Nat)(s72:List Broker) : Option (Oc (List Broker) (Control × Int)):=((zz s72 (i75:Int)).bind fun x98=>(some (.nxt (List.set s72
  (i75:Int).toNat (Broker.mk x98.Epoch x98.Left (decide (x98.Left=0)))))))
def qay (v_0:Control)(i125:Nat)(s289:List Partition)  : Option (Oc (List Partition) (Control × Int)):=((zz s289 (i125:Int)).bind fun x349=>(if
  ((decide ((1000:Int)<x349.Stamp))||(decide ((1000:Int)<x349.Epoch)))=true then ((y5 v_0).bind fun v380=>(some (.ret (v380,
  4)))) else (some (.nxt s289))))
def qcn (v_0:Control)(i125:Nat)(s196:List Partition)  : Option (Oc (List Partition) (Control × Int)):=((if (decide ((List.length v_0.Parts:Int) ≤
  (i125:Int)))=true then (some true) else ((zz s196 (i125:Int)).bind fun x253=>((zz v_0.Parts (i125:Int)).bind fun x271=>(some (decide
  (x253.Leader≠x271.Leader)))))).bind fun v253=>((if v253=true then ((zz s196 (i125:Int)).bind fun x300=>(if (decide (x300.Leader≠(-1)))=true then (some
  (List.set s196 (i125:Int).toNat (Partition.mk x300.Homes x300.InStep x300.Leader (IntKind.wrap .i64 (x300.Epoch+1)) (IntKind.wrap .i64 (x300.Stamp+1))))) else (some
  (List.set s196 (i125:Int).toNat (Partition.mk x300.Homes x300.InStep x300.Leader x300.Epoch (IntKind.wrap .i64 (x300.Stamp+1))))))) else (some s196)).bind
  (fun s410=>qay v_0 i125 s410)))
def yq (v_0:Control)(v39:Int × Control)(s110:List Broker)(i125:Nat)(s122:List Partition) : Option (Oc (List Partition) (Control × Int)) :=
  ((zz s122 (i125:Int)).bind fun x148=>((if (decide (x148.Leader=(-1)))=true then (some true) else ((zz s110 x148.Leader).bind fun x171 =>
  (some x171.Fenced))).bind fun v171=>((if v171=true then ((xl (Control.mk s110 s122 v39.2.Next) x148.InStep).bind fun v226=>(some (List.set s122
  (i125:Int).toNat (Partition.mk x148.Homes x148.InStep v226 x148.Epoch x148.Stamp)))) else (some s122)).bind (fun s411=>qcn v_0 i125 s411))))
def qe7 (v39:Int × Control)(s110:List Broker)(s413:List Partition)  : Option (Control × Int):=(some ((Control.mk s110 s413 v39.2.Next),0))
def qco (v_0:Control)(v39:Int × Control)(s110:List Broker)  : Option (Control × Int):=(jn (wz
  (fun i125 s412=>yq v_0 v39 s110 i125 s412) (List.length v39.2.Parts:Int) v39.2.Parts) (fun s424=>qe7 v39 s110 s424))
def qbi (v_0:Control)(v_1:Command) : Option (Control × Int):=((y5 v_0).bind fun v17=>((qag v17 v_1).bind fun v39=>(if (decide
  (v39.1≠0))=true then ((y5 v_0).bind fun v51=>(some (v51,
  v39.1))) else (jn (wz (fun i75 s109=>qa2 i75 s109) (List.length v39.2.Brokers:Int) v39.2.Brokers) (fun s425=>qco v_0 v39 s425)))))

def wj (brokers_0:Int)(i74:Nat)(x75:Command)(s60:List Int)(s65:Control) : Option (Oc ((List Int) × Control) (Control × (List Int) × Bool)) :=
  ((qbh x75 brokers_0).bind fun v107=>(if (!v107)=true then (some (.ret ((Control.mk [] [] 0),[],
  false))) else ((qbi s65 x75).bind fun v116=>((kq 8 s60 [v116.2]).bind fun l148=>(some (.nxt (l148,v116.1)))))))
def qdl (s159:List Int)(s164:Control)  : Option (Control × (List Int) × Bool):=(some (s164,s159,true))
def k9 (brokers_0:Int)(l_1:List Command) : Option (Control × (List Int) × Bool):=(if ((!(jk brokers_0 1 6))||(decide ((80:Int) <
  (List.length l_1:Int))))=true then (some ((Control.mk [] [] 0),[],
  false)) else ((qao brokers_0).bind fun v18=>(jn (jq (fun i74 x75 s158=>wj brokers_0 i74 x75 s158.1 s158.2) l_1 (([] : List Int),
  v18)) (fun s183=>qdl s183.1 s183.2))))

def zl (n_0:Int)(lo_1:Int)(hi_2:Int) : Bool:=((decide (lo_1≤n_0))&&(decide (n_0≤hi_2)))

def qb1 (l_0:List Int)(many_1:Int)(i1:Nat)(x2:Int) : Option (Oc Unit Bool):=((if ((decide (x2<0))||(decide (many_1≤x2)))=true then
  (some true) else ((if (decide ((0:Int)<(i1:Int)))=true then ((zz l_0 (IntKind.wrap .i64 ((i1:Int) - 1))).bind fun x44=>(some (decide (x2≤x44)))) else
  (some false)).bind fun v44=>(some v44))).bind fun v41=>(if v41=true then (some (.ret false)) else (some (.nxt ()))))
def qf7  : Option Bool:=(some true)
def xx (l_0:List Int)(many_1:Int) : Option Bool:=(jn (jq (fun i1 x2 _=>qb1 l_0 many_1 i1 x2 ) l_0 ()) (fun _=>qf7 ))

def qc2 (n_1:Int)(i1:Nat)(x2:Int) : Option (Oc Unit Bool):=(if (decide (x2=n_1))=true then (some (.ret true)) else (some (.nxt ())))
def qhk  : Option Bool:=(some false)
def ul (l_0:List Int)(n_1:Int) : Option Bool:=(jn (jq (fun i1 x2 _=>qc2 n_1 i1 x2 ) l_0 ()) (fun _=>qhk ))

def yh (c_0:Control)(i7:Nat)(x8:Int) : Option (Oc Unit Int):=((zz c_0.Brokers x8).bind fun x29=>(if (!x29.Fenced)=true then (some (.ret x8)) else
  (some (.nxt ()))))
def qfw  : Option Int:=(some (-1))
def qae (c_0:Control)(l_1:List Int) : Option Int:=(jn (jq (fun i7 x8 _=>yh c_0 i7 x8 ) l_1 ()) (fun _=>qfw ))

def qc1 (a_0:List Int)(i1:Nat)(x2:Int) : Option (Oc Unit Bool):=((ul a_0 x2).bind fun v23=>(if (!v23)=true then (some (.ret false)) else (some
  (.nxt ()))))
def qhj  : Option Bool:=(some true)
def qck (a_0:List Int)(b_1:List Int) : Option Bool:=(jn (jq (fun i1 x2 _=>qc1 a_0 i1 x2 ) b_1 ()) (fun _=>qhj ))

def qb6 (v_0:Control)(v_1:Partition) : Option Bool:=((if (decide ((List.length v_1.Homes:Int)=0))=true then (some true) else ((xx v_1.Homes
  (List.length v_0.Brokers:Int)).bind fun v16=>(some (!v16)))).bind fun v16=>((if (v16||(decide ((List.length v_1.InStep:Int)=0)))=true then (some true) else
  ((xx v_1.InStep (List.length v_0.Brokers:Int)).bind fun v42=>(some (!v42)))).bind fun v42=>((if v42=true then (some true) else
  ((qck v_1.Homes v_1.InStep).bind fun v59=>(some (!v59)))).bind fun v59=>(if v59=true then (some false) else ((if (decide (v_1.Leader=(-1)))=true then
  ((qae v_0 v_1.InStep).bind fun v77=>(some (decide ((0:Int)≤v77)))) else (some false)).bind fun v77=>((if v77=true then (some true) else ((if (decide
  (v_1.Leader≠(-1)))=true then ((ul v_1.InStep v_1.Leader).bind fun v97=>((if (!v97)=true then (some true) else ((zz v_0.Brokers v_1.Leader).bind fun x103 =>
  (some x103.Fenced))).bind fun v103=>(some v103))) else (some false)).bind fun v97=>(some v97))).bind fun v94=>(if v94=true then (some false) else (some
  ((zl v_1.Epoch 0 1000)&&(zl v_1.Stamp 0 1000))))))))))

def wy (v_0:Control)(i7:Nat)(x8:Broker) : Option (Oc Unit Bool):=(if (((((decide (x8.Epoch<0))||(decide (v_0.Next≤x8.Epoch))) ||
  (!(zl x8.Left 0 9)))||(!(x8.Fenced == (decide (x8.Left=0)))))||((decide (x8.Epoch=0))&&(decide ((0:Int)<x8.Left))))=true then (some (.ret false)) else
  (some (.nxt ())))
def u6 (v_0:Control)(i124:Nat)(x125:Partition) : Option (Oc Unit Bool):=((qb6 v_0 x125).bind fun v154=>(if (!v154)=true then (some
  (.ret false)) else (some (.nxt ()))))
def qd3  : Option Bool:=(some true)
def qbv (v_0:Control)  : Option Bool:=(if (((!(zl (List.length v_0.Brokers:Int) 1 6))||(decide ((5:Int)<(List.length v_0.Parts:Int)))) ||
  (!(zl v_0.Next 1 1000)))=true then (some false) else (jn (jq (fun i124 x125 _=>u6 v_0 i124 x125 ) v_0.Parts ())
  (fun _=>qd3 )))
def xj (v_0:Control) : Option Bool:=(jn (jq (fun i7 x8 _=>wy v_0 i7 x8 ) v_0.Brokers ()) (fun _=>qbv v_0 ))

def qah (v_0:Control)(v_1:Command) : Option Bool:=(if (decide (v_1.Kind=1))=true then (some ((((((decide ((0:Int)≤v_1.Broker))&&(decide (v_1.Broker <
  (List.length v_0.Brokers:Int))))&&(decide (v_1.Epoch=0)))&&(decide (v_1.Part=0)))&&(decide (v_1.Stamp=0)))&&(decide
  ((List.length v_1.InStep:Int)=0)))) else (if (decide (v_1.Kind=2))=true then (some ((((((decide ((0:Int)≤v_1.Broker))&&(decide (v_1.Broker <
  (List.length v_0.Brokers:Int))))&&(zl v_1.Epoch 0 1000))&&(decide (v_1.Part=0)))&&(decide (v_1.Stamp=0)))&&(decide
  ((List.length v_1.InStep:Int)=0)))) else (if (decide (v_1.Kind=3))=true then (some (((((decide (v_1.Broker=0))&&(decide (v_1.Epoch=0)))&&(decide
  (v_1.Part=0)))&&(decide (v_1.Stamp=0)))&&(decide ((List.length v_1.InStep:Int)=0)))) else (if (decide (v_1.Kind=4))=true then ((if ((((decide
  (v_1.Broker=0))&&(decide (v_1.Epoch=0)))&&(decide (v_1.Part=0)))&&(decide (v_1.Stamp=0)))=true then ((xx v_1.InStep
  (List.length v_0.Brokers:Int)).bind fun v155=>(some v155)) else (some false)).bind fun v155=>(some v155)) else (if (decide (v_1.Kind=5))=true then ((if (((((decide
  ((0:Int)≤v_1.Broker))&&(decide (v_1.Broker<(List.length v_0.Brokers:Int))))&&(zl v_1.Epoch 0 1000))&&(zl v_1.Part 0 1000)) &&
  (zl v_1.Stamp 0 1000))=true then ((xx v_1.InStep (List.length v_0.Brokers:Int)).bind fun v198=>(some v198)) else (some false)).bind fun v198 =>
  (some v198)) else (if (decide (v_1.Kind=6))=true then (some ((((((decide ((0:Int)≤v_1.Broker))&&(decide (v_1.Broker<(List.length v_0.Brokers:Int))))&&(decide
  (v_1.Epoch=0)))&&(zl v_1.Part 0 1000))&&(decide (v_1.Stamp=0)))&&(decide ((List.length v_1.InStep:Int)=0)))) else (some false)))))))

def uv (v_0:Control)(x14:Partition)(i50:Nat)(x51:Int) : Option (Oc Unit Int):=((zz v_0.Brokers x51).bind fun x73=>((if x73.Fenced=true then
  ((ul x14.InStep x51).bind fun v79=>(some (!v79))) else (some false)).bind fun v79=>(if v79=true then (some (.ret 4)) else (some (.nxt ())))))
def qfm  : Option Int:=(some 0)
def wu (v_0:Control)(v_1:Command) : Option Int:=(if (decide ((List.length v_0.Parts:Int)≤v_1.Part))=true then (some 1) else
  ((zz v_0.Parts v_1.Part).bind fun x14=>(if (decide (v_1.Epoch≠x14.Epoch))=true then (some 2) else (if (decide (v_1.Broker≠x14.Leader))=true then (some 3) else (if
  (decide (v_1.Stamp≠x14.Stamp))=true then (some 2) else ((qck x14.Homes v_1.InStep).bind fun v28=>((if (!v28)=true then (some true) else
  ((ul v_1.InStep x14.Leader).bind fun v34=>(some (!v34)))).bind fun v34=>(if v34=true then (some 4) else (jn (jq
  (fun i50 x51 _=>uv v_0 x14 i50 x51 ) v_1.InStep ()) (fun _=>qfm ))))))))))

def qbo (i83:Nat)(s80:List Broker) : Option (Oc (List Broker) (Oc (Control × (List Broker)) (Control × Int))):=((zz s80 (i83:Int)).bind fun x105=>(if
  (decide ((0:Int)<x105.Left))=true then (some (.nxt (List.set s80 (i83:Int).toNat (Broker.mk x105.Epoch (IntKind.wrap .i64 (x105.Left - 1)) x105.Fenced)))) else (some
  (.nxt s80))))
def qhh (v_0:Control)(s119:List Broker)  : Option (Oc (Control × (List Broker)) (Control × Int)):=(some (.nxt ((Control.mk s119 v_0.Parts v_0.Next),s119)))
def qc4 (i335:Nat)(s332:List Broker) : Option (Oc (List Broker) (Control × Int)):=((zz s332 (i335:Int)).bind fun x357=>(some (.nxt (List.set s332
  (i335:Int).toNat (Broker.mk x357.Epoch x357.Left (decide (x357.Left=0)))))))
def qhl (s15:Control)(s369:List Broker)  : Option (Control × Int):=(some ((Control.mk s369 s15.Parts s15.Next),0))
def qcz (s15:Control)(s20:List Broker)  : Option (Control × Int):=(jn (wz (fun i335 s368=>qc4 i335 s368) (List.length s20:Int) s20)
  (fun s379=>qhl s15 s379))
def qdn (v_0:Control)(v_1:Command) : Option (Control × Int):=(jn (if (decide (v_1.Kind=1))=true then (if (decide (v_0.Next=1000))=true then (some (.ret (v_0,
  4))) else ((zz v_0.Brokers v_1.Broker).bind fun x35=>(some (.nxt ((Control.mk (List.set v_0.Brokers v_1.Broker.toNat (Broker.mk v_0.Next 9 false)) v_0.Parts
  (IntKind.wrap .i64 (v_0.Next+1))),(List.set v_0.Brokers v_1.Broker.toNat (Broker.mk v_0.Next 9 false))))))) else (if (decide (v_1.Kind=2))=true then
  ((zz v_0.Brokers v_1.Broker).bind fun x49=>(if (decide (x49.Epoch=0))=true then (some (.ret (v_0,
  1))) else (if (decide (x49.Epoch≠v_1.Epoch))=true then (some (.ret (v_0,
  2))) else (some (.nxt ((Control.mk (List.set v_0.Brokers v_1.Broker.toNat (Broker.mk x49.Epoch 9 x49.Fenced)) v_0.Parts v_0.Next),
  (List.set v_0.Brokers v_1.Broker.toNat (Broker.mk x49.Epoch 9 x49.Fenced)))))))) else (if (decide (v_1.Kind=3))=true then (jn (wz
  (fun i83 s118=>qbo i83 s118) (List.length v_0.Brokers:Int) v_0.Brokers) (fun s128=>qhh v_0 s128)) else (if (decide (v_1.Kind=4))=true then (if
  ((decide ((List.length v_1.InStep:Int)=0))||(decide ((List.length v_0.Parts:Int)=5)))=true then (some (.ret (v_0,
  4))) else ((kq 8 ([] : List Int) v_1.InStep).bind fun l157=>((kq 8 ([] : List Int) v_1.InStep).bind fun l168=>((kq 72 v_0.Parts [(Partition.mk l157 l168
  (-2) 0 0)]).bind fun l185=>(some (.nxt ((Control.mk v_0.Brokers l185 v_0.Next),
  v_0.Brokers))))))) else (if (decide (v_1.Kind=5))=true then ((wu v_0 v_1).bind fun v198=>(if (decide (v198≠0))=true then (some (.ret (v_0,
  v198))) else ((kq 8 ([] : List Int) v_1.InStep).bind fun l212=>((zz v_0.Parts v_1.Part).bind fun x223=>(some (.nxt ((Control.mk v_0.Brokers
  (List.set v_0.Parts v_1.Part.toNat (Partition.mk x223.Homes l212 x223.Leader x223.Epoch (IntKind.wrap .i64 (x223.Stamp+1)))) v_0.Next),
  v_0.Brokers))))))) else (if (decide (v_1.Kind=6))=true then (if (decide ((List.length v_0.Parts:Int)≤v_1.Part))=true then (some (.ret (v_0,
  1))) else ((zz v_0.Parts v_1.Part).bind fun x262=>((ul x262.InStep v_1.Broker).bind fun v282=>((if (!v282)=true then (some true) else
  ((zz v_0.Brokers v_1.Broker).bind fun x288=>(some x288.Fenced))).bind fun v288=>(if v288=true then (some (.ret (v_0,
  4))) else (some (.nxt ((Control.mk v_0.Brokers (List.set v_0.Parts v_1.Part.toNat (Partition.mk x262.Homes x262.InStep v_1.Broker x262.Epoch x262.Stamp)) v_0.Next),
  v_0.Brokers)))))))) else (some (.nxt (v_0,v_0.Brokers))))))))) (fun s380=>qcz s380.1 s380.2))

def ur (l22:List Broker)(i44:Nat)(x45:Partition)(s39:Control) : Option (Oc Control Control):=((kq 8 ([] : List Int) x45.Homes).bind fun l79=>((kq 8
  ([] : List Int) x45.InStep).bind fun l96=>((kq 72 s39.Parts [(Partition.mk l79 l96 x45.Leader x45.Epoch x45.Stamp)]).bind fun l113=>(some (.nxt
  (Control.mk l22 l113 s39.Next))))))
def qgt (l22:List Broker)(s126:Control)  : Option Control:=(some (Control.mk l22 s126.Parts s126.Next))
def qar (c_0:Control) : Option Control:=((kq 24 ([] : List Broker) c_0.Brokers).bind fun l22=>(jn (jq
  (fun i44 x45 s125=>ur l22 i44 x45 s125) c_0.Parts (Control.mk l22 [] c_0.Next)) (fun s139=>qgt l22 s139)))

def qdw (s14:List Partition)(i17:Nat)(x41:Partition)(s153:Partition)  : Option (Oc (List Partition) (Control × (List Int))):=(some (.nxt (List.set s14
  (i17:Int).toNat (Partition.mk x41.Homes x41.InStep s153.Leader s153.Epoch s153.Stamp))))
def qdp (s14:List Partition)(i17:Nat)(x41:Partition)(s67:Int)(s121:Partition)  : Option (Oc (List Partition) (Control × (List Int))):=((if (decide
  (s121.Leader≠s67))=true then (if (decide ((0:Int)≤s121.Leader))=true then (some (Partition.mk x41.Homes x41.InStep s121.Leader (IntKind.wrap .i64 (s121.Epoch+1))
  (IntKind.wrap .i64 (s121.Stamp+1)))) else (some (Partition.mk x41.Homes x41.InStep s121.Leader s121.Epoch (IntKind.wrap .i64 (s121.Stamp+1))))) else (some
  (Partition.mk x41.Homes x41.InStep s121.Leader s121.Epoch s121.Stamp))).bind (fun s191=>qdw s14 i17 x41 s191))
def qde (c_0:Control)(s14:List Partition)(i17:Nat)(x41:Partition)(s67:Int)  : Option (Oc (List Partition) (Control × (List Int))):=((if (decide
  (x41.Leader<0))=true then (some true) else ((zz c_0.Brokers x41.Leader).bind fun x98=>(some x98.Fenced))).bind fun v98=>((if v98=true then ((qae
  (Control.mk c_0.Brokers s14 c_0.Next) x41.InStep).bind fun v134=>(some (Partition.mk x41.Homes x41.InStep v134 x41.Epoch x41.Stamp))) else (some x41)).bind
  (fun s192=>qdp s14 i17 x41 s67 s192)))
def ub (c_0:Control)(old_1:List Int)(i17:Nat)(s14:List Partition) : Option (Oc (List Partition) (Control × (List Int))):=((zz s14
  (i17:Int)).bind fun x41=>((if (decide ((i17:Int)<(List.length old_1:Int)))=true then ((zz old_1 (i17:Int)).bind fun x76=>(some x76)) else (some (-2))).bind
  (fun s193=>qde c_0 s14 i17 x41 s193)))
def qf1 (c_0:Control)(old_1:List Int)(s195:List Partition)  : Option (Control × (List Int)):=(some ((Control.mk c_0.Brokers s195 c_0.Next),old_1))
def qb3 (c_0:Control)(old_1:List Int) : Option (Control × (List Int)):=(jn (wz (fun i17 s194=>ub c_0 old_1 i17 s194)
  (List.length c_0.Parts:Int) c_0.Parts) (fun s207=>qf1 c_0 old_1 s207))

def ws (i51:Nat)(x52:Partition)(s46:List Int) : Option (Oc (List Int) (Control × Int × Bool)):=((kq 8 s46 [x52.Leader]).bind fun l90=>(some
  (.nxt l90)))
def uh (c_0:Control)(s147:Int)(s148:Control)(s149:List Broker)(s152:List Partition)  : Option (Control × Int × Bool):=(if (decide
  (s147≠0))=true then ((qar c_0).bind fun v192=>(some (v192,s147,true))) else ((qar (Control.mk s149 s152 s148.Next)).bind fun v210=>(some (v210,0,
  true))))
def qcm (c_0:Control)(x_1:Command)(s101:List Int)  : Option (Control × Int × Bool):=((qar c_0).bind fun v118 =>
  ((qdn v118 x_1).bind fun v134=>((if (decide (v134.2=0))=true then ((qb3 v134.1 s101).bind fun v164=>((xj v164.1).bind fun v177=>(if
  (!v177)=true then (some (4,v164.1,v164.1.Brokers,v164.1.Parts)) else (some (v134.2,v164.1,v164.1.Brokers,v164.1.Parts))))) else (some (v134.2,v134.1,v134.1.Brokers,
  v134.1.Parts))).bind (fun s228=>uh c_0 s228.1 s228.2.1 s228.2.2.1 s228.2.2.2))))
def xk (c_0:Control)(x_1:Command) : Option (Control × Int × Bool):=((xj c_0).bind fun v17=>((if (!v17)=true then (some true) else
  ((qah c_0 x_1).bind fun v23=>(some (!v23)))).bind fun v23=>(if v23=true then (some ((Control.mk [] [] 0),0,
  false)) else (jn (jq (fun i51 x52 s100=>ws i51 x52 s100) c_0.Parts ([] : (List Int))) (fun s229=>qcm c_0 x_1 s229)))))

def xu (brokers_0:Int)(s20:Int)(s21:Control) : Option (Oc (Int × Control) (Control × Bool)):=(if (decide (s20<brokers_0))=true then
  ((kq 24 s21.Brokers [(Broker.mk 0 0 true)]).bind fun l55=>(some (.nxt ((IntKind.wrap .i64 (s20+1)),(Control.mk l55 [] s21.Next))))) else (some (.brk (s20,
  (Control.mk s21.Brokers [] s21.Next)))))
def qet (s69:Int)(s70:Control)  : Option (Control × Bool):=(some ((Control.mk s70.Brokers [] s70.Next),true))
def wn (k:Nat)(brokers_0:Int) : Option (Control × Bool):=(if (!(zl brokers_0 1 6))=true then (some ((Control.mk [] [] 0),
  false)) else (jn (kj (fun s68=>xu brokers_0 s68.1 s68.2) k (0,(Control.mk [] [] 1))) (fun s84=>qet s84.1 s84.2)))

def wl (i68:Nat)(x69:Command)(s54:List Int)(s59:Control) : Option (Oc ((List Int) × Control) (Control × (List Int) × Bool)) :=
  ((xk s59 x69).bind fun v100=>(if (!v100.2.2)=true then (some (.ret ((Control.mk [] [] 0),[],
  false))) else ((kq 8 s54 [v100.2.1]).bind fun l138=>(some (.nxt (l138,v100.1))))))
def qdq (s149:List Int)(s154:Control)  : Option (Control × (List Int) × Bool):=(some (s154,s149,true))
def yu (k:Nat)(brokers_0:Int)(l_1:List Command) : Option (Control × (List Int) × Bool):=((wn k brokers_0).bind fun v5=>(if ((!v5.2) ||
  (decide ((80:Int)<(List.length l_1:Int))))=true then (some ((Control.mk [] [] 0),[],
  false)) else (jn (jq (fun i68 x69 s148=>wl i68 x69 s148.1 s148.2) l_1 (([],
  v5.1) : (List Int) × Control)) (fun s172=>qdq s172.1 s172.2))))

def qct (a_0:List Int)(left_1:Int) : Option Int:=(if (decide ((IntKind.wrap .i64 (left_1 - (List.length a_0:Int)))<0))=true then (some (-1)) else (some
  (IntKind.wrap .i64 (left_1 - (List.length a_0:Int)))))

def qbf (a_0:Command)(left_1:Int) : Option Int:=((qct a_0.InStep left_1).bind fun v7=>(if (decide (v7<0))=true then (some (-1)) else (some v7)))

def xw (a_0:List Command)(s4:Int)(s5:Int) : Option (Oc (Int × Int) Int):=(if (decide (s5<(List.length a_0:Int)))=true then
  ((zz a_0 s5).bind fun x28=>((qbf x28 s4).bind fun v31=>(if (decide (v31<0))=true then (some (.ret (-1))) else (some (.nxt (v31,
  (IntKind.wrap .i64 (s5+1)))))))) else (some (.brk (s4,s5))))
def qel (s41:Int)(s42:Int)  : Option Int:=(some s41)
def qap (k:Nat)(a_0:List Command)(left_1:Int) : Option Int:=(if (decide ((IntKind.wrap .i64 (left_1 - (List.length a_0:Int)))<0))=true then (some
  (-1)) else (jn (kj (fun s40=>xw a_0 s40.1 s40.2) k ((IntKind.wrap .i64 (left_1 - (List.length a_0:Int))),
  0)) (fun s49=>qel s49.1 s49.2)))

def qa6 (a_0:List Int)(s14:Int)(s15:List Int) : Option (Oc (Int × (List Int)) (List Int)):=(if (decide (s14<(List.length a_0:Int)))=true then
  ((zz a_0 s14).bind fun x40=>((zz s15 s14).bind fun x43=>(some (.nxt ((IntKind.wrap .i64 (s14+1)),(List.set s15 s14.toNat x40)))))) else (some (.brk (s14,s15))))
def qgs (s56:Int)(s57:List Int)  : Option (List Int):=(some s57)
def qcw (k:Nat)(a_0:List Int) : Option (List Int):=((mkN 8 (List.length a_0:Int) (0:Int)).bind fun l1=>(jn (kj
  (fun s55=>qa6 a_0 s55.1 s55.2) k (0,l1)) (fun s66=>qgs s66.1 s66.2)))

def qbj (k:Nat)(a_0:Command) : Option Command:=((qcw k a_0.InStep).bind fun v25=>(some
  (Command.mk a_0.Kind a_0.Broker a_0.Epoch a_0.Part a_0.Stamp v25)))

def xq (k:Nat)(a_0:List Command)(s14:Int)(s15:List Command) : Option (Oc (Int × (List Command)) (List Command)):=(if (decide (s14 <
  (List.length a_0:Int)))=true then ((zz a_0 s14).bind fun x40=>((qbj k x40).bind fun v43=>((zz s15 s14).bind fun x55=>(some (.nxt ((IntKind.wrap .i64
  (s14+1)),(List.set s15 s14.toNat v43))))))) else (some (.brk (s14,s15))))
def qew (s83:Int)(s84:List Command)  : Option (List Command):=(some s84)
def yx (k:Nat)(a_0:List Command) : Option (List Command):=((mkN 64 (List.length a_0:Int) (Command.mk (0:Int) (0:Int) (0:Int) (0:Int)
  (0:Int) [])).bind fun l1=>(jn (kj (fun s82=>xq k a_0 s82.1 s82.2) k (0,l1)) (fun s93=>qew s93.1 s93.2)))

def qbp (a_0:Broker)(b_1:Broker) : Option Bool:=(if (decide (a_0.Epoch≠b_1.Epoch))=true then (some false) else (if (decide (a_0.Left≠b_1.Left))=true then
  (some false) else (if (!(a_0.Fenced == b_1.Fenced))=true then (some false) else (some true))))

def ug (a_0:List Broker)(b_1:List Broker)(s3:Int) : Option (Oc Int Bool):=(if (decide (s3<(List.length a_0:Int)))=true then
  ((zz a_0 s3).bind fun x26=>((zz b_1 s3).bind fun x29=>((qbp x26 x29).bind fun v32=>(if (!v32)=true then (some (.ret false)) else (some (.nxt
  (IntKind.wrap .i64 (s3+1)))))))) else (some (.brk s3)))
def qe8 (s42:Int)  : Option Bool:=(some true)
def qba (k:Nat)(a_0:List Broker)(b_1:List Broker) : Option Bool:=(if (decide ((List.length a_0:Int)≠(List.length b_1:Int)))=true then
  (some false) else (jn (kj (fun s41=>ug a_0 b_1 s41) k 0) (fun s49=>qe8 s49)))

def qbb (a_0:List Int)(b_1:List Int)(s3:Int) : Option (Oc Int Bool):=(if (decide (s3<(List.length a_0:Int)))=true then ((zz a_0 s3).bind fun x26 =>
  ((zz b_1 s3).bind fun x29=>(if (decide (x26≠x29))=true then (some (.ret false)) else (some (.nxt (IntKind.wrap .i64 (s3+1))))))) else (some (.brk s3)))
def qgq (s39:Int)  : Option Bool:=(some true)
def wd (k:Nat)(a_0:List Int)(b_1:List Int) : Option Bool:=(if (decide ((List.length a_0:Int)≠(List.length b_1:Int)))=true then (some false) else (jn
  (kj (fun s38=>qbb a_0 b_1 s38) k 0) (fun s46=>qgq s46)))

def ux (k:Nat)(a_0:Partition)(b_1:Partition) : Option Bool:=((wd k a_0.Homes b_1.Homes).bind fun v13=>(if (!v13)=true then (some false) else
  ((wd k a_0.InStep b_1.InStep).bind fun v17=>(if (!v17)=true then (some false) else (if (decide (a_0.Leader≠b_1.Leader))=true then (some false) else (if
  (decide (a_0.Epoch≠b_1.Epoch))=true then (some false) else (if (decide (a_0.Stamp≠b_1.Stamp))=true then (some false) else (some true))))))))

def wk (k:Nat)(a_0:List Partition)(b_1:List Partition)(s3:Int) : Option (Oc Int Bool):=(if (decide (s3<(List.length a_0:Int)))=true then
  ((zz a_0 s3).bind fun x26=>((zz b_1 s3).bind fun x29=>((ux k x26 x29).bind fun v32=>(if (!v32)=true then (some (.ret false)) else (some (.nxt
  (IntKind.wrap .i64 (s3+1)))))))) else (some (.brk s3)))
def qdv (s42:Int)  : Option Bool:=(some true)
def uk (k:Nat)(a_0:List Partition)(b_1:List Partition) : Option Bool:=(if (decide ((List.length a_0:Int)≠(List.length b_1:Int)))=true then
  (some false) else (jn (kj (fun s41=>wk k a_0 b_1 s41) k 0) (fun s49=>qdv s49)))

def xa (k:Nat)(a_0:Control)(b_1:Control) : Option Bool:=((qba k a_0.Brokers b_1.Brokers).bind fun v13=>(if (!v13)=true then (some false) else
  ((uk k a_0.Parts b_1.Parts).bind fun v17=>(if (!v17)=true then (some false) else (if (decide (a_0.Next≠b_1.Next))=true then (some false) else
  (some true))))))

def qa9 (k:Nat)(a_0:Command)(b_1:Command) : Option Bool:=(if (decide (a_0.Kind≠b_1.Kind))=true then (some false) else (if (decide
  (a_0.Broker≠b_1.Broker))=true then (some false) else (if (decide (a_0.Epoch≠b_1.Epoch))=true then (some false) else (if (decide (a_0.Part≠b_1.Part))=true then
  (some false) else (if (decide (a_0.Stamp≠b_1.Stamp))=true then (some false) else ((wd k a_0.InStep b_1.InStep).bind fun v18=>(if (!v18)=true then
  (some false) else (some true))))))))

def xv (k:Nat)(a_0:List Command)(b_1:List Command)(s3:Int) : Option (Oc Int Bool):=(if (decide (s3<(List.length a_0:Int)))=true then
  ((zz a_0 s3).bind fun x26=>((zz b_1 s3).bind fun x29=>((qa9 k x26 x29).bind fun v32=>(if (!v32)=true then (some (.ret false)) else (some (.nxt
  (IntKind.wrap .i64 (s3+1)))))))) else (some (.brk s3)))
def qes (s42:Int)  : Option Bool:=(some true)
def qaq (k:Nat)(a_0:List Command)(b_1:List Command) : Option Bool:=(if (decide ((List.length a_0:Int)≠(List.length b_1:Int)))=true then
  (some false) else (jn (kj (fun s41=>xv k a_0 b_1 s41) k 0) (fun s49=>qes s49)))

def uy (s6:Int)(s7:Int)(s8:List Int) : Option (Oc (Int × Int × (List Int)) (Int × (List Int))):=(if (decide (s7<(List.length s8:Int)))=true then
  ((zz s8 s7).bind fun x33=>(some (.nxt ((IntKind.wrap .i64 (s6+1)),(IntKind.wrap .i64 (s7+1)),(List.set s8 s7.toNat s6))))) else (some (.brk (s6,s7,s8))))
def qfs (s46:Int)(s47:Int)(s48:List Int)  : Option (Int × (List Int)):=(some (s46,s48))
def ww (k:Nat)(a_0:List Int)(k_1:Int) : Option (Int × (List Int)):=(jn (kj (fun s45=>uy s45.1 s45.2.1 s45.2.2) k (k_1,0,
  a_0)) (fun s57=>qfs s57.1 s57.2.1 s57.2.2))

def wg (k:Nat)(s6:Int)(s7:Int)(s8:List Command) : Option (Oc (Int × Int × (List Command)) (Int × (List Command))):=(if (decide (s7 <
  (List.length s8:Int)))=true then ((zz s8 s7).bind fun x33=>((ww k x33.InStep (IntKind.wrap .i64 ((IntKind.wrap .i64 ((IntKind.wrap .i64 ((IntKind.wrap .i64
  ((IntKind.wrap .i64 (s6+1))+1))+1))+1))+1))).bind fun v69=>(some (.nxt (v69.1,(IntKind.wrap .i64 (s7+1)),
  (List.set s8 s7.toNat (Command.mk s6 (IntKind.wrap .i64 (s6+1)) (IntKind.wrap .i64 ((IntKind.wrap .i64 (s6+1))+1)) (IntKind.wrap .i64 ((IntKind.wrap .i64
  ((IntKind.wrap .i64 (s6+1))+1))+1)) (IntKind.wrap .i64 ((IntKind.wrap .i64 ((IntKind.wrap .i64 ((IntKind.wrap .i64 (s6+1))+1))+1))+1)) v69.2))))))) else (some
  (.brk (s6,s7,s8))))
def qdh (s84:Int)(s85:Int)(s86:List Command)  : Option (Int × (List Command)):=(some (s84,s86))
def uj (k:Nat)(a_0:List Command)(k_1:Int) : Option (Int × (List Command)):=(jn (kj (fun s83=>wg k s83.1 s83.2.1 s83.2.2) k (k_1,0,
  a_0)) (fun s95=>qdh s95.1 s95.2.1 s95.2.2))

def w9 (s6:Int)(s7:Int)(s8:List Broker) : Option (Oc (Int × Int × (List Broker)) (Int × (List Broker))):=(if (decide (s7 <
  (List.length s8:Int)))=true then ((zz s8 s7).bind fun x33=>(some (.nxt ((IntKind.wrap .i64 ((IntKind.wrap .i64 ((IntKind.wrap .i64 (s6+1))+1))+1)),
  (IntKind.wrap .i64 (s7+1)),(List.set s8 s7.toNat (Broker.mk s6 (IntKind.wrap .i64 (s6+1)) (decide ((Int.tmod (IntKind.wrap .i64 ((IntKind.wrap .i64
  (s6+1))+1)) 3)=0)))))))) else (some (.brk (s6,s7,s8))))
def qd2 (s56:Int)(s57:Int)(s58:List Broker)  : Option (Int × (List Broker)):=(some (s56,s58))
def u4 (k:Nat)(a_0:List Broker)(k_1:Int) : Option (Int × (List Broker)):=(jn (kj (fun s55=>w9 s55.1 s55.2.1 s55.2.2) k (k_1,0,
  a_0)) (fun s67=>qd2 s67.1 s67.2.1 s67.2.2))

def yy (k:Nat)(s6:Int)(s7:Int)(s8:List Partition) : Option (Oc (Int × Int × (List Partition)) (Int × (List Partition))):=(if (decide (s7 <
  (List.length s8:Int)))=true then ((zz s8 s7).bind fun x33=>((ww k x33.Homes s6).bind fun v53=>((ww k x33.InStep v53.1).bind fun v60=>(some
  (.nxt ((IntKind.wrap .i64 ((IntKind.wrap .i64 ((IntKind.wrap .i64 (v60.1+1))+1))+1)),(IntKind.wrap .i64 (s7+1)),
  (List.set s8 s7.toNat (Partition.mk v53.2 v60.2 v60.1 (IntKind.wrap .i64 (v60.1+1)) (IntKind.wrap .i64 ((IntKind.wrap .i64 (v60.1+1))+1)))))))))) else (some (.brk (s6,
  s7,s8))))
def qcx (s87:Int)(s88:Int)(s89:List Partition)  : Option (Int × (List Partition)):=(some (s87,s89))
def w6 (k:Nat)(a_0:List Partition)(k_1:Int) : Option (Int × (List Partition)):=(jn (kj (fun s86=>yy k s86.1 s86.2.1 s86.2.2) k
  (k_1,0,a_0)) (fun s98=>qcx s98.1 s98.2.1 s98.2.2))

def uw (k:Nat)(a_0:Control)(k_1:Int) : Option (Int × Control):=((u4 k a_0.Brokers k_1).bind fun v7 =>
  ((w6 k a_0.Parts v7.1).bind fun v14=>(some (v14.1,(Control.mk v7.2 v14.2 a_0.Next)))))

def w7 (a_0:List Broker)(s3:Int)(s4:Int) : Option (Oc (Int × Int) Int):=(if (decide (s4<(List.length a_0:Int)))=true then
  ((zz a_0 s4).bind fun x27=>(if (decide (x27.Epoch≠s3))=true then (some (.ret (-1))) else ((zz a_0 s4).bind fun x34=>(if (decide (x34.Left≠(IntKind.wrap .i64
  (s3+1))))=true then (some (.ret (-1))) else ((zz a_0 s4).bind fun x41=>(if (!(x41.Fenced == (decide ((Int.tmod (IntKind.wrap .i64 ((IntKind.wrap .i64
  (s3+1))+1)) 3)=0))))=true then (some (.ret (-1))) else (some (.nxt ((IntKind.wrap .i64 ((IntKind.wrap .i64 ((IntKind.wrap .i64 (s3+1))+1))+1)),
  (IntKind.wrap .i64 (s4+1))))))))))) else (some (.brk (s3,s4))))
def qdy (s51:Int)(s52:Int)  : Option Int:=(some s51)
def uz (k:Nat)(a_0:List Broker)(k_1:Int) : Option Int:=(jn (kj (fun s50=>w7 a_0 s50.1 s50.2) k (k_1,
  0)) (fun s59=>qdy s59.1 s59.2))

def u0 (a_0:List Int)(s3:Int)(s4:Int) : Option (Oc (Int × Int) Int):=(if (decide (s4<(List.length a_0:Int)))=true then
  ((zz a_0 s4).bind fun x27=>(if (decide (x27≠s3))=true then (some (.ret (-1))) else (some (.nxt ((IntKind.wrap .i64 (s3+1)),
  (IntKind.wrap .i64 (s4+1))))))) else (some (.brk (s3,s4))))
def qf0 (s37:Int)(s38:Int)  : Option Int:=(some s37)
def wt (k:Nat)(a_0:List Int)(k_1:Int) : Option Int:=(jn (kj (fun s36=>u0 a_0 s36.1 s36.2) k (k_1,
  0)) (fun s45=>qf0 s45.1 s45.2))

def yz (k:Nat)(a_0:List Partition)(s3:Int)(s4:Int) : Option (Oc (Int × Int) Int):=(if (decide (s4<(List.length a_0:Int)))=true then
  ((zz a_0 s4).bind fun x27=>((wt k x27.Homes s3).bind fun v30=>(if (decide (v30<0))=true then (some (.ret (-1))) else ((zz a_0 s4).bind fun x37 =>
  ((wt k x37.InStep v30).bind fun v40=>(if (decide (v40<0))=true then (some (.ret (-1))) else ((zz a_0 s4).bind fun x47=>(if (decide
  (x47.Leader≠v40))=true then (some (.ret (-1))) else ((zz a_0 s4).bind fun x54=>(if (decide (x54.Epoch≠(IntKind.wrap .i64 (v40+1))))=true then (some (.ret
  (-1))) else ((zz a_0 s4).bind fun x61=>(if (decide (x61.Stamp≠(IntKind.wrap .i64 ((IntKind.wrap .i64 (v40+1))+1))))=true then (some (.ret (-1))) else (some (.nxt
  ((IntKind.wrap .i64 ((IntKind.wrap .i64 ((IntKind.wrap .i64 (v40+1))+1))+1)),(IntKind.wrap .i64 (s4+1))))))))))))))))) else (some (.brk (s3,s4))))
def qcv (s71:Int)(s72:Int)  : Option Int:=(some s71)
def wx (k:Nat)(a_0:List Partition)(k_1:Int) : Option Int:=(jn (kj (fun s70=>yz k a_0 s70.1 s70.2) k (k_1,
  0)) (fun s79=>qcv s79.1 s79.2))

def xd (k:Nat)(a_0:Control)(k_1:Int) : Option Int:=((uz k a_0.Brokers k_1).bind fun v7=>(if (decide (v7<0))=true then (some (-1)) else
  ((wx k a_0.Parts v7).bind fun v11=>(if (decide (v11<0))=true then (some (-1)) else (some v11)))))

def yj (k:Nat)(v_0:Int)(v_1:List Command) : Option Bool:=((qap k v_1 1048576).bind fun v1=>(if (decide (v1<0))=true then
  (some true) else ((yx k v_1).bind fun v5=>((yu k v_0 v5).bind fun v17=>((yx k v_1).bind fun v45 =>
  ((k9 v_0 v45).bind fun v57=>((xa k v57.1 v17.1).bind fun v85=>((if (!v85)=true then (some true) else
  ((wd k v57.2.1 v17.2.1).bind fun v91=>(some (!v91)))).bind fun v91=>(if (v91||(!(v57.2.2 == v17.2.2)))=true then (some false) else
  ((yx k v_1).bind fun v129=>((qaq k v45 v129).bind fun v141=>(if (!v141)=true then (some false) else
  ((uj k v45 1).bind fun v145=>((if (decide (v145.1<0))=true then (some true) else ((xa k v57.1 v17.1).bind fun v155=>(some
  (!v155)))).bind fun v155=>((if v155=true then (some true) else ((wd k v57.2.1 v17.2.1).bind fun v178=>(some (!v178)))).bind fun v178=>(if (v178 ||
  (!(v57.2.2 == v17.2.2)))=true then (some false) else ((uw k v57.1 1).bind fun v213=>((ww k v57.2.1 v213.1).bind fun v222=>((xd k
  (Control.mk v213.2.Brokers v213.2.Parts v57.1.Next) 1).bind fun v229=>(if (decide (v229<0))=true then (some false) else ((wt k v222.2 v229).bind fun v233 =>
  (if (decide (v233<0))=true then (some false) else (if (decide (v233≠v222.1))=true then (some false) else ((yx k v_1).bind fun v238 =>
  ((k9 v_0 v238).bind fun v250=>((xa k v250.1 v17.1).bind fun v278=>((if (!v278)=true then (some true) else
  ((wd k v250.2.1 v17.2.1).bind fun v284=>(some (!v284)))).bind fun v284=>(if (v284||(!(v250.2.2 == v17.2.2)))=true then (some false) else ((xd k
  (Control.mk v213.2.Brokers v213.2.Parts v57.1.Next) 1).bind fun v312=>(if (decide (v312<0))=true then (some false) else ((wt k v222.2 v312).bind fun v316 =>
  (if (decide (v316<0))=true then (some false) else (if (decide (v316≠v222.1))=true then (some false) else (some true))))))))))))))))))))))))))))))))))
end Go.Proofs.Ytjloihcijdcpeaa.X
