/- The seat's types and functions, as plain Lean has them. -/
import Derived.Test.YtjloihcijdcpeaaZIns
set_option linter.unusedVariables false
set_option linter.unusedSimpArgs false
set_option maxRecDepth 100000
namespace Go.Proofs.Ytjloihcijdcpeaa.X
open Go
open Nat (reduceEqDiff)
structure BoundsError where
 x:Int
 y:Int
 signed:Bool
 code:Int
 deriving DecidableEq,Inhabited
def qua (x:BoundsError) : List XV:=[.int .i64 x.x,.int .i64 x.y,.bool x.signed,.int .u8 x.code]
structure Broker where
 Epoch:Int
 Left:Int
 Fenced:Bool
 deriving DecidableEq,Inhabited
def qg (x:Broker) : List XV:=[.int .i64 x.Epoch,.int .i64 x.Left,.bool x.Fenced]
structure Partition where
 Homes:List Int
 InStep:List Int
 Leader:Int
 Epoch:Int
 Stamp:Int
 deriving DecidableEq,Inhabited
def qd (x:Partition) : List XV:=[lst cI x.Homes,lst cI x.InStep,.int .i64 x.Leader,.int .i64 x.Epoch,.int .i64 x.Stamp]
structure Control where
 Brokers:List Broker
 Parts:List Partition
 Next:Int
 deriving DecidableEq,Inhabited
def qlg (x:Control) : List XV:=[lst qg x.Brokers,lst qd x.Parts,.int .i64 x.Next]
structure Command where
 Kind:Int
 Broker:Int
 Epoch:Int
 Part:Int
 Stamp:Int
 InStep:List Int
 deriving DecidableEq,Inhabited
def qlf (x:Command) : List XV:=[.int .i64 x.Kind,.int .i64 x.Broker,.int .i64 x.Epoch,.int .i64 x.Part,.int .i64 x.Stamp,lst cI x.InStep]
structure L1Cur where
 code:List Int
 at_:Int
 seed:Int
 deriving DecidableEq,Inhabited
def q64 (x:L1Cur) : List XV:=[lst cU8 x.code,.int .i64 x.at_,.int .u64 x.seed]

def zr (n_0:Int)(low_1:Int)(high_2:Int) : Bool:=((decide (low_1≤n_0))&&(decide (n_0≤high_2)))

def qaj (list_0:List Int)(many_1:Int)(i1:Nat)(x2:Int) : Option (Oc Unit Bool):=((if (!(zr x2 0 (IntKind.wrap .i64 (many_1 - 1))))=true then
  (some true) else ((if (decide ((0:Int)<(i1:Int)))=true then ((z2 list_0 (IntKind.wrap .i64 ((i1:Int) - 1))).bind fun x30=>(some (decide (x2≤x30)))) else
  (some false)).bind fun v30=>(some v30))).bind fun v27=>(if v27=true then (some (.ret false)) else (some (.nxt ()))))
def qep  : Option Bool:=(some true)
def wj (list_0:List Int)(many_1:Int) : Option Bool:=(jn (ju (fun i1 x2 _=>qaj list_0 many_1 i1 x2 ) list_0 ())
  (fun _=>qep ))

def qba (v_0:Command)(v_1:Int) : Option Bool:=((if ((((!(zr v_0.Broker 0 (IntKind.wrap .i64 (v_1 - 1))))||(!(zr v_0.Epoch 0 1000))) ||
  (!(zr v_0.Part 0 1000)))||(!(zr v_0.Stamp 0 1000)))=true then (some true) else ((wj v_0.InStep v_1).bind fun v37=>(some (!v37)))).bind fun v37 =>
  (if v37=true then (some false) else (if (decide (v_0.Kind=1))=true then (some ((((decide (v_0.Epoch=0))&&(decide (v_0.Stamp=0)))&&(decide
  ((List.length v_0.InStep:Int)=0)))&&(decide (v_0.Part=0)))) else (if (decide (v_0.Kind=2))=true then (some (((decide (v_0.Stamp=0))&&(decide
  ((List.length v_0.InStep:Int)=0)))&&(decide (v_0.Part=0)))) else (if (decide (v_0.Kind=3))=true then (some (((((decide (v_0.Epoch=0))&&(decide
  (v_0.Stamp=0)))&&(decide ((List.length v_0.InStep:Int)=0)))&&(decide (v_0.Part=0)))&&(decide (v_0.Broker=0)))) else (if (decide (v_0.Kind=4))=true then
  (some ((((decide (v_0.Epoch=0))&&(decide (v_0.Stamp=0)))&&(decide (v_0.Part=0)))&&(decide (v_0.Broker=0)))) else (if (decide (v_0.Kind=5))=true then
  (some true) else (if (decide (v_0.Kind=6))=true then (some (((decide (v_0.Epoch=0))&&(decide (v_0.Stamp=0)))&&(decide ((List.length v_0.InStep:Int)=0)))) else
  (some false)))))))))

def u3 (l22:List Broker)(i44:Nat)(x45:Partition)(s39:Control) : Option (Oc Control Control):=((yi 8 ([] : List Int) x45.Homes).bind fun l79 =>
  ((yi 8 ([] : List Int) x45.InStep).bind fun l96=>((yi 72 s39.Parts [(Partition.mk l79 l96 x45.Leader x45.Epoch x45.Stamp)]).bind fun l113=>(some (.nxt
  (Control.mk l22 l113 s39.Next))))))
def qd6 (l22:List Broker)(s126:Control)  : Option Control:=(some (Control.mk l22 s126.Parts s126.Next))
def yq (c_0:Control) : Option Control:=((yi 24 ([] : List Broker) c_0.Brokers).bind fun l22=>(jn (ju
  (fun i44 x45 s125=>u3 l22 i44 x45 s125) c_0.Parts (Control.mk l22 [] c_0.Next)) (fun s139=>qd6 l22 s139)))

def wv (v_1:Int)(i1:Nat)(x2:Int) : Option (Oc Unit Int):=(if (decide (v_1=x2))=true then (some (.ret (i1:Int))) else (some (.nxt ())))
def qd5  : Option Int:=(some (-1))
def qbi (s_0:List Int)(v_1:Int) : Option Int:=(jn (ju (fun i1 x2 _=>wv v_1 i1 x2 ) s_0 ()) (fun _=>qd5 ))

def jr (s_0:List Int)(v_1:Int) : Option Bool:=((qbi s_0 v_1).bind fun v1=>(some (decide ((0:Int)≤v1))))

def qdp (k_0:Int)(cap_0:List Int) : Option Bool:=((jr cap_0 k_0).bind fun v1=>(some (!v1)))

def qbr (of_1:List Int)(i16:Nat)(x17:Int) : Option (Oc Unit Int):=((qdp x17 of_1).bind fun v38=>(if v38=true then (some (.ret (i16:Int))) else
  (some (.nxt ()))))
def qhm  : Option Int:=(some (-1))
def qae (list_0:List Int)(of_1:List Int) : Option Bool:=(((jn (ju (fun i16 x17 _=>qbr of_1 i16 x17 ) list_0 ())
  (fun _=>qhm ))).bind fun v10=>(some (!(decide ((0:Int)≤v10)))))

def y3 (i41:Nat)(s38:List Broker) : Option (Oc (List Broker) (Int × Control)):=((z2 s38 (i41:Int)).bind fun x62=>(some (.nxt (List.set s38
  (i41:Int).toNat (Broker.mk x62.Epoch (mxI (IntKind.wrap .i64 (x62.Left - 1)) 0) x62.Fenced)))))
def qcl (v_0:Control)(s72:List Broker)  : Option (Int × Control):=(some (0,(Control.mk s72 v_0.Parts v_0.Next)))
def yd (v_0:Control)(x161:Partition)(i274:Nat)(x275:Int) : Option (Oc Unit Int):=((z2 v_0.Brokers x275).bind fun x300 =>
  ((if x300.Fenced=true then ((jr x161.InStep x275).bind fun v321=>(some (!v321))) else (some false)).bind fun v306=>(if v306=true then (some (.ret
  (i274:Int))) else (some (.nxt ())))))
def qai  : Option Int:=(some (-1))
def kr (v_0:Control)(v_1:Command)(x7:Broker)(s141:Bool)  : Option (Int × Control):=(if s141=true then (if (decide
  ((List.length v_0.Parts:Int)≤v_1.Part))=true then (some (1,
  v_0)) else ((z2 v_0.Parts v_1.Part).bind fun x161=>(if (decide (v_1.Kind=6))=true then ((jr x161.InStep v_1.Broker).bind fun v182=>(if
  ((!v182)||x7.Fenced)=true then (some (4,v_0)) else (some (0,
  (Control.mk v_0.Brokers (List.set v_0.Parts v_1.Part.toNat (Partition.mk x161.Homes x161.InStep v_1.Broker x161.Epoch x161.Stamp)) v_0.Next))))) else (if (decide
  (v_1.Epoch≠x161.Epoch))=true then (some (2,v_0)) else (if (decide (v_1.Broker≠x161.Leader))=true then (some (3,
  v_0)) else (if (decide (v_1.Stamp≠x161.Stamp))=true then (some (2,
  v_0)) else (((jn (ju (fun i274 x275 _=>yd v_0 x161 i274 x275 ) v_1.InStep ()) (fun _=>qai ))).bind fun v267 =>
  ((qae v_1.InStep x161.Homes).bind fun v363=>(if (!v363)=true then (some (4,
  v_0)) else ((jr v_1.InStep x161.Leader).bind fun v371=>(if ((!v371)||(decide ((0:Int)≤v267)))=true then (some (4,
  v_0)) else ((yi 8 ([] : List Int) v_1.InStep).bind fun l395=>(some (0,
  (Control.mk v_0.Brokers (List.set v_0.Parts v_1.Part.toNat (Partition.mk x161.Homes l395 x161.Leader x161.Epoch (IntKind.wrap .i64
  (x161.Stamp+1)))) v_0.Next))))))))))))))) else (some (0,v_0)))
def qag (v_0:Control)(v_1:Command) : Option (Int × Control):=((z2 v_0.Brokers v_1.Broker).bind fun x7=>(if (decide (v_1.Kind=1))=true then (if (decide
  (v_0.Next=1000))=true then (some (4,v_0)) else (some (0,
  (Control.mk (List.set v_0.Brokers v_1.Broker.toNat (Broker.mk v_0.Next 9 x7.Fenced)) v_0.Parts (IntKind.wrap .i64 (v_0.Next+1)))))) else (if (decide
  (v_1.Kind=2))=true then (if (decide (x7.Epoch=0))=true then (some (1,v_0)) else (if (decide (x7.Epoch≠v_1.Epoch))=true then (some (2,v_0)) else (some (0,
  (Control.mk (List.set v_0.Brokers v_1.Broker.toNat (Broker.mk x7.Epoch 9 x7.Fenced)) v_0.Parts v_0.Next))))) else (if (decide (v_1.Kind=3))=true then (jn (xg
  (fun i41 s71=>y3 i41 s71) (List.length v_0.Brokers:Int) v_0.Brokers) (fun s79=>qcl v_0 s79)) else (if (decide (v_1.Kind=4))=true then
  (if ((decide ((List.length v_1.InStep:Int)=0))||(decide ((List.length v_0.Parts:Int)=5)))=true then (some (4,
  v_0)) else ((yi 8 ([] : List Int) v_1.InStep).bind fun l104=>((yi 8 ([] : List Int) v_1.InStep).bind fun l114=>((yi 72 v_0.Parts [(Partition.mk l104 l114
  (-1) 0 0)]).bind fun l130=>(some (0,
  (Control.mk v_0.Brokers l130 v_0.Next))))))) else ((if (decide (v_1.Kind=5))=true then (some (decide (v_1.Kind=5))) else (some (decide (v_1.Kind=6)))).bind
  (fun s418=>kr v_0 v_1 x7 s418)))))))

def ud (c_0:Control)(i7:Nat)(x8:Int) : Option (Oc Unit Int):=((z2 c_0.Brokers x8).bind fun x29=>(if (!x29.Fenced)=true then (some
  (.ret x8)) else (some (.nxt ()))))
def qb4  : Option Int:=(some (-1))
def yp (c_0:Control)(list_1:List Int) : Option Int:=(jn (ju (fun i7 x8 _=>ud c_0 i7 x8 ) list_1 ())
  (fun _=>qb4 ))

def qax (i75:Nat)(s72:List Broker) : Option (Oc (List Broker) (Control × Int)):=((z2 s72 (i75:Int)).bind fun x98=>(some (.nxt (List.set s72
  (i75:Int).toNat (Broker.mk x98.Epoch x98.Left (decide (x98.Left=0)))))))
def qaw (v_0:Control)(i125:Nat)(s289:List Partition)  : Option (Oc (List Partition) (Control × Int)):=((z2 s289 (i125:Int)).bind fun x349=>(if
  ((decide ((1000:Int)<x349.Stamp))||(decide ((1000:Int)<x349.Epoch)))=true then ((yq v_0).bind fun v380=>(some (.ret (v380,
  4)))) else (some (.nxt s289))))
def qct (v_0:Control)(i125:Nat)(s196:List Partition)  : Option (Oc (List Partition) (Control × Int)):=((if (decide ((List.length v_0.Parts:Int) ≤
  (i125:Int)))=true then (some true) else ((z2 s196 (i125:Int)).bind fun x253=>((z2 v_0.Parts (i125:Int)).bind fun x271=>(some (decide
  (x253.Leader≠x271.Leader)))))).bind fun v253=>((if v253=true then ((z2 s196 (i125:Int)).bind fun x300=>(if (decide (x300.Leader≠(-1)))=true then (some
  (List.set s196 (i125:Int).toNat (Partition.mk x300.Homes x300.InStep x300.Leader (IntKind.wrap .i64 (x300.Epoch+1)) (IntKind.wrap .i64 (x300.Stamp+1))))) else (some
  (List.set s196 (i125:Int).toNat (Partition.mk x300.Homes x300.InStep x300.Leader x300.Epoch (IntKind.wrap .i64 (x300.Stamp+1))))))) else (some s196)).bind
  (fun s410=>qaw v_0 i125 s410)))
def yk (v_0:Control)(v39:Int × Control)(s110:List Broker)(i125:Nat)(s122:List Partition) : Option (Oc (List Partition) (Control × Int)) :=
  ((z2 s122 (i125:Int)).bind fun x148=>((if (decide (x148.Leader=(-1)))=true then (some true) else ((z2 s110 x148.Leader).bind fun x171 =>
  (some x171.Fenced))).bind fun v171=>((if v171=true then ((yp (Control.mk s110 s122 v39.2.Next) x148.InStep).bind fun v226=>(some (List.set s122
  (i125:Int).toNat (Partition.mk x148.Homes x148.InStep v226 x148.Epoch x148.Stamp)))) else (some s122)).bind (fun s411=>qct v_0 i125 s411))))
def qe8 (v39:Int × Control)(s110:List Broker)(s413:List Partition)  : Option (Control × Int):=(some ((Control.mk s110 s413 v39.2.Next),0))
def qcq (v_0:Control)(v39:Int × Control)(s110:List Broker)  : Option (Control × Int):=(jn (xg
  (fun i125 s412=>yk v_0 v39 s110 i125 s412) (List.length v39.2.Parts:Int) v39.2.Parts) (fun s424=>qe8 v39 s110 s424))
def qa9 (v_0:Control)(v_1:Command) : Option (Control × Int):=((yq v_0).bind fun v17=>((qag v17 v_1).bind fun v39=>(if (decide
  (v39.1≠0))=true then ((yq v_0).bind fun v51=>(some (v51,
  v39.1))) else (jn (xg (fun i75 s109=>qax i75 s109) (List.length v39.2.Brokers:Int) v39.2.Brokers) (fun s425=>qcq v_0 v39 s425)))))

def uc (v_0:Control)(i26:Nat)(x27:Broker) : Option (Oc Unit Bool):=(if ((((!(zr x27.Epoch 0 (IntKind.wrap .i64 (v_0.Next - 1)))) ||
  (!(zr x27.Left 0 9)))||((decide (x27.Epoch=0))&&(decide (x27.Left≠0))))||(!(x27.Fenced == (decide (x27.Left=0)))))=true then (some (.ret false)) else (some
  (.nxt ())))
def xz (v_0:Control)(i121:Nat)(x122:Partition) : Option (Oc Unit Bool):=((if (decide ((List.length x122.Homes:Int)=0))=true then (some true) else
  ((wj x122.Homes (List.length v_0.Brokers:Int)).bind fun v155=>(some (!v155)))).bind fun v155=>((if (v155||(decide
  ((List.length x122.InStep:Int)=0)))=true then (some true) else ((wj x122.InStep (List.length v_0.Brokers:Int)).bind fun v189=>(some
  (!v189)))).bind fun v189=>((if v189=true then (some true) else ((qae x122.InStep x122.Homes).bind fun v210=>(some (!v210)))).bind fun v210=>(if ((v210 ||
  (!(zr x122.Epoch 0 1000)))||(!(zr x122.Stamp 0 1000)))=true then (some (.ret false)) else ((yp v_0 x122.InStep).bind fun v258=>((if
  ((decide (x122.Leader=(-1)))&&(decide (v258≠(-1))))=true then (some true) else ((if (decide (x122.Leader≠(-1)))=true then
  ((jr x122.InStep x122.Leader).bind fun v280=>((if (!v280)=true then (some true) else ((z2 v_0.Brokers x122.Leader).bind fun x286 =>
  (some x286.Fenced))).bind fun v286=>(some v286))) else (some false)).bind fun v280=>(some v280))).bind fun v277=>(if v277=true then (some (.ret false)) else (some
  (.nxt ())))))))))
def qfa  : Option Bool:=(some true)
def qcv (v_0:Control)  : Option Bool:=(jn (ju (fun i121 x122 _=>xz v_0 i121 x122 ) v_0.Parts ()) (fun _=>qfa ))
def qbb (v_0:Control) : Option Bool:=(if (((!(zr (List.length v_0.Brokers:Int) 1 6))||(decide ((5:Int)<(List.length v_0.Parts:Int)))) ||
  (!(zr v_0.Next 1 1000)))=true then (some false) else (jn (ju (fun i26 x27 _=>uc v_0 i26 x27 ) v_0.Brokers ()) (fun _=>qcv v_0 )))

def y5 (c_0:Control)(x_1:Command) : Option (Control × Int × Bool):=((qbb c_0).bind fun v17=>((if (!v17)=true then (some true) else
  ((qba x_1 (List.length c_0.Brokers:Int)).bind fun v23=>(some (!v23)))).bind fun v23=>(if v23=true then (some ((Control.mk [] [] 0),0,
  false)) else ((qa9 c_0 x_1).bind fun v41=>(some (v41.1,v41.2,true))))))

def zl (n_0:Int)(lo_1:Int)(hi_2:Int) : Bool:=((decide (lo_1≤n_0))&&(decide (n_0≤hi_2)))

def qb3 (l_0:List Int)(many_1:Int)(i1:Nat)(x2:Int) : Option (Oc Unit Bool):=((if ((decide (x2<0))||(decide (many_1≤x2)))=true then
  (some true) else ((if (decide ((0:Int)<(i1:Int)))=true then ((z2 l_0 (IntKind.wrap .i64 ((i1:Int) - 1))).bind fun x44=>(some (decide (x2≤x44)))) else
  (some false)).bind fun v44=>(some v44))).bind fun v41=>(if v41=true then (some (.ret false)) else (some (.nxt ()))))
def qf7  : Option Bool:=(some true)
def xj (l_0:List Int)(many_1:Int) : Option Bool:=(jn (ju (fun i1 x2 _=>qb3 l_0 many_1 i1 x2 ) l_0 ()) (fun _=>qf7 ))

def qc5 (n_1:Int)(i1:Nat)(x2:Int) : Option (Oc Unit Bool):=(if (decide (x2=n_1))=true then (some (.ret true)) else (some (.nxt ())))
def qhq  : Option Bool:=(some false)
def uf (l_0:List Int)(n_1:Int) : Option Bool:=(jn (ju (fun i1 x2 _=>qc5 n_1 i1 x2 ) l_0 ()) (fun _=>qhq ))

def yb (c_0:Control)(i7:Nat)(x8:Int) : Option (Oc Unit Int):=((z2 c_0.Brokers x8).bind fun x29=>(if (!x29.Fenced)=true then (some (.ret x8)) else
  (some (.nxt ()))))
def qft  : Option Int:=(some (-1))
def qab (c_0:Control)(l_1:List Int) : Option Int:=(jn (ju (fun i7 x8 _=>yb c_0 i7 x8 ) l_1 ()) (fun _=>qft ))

def qc7 (a_0:List Int)(i1:Nat)(x2:Int) : Option (Oc Unit Bool):=((uf a_0 x2).bind fun v23=>(if (!v23)=true then (some (.ret false)) else (some
  (.nxt ()))))
def qhj  : Option Bool:=(some true)
def qcn (a_0:List Int)(b_1:List Int) : Option Bool:=(jn (ju (fun i1 x2 _=>qc7 a_0 i1 x2 ) b_1 ()) (fun _=>qhj ))

def qb5 (v_0:Control)(v_1:Partition) : Option Bool:=((if (decide ((List.length v_1.Homes:Int)=0))=true then (some true) else ((xj v_1.Homes
  (List.length v_0.Brokers:Int)).bind fun v16=>(some (!v16)))).bind fun v16=>((if (v16||(decide ((List.length v_1.InStep:Int)=0)))=true then (some true) else
  ((xj v_1.InStep (List.length v_0.Brokers:Int)).bind fun v42=>(some (!v42)))).bind fun v42=>((if v42=true then (some true) else
  ((qcn v_1.Homes v_1.InStep).bind fun v59=>(some (!v59)))).bind fun v59=>(if v59=true then (some false) else ((if (decide (v_1.Leader=(-1)))=true then
  ((qab v_0 v_1.InStep).bind fun v77=>(some (decide ((0:Int)≤v77)))) else (some false)).bind fun v77=>((if v77=true then (some true) else ((if (decide
  (v_1.Leader≠(-1)))=true then ((uf v_1.InStep v_1.Leader).bind fun v97=>((if (!v97)=true then (some true) else ((z2 v_0.Brokers v_1.Leader).bind fun x103 =>
  (some x103.Fenced))).bind fun v103=>(some v103))) else (some false)).bind fun v97=>(some v97))).bind fun v94=>(if v94=true then (some false) else (some
  ((zl v_1.Epoch 0 1000)&&(zl v_1.Stamp 0 1000))))))))))

def wt (v_0:Control)(i7:Nat)(x8:Broker) : Option (Oc Unit Bool):=(if (((((decide (x8.Epoch<0))||(decide (v_0.Next≤x8.Epoch))) ||
  (!(zl x8.Left 0 9)))||(!(x8.Fenced == (decide (x8.Left=0)))))||((decide (x8.Epoch=0))&&(decide ((0:Int)<x8.Left))))=true then (some (.ret false)) else
  (some (.nxt ())))
def u0 (v_0:Control)(i124:Nat)(x125:Partition) : Option (Oc Unit Bool):=((qb5 v_0 x125).bind fun v154=>(if (!v154)=true then (some
  (.ret false)) else (some (.nxt ()))))
def qd4  : Option Bool:=(some true)
def qbz (v_0:Control)  : Option Bool:=(if (((!(zl (List.length v_0.Brokers:Int) 1 6))||(decide ((5:Int)<(List.length v_0.Parts:Int)))) ||
  (!(zl v_0.Next 1 1000)))=true then (some false) else (jn (ju (fun i124 x125 _=>u0 v_0 i124 x125 ) v_0.Parts ())
  (fun _=>qd4 )))
def w9 (v_0:Control) : Option Bool:=(jn (ju (fun i7 x8 _=>wt v_0 i7 x8 ) v_0.Brokers ()) (fun _=>qbz v_0 ))

def qad (v_0:Control)(v_1:Command) : Option Bool:=(if (decide (v_1.Kind=1))=true then (some ((((((decide ((0:Int)≤v_1.Broker))&&(decide (v_1.Broker <
  (List.length v_0.Brokers:Int))))&&(decide (v_1.Epoch=0)))&&(decide (v_1.Part=0)))&&(decide (v_1.Stamp=0)))&&(decide
  ((List.length v_1.InStep:Int)=0)))) else (if (decide (v_1.Kind=2))=true then (some ((((((decide ((0:Int)≤v_1.Broker))&&(decide (v_1.Broker <
  (List.length v_0.Brokers:Int))))&&(zl v_1.Epoch 0 1000))&&(decide (v_1.Part=0)))&&(decide (v_1.Stamp=0)))&&(decide
  ((List.length v_1.InStep:Int)=0)))) else (if (decide (v_1.Kind=3))=true then (some (((((decide (v_1.Broker=0))&&(decide (v_1.Epoch=0)))&&(decide
  (v_1.Part=0)))&&(decide (v_1.Stamp=0)))&&(decide ((List.length v_1.InStep:Int)=0)))) else (if (decide (v_1.Kind=4))=true then ((if ((((decide
  (v_1.Broker=0))&&(decide (v_1.Epoch=0)))&&(decide (v_1.Part=0)))&&(decide (v_1.Stamp=0)))=true then ((xj v_1.InStep
  (List.length v_0.Brokers:Int)).bind fun v155=>(some v155)) else (some false)).bind fun v155=>(some v155)) else (if (decide (v_1.Kind=5))=true then ((if (((((decide
  ((0:Int)≤v_1.Broker))&&(decide (v_1.Broker<(List.length v_0.Brokers:Int))))&&(zl v_1.Epoch 0 1000))&&(zl v_1.Part 0 1000)) &&
  (zl v_1.Stamp 0 1000))=true then ((xj v_1.InStep (List.length v_0.Brokers:Int)).bind fun v198=>(some v198)) else (some false)).bind fun v198 =>
  (some v198)) else (if (decide (v_1.Kind=6))=true then (some ((((((decide ((0:Int)≤v_1.Broker))&&(decide (v_1.Broker<(List.length v_0.Brokers:Int))))&&(decide
  (v_1.Epoch=0)))&&(zl v_1.Part 0 1000))&&(decide (v_1.Stamp=0)))&&(decide ((List.length v_1.InStep:Int)=0)))) else (some false)))))))

def uy (v_0:Control)(x14:Partition)(i50:Nat)(x51:Int) : Option (Oc Unit Int):=((z2 v_0.Brokers x51).bind fun x73=>((if x73.Fenced=true then
  ((uf x14.InStep x51).bind fun v79=>(some (!v79))) else (some false)).bind fun v79=>(if v79=true then (some (.ret 4)) else (some (.nxt ())))))
def qfk  : Option Int:=(some 0)
def wo (v_0:Control)(v_1:Command) : Option Int:=(if (decide ((List.length v_0.Parts:Int)≤v_1.Part))=true then (some 1) else
  ((z2 v_0.Parts v_1.Part).bind fun x14=>(if (decide (v_1.Epoch≠x14.Epoch))=true then (some 2) else (if (decide (v_1.Broker≠x14.Leader))=true then (some 3) else (if
  (decide (v_1.Stamp≠x14.Stamp))=true then (some 2) else ((qcn x14.Homes v_1.InStep).bind fun v28=>((if (!v28)=true then (some true) else
  ((uf v_1.InStep x14.Leader).bind fun v34=>(some (!v34)))).bind fun v34=>(if v34=true then (some 4) else (jn (ju
  (fun i50 x51 _=>uy v_0 x14 i50 x51 ) v_1.InStep ()) (fun _=>qfk ))))))))))

def qbt (i83:Nat)(s80:List Broker) : Option (Oc (List Broker) (Oc (Control × (List Broker)) (Control × Int))):=((z2 s80 (i83:Int)).bind fun x105=>(if
  (decide ((0:Int)<x105.Left))=true then (some (.nxt (List.set s80 (i83:Int).toNat (Broker.mk x105.Epoch (IntKind.wrap .i64 (x105.Left - 1)) x105.Fenced)))) else (some
  (.nxt s80))))
def qhp (v_0:Control)(s119:List Broker)  : Option (Oc (Control × (List Broker)) (Control × Int)):=(some (.nxt ((Control.mk s119 v_0.Parts v_0.Next),s119)))
def qc8 (i335:Nat)(s332:List Broker) : Option (Oc (List Broker) (Control × Int)):=((z2 s332 (i335:Int)).bind fun x357=>(some (.nxt (List.set s332
  (i335:Int).toNat (Broker.mk x357.Epoch x357.Left (decide (x357.Left=0)))))))
def qho (s15:Control)(s369:List Broker)  : Option (Control × Int):=(some ((Control.mk s369 s15.Parts s15.Next),0))
def qc3 (s15:Control)(s20:List Broker)  : Option (Control × Int):=(jn (xg (fun i335 s368=>qc8 i335 s368) (List.length s20:Int) s20)
  (fun s379=>qho s15 s379))
def qdl (v_0:Control)(v_1:Command) : Option (Control × Int):=(jn (if (decide (v_1.Kind=1))=true then (if (decide (v_0.Next=1000))=true then (some (.ret (v_0,
  4))) else ((z2 v_0.Brokers v_1.Broker).bind fun x35=>(some (.nxt ((Control.mk (List.set v_0.Brokers v_1.Broker.toNat (Broker.mk v_0.Next 9 false)) v_0.Parts
  (IntKind.wrap .i64 (v_0.Next+1))),(List.set v_0.Brokers v_1.Broker.toNat (Broker.mk v_0.Next 9 false))))))) else (if (decide (v_1.Kind=2))=true then
  ((z2 v_0.Brokers v_1.Broker).bind fun x49=>(if (decide (x49.Epoch=0))=true then (some (.ret (v_0,
  1))) else (if (decide (x49.Epoch≠v_1.Epoch))=true then (some (.ret (v_0,
  2))) else (some (.nxt ((Control.mk (List.set v_0.Brokers v_1.Broker.toNat (Broker.mk x49.Epoch 9 x49.Fenced)) v_0.Parts v_0.Next),
  (List.set v_0.Brokers v_1.Broker.toNat (Broker.mk x49.Epoch 9 x49.Fenced)))))))) else (if (decide (v_1.Kind=3))=true then (jn (xg
  (fun i83 s118=>qbt i83 s118) (List.length v_0.Brokers:Int) v_0.Brokers) (fun s128=>qhp v_0 s128)) else (if (decide (v_1.Kind=4))=true then (if
  ((decide ((List.length v_1.InStep:Int)=0))||(decide ((List.length v_0.Parts:Int)=5)))=true then (some (.ret (v_0,
  4))) else ((yi 8 ([] : List Int) v_1.InStep).bind fun l157=>((yi 8 ([] : List Int) v_1.InStep).bind fun l168=>((yi 72 v_0.Parts [(Partition.mk l157 l168
  (-2) 0 0)]).bind fun l185=>(some (.nxt ((Control.mk v_0.Brokers l185 v_0.Next),
  v_0.Brokers))))))) else (if (decide (v_1.Kind=5))=true then ((wo v_0 v_1).bind fun v198=>(if (decide (v198≠0))=true then (some (.ret (v_0,
  v198))) else ((yi 8 ([] : List Int) v_1.InStep).bind fun l212=>((z2 v_0.Parts v_1.Part).bind fun x223=>(some (.nxt ((Control.mk v_0.Brokers
  (List.set v_0.Parts v_1.Part.toNat (Partition.mk x223.Homes l212 x223.Leader x223.Epoch (IntKind.wrap .i64 (x223.Stamp+1)))) v_0.Next),
  v_0.Brokers))))))) else (if (decide (v_1.Kind=6))=true then (if (decide ((List.length v_0.Parts:Int)≤v_1.Part))=true then (some (.ret (v_0,
  1))) else ((z2 v_0.Parts v_1.Part).bind fun x262=>((uf x262.InStep v_1.Broker).bind fun v282=>((if (!v282)=true then (some true) else
  ((z2 v_0.Brokers v_1.Broker).bind fun x288=>(some x288.Fenced))).bind fun v288=>(if v288=true then (some (.ret (v_0,
  4))) else (some (.nxt ((Control.mk v_0.Brokers (List.set v_0.Parts v_1.Part.toNat (Partition.mk x262.Homes x262.InStep v_1.Broker x262.Epoch x262.Stamp)) v_0.Next),
  v_0.Brokers)))))))) else (some (.nxt (v_0,v_0.Brokers))))))))) (fun s380=>qc3 s380.1 s380.2))

def uh (l22:List Broker)(i44:Nat)(x45:Partition)(s39:Control) : Option (Oc Control Control):=((yi 8 ([] : List Int) x45.Homes).bind fun l79=>((yi 8
  ([] : List Int) x45.InStep).bind fun l96=>((yi 72 s39.Parts [(Partition.mk l79 l96 x45.Leader x45.Epoch x45.Stamp)]).bind fun l113=>(some (.nxt
  (Control.mk l22 l113 s39.Next))))))
def qgx (l22:List Broker)(s126:Control)  : Option Control:=(some (Control.mk l22 s126.Parts s126.Next))
def qap (c_0:Control) : Option Control:=((yi 24 ([] : List Broker) c_0.Brokers).bind fun l22=>(jn (ju
  (fun i44 x45 s125=>uh l22 i44 x45 s125) c_0.Parts (Control.mk l22 [] c_0.Next)) (fun s139=>qgx l22 s139)))

def qd1 (s14:List Partition)(i17:Nat)(x41:Partition)(s153:Partition)  : Option (Oc (List Partition) (Control × (List Int))):=(some (.nxt (List.set s14
  (i17:Int).toNat (Partition.mk x41.Homes x41.InStep s153.Leader s153.Epoch s153.Stamp))))
def qd0 (s14:List Partition)(i17:Nat)(x41:Partition)(s67:Int)(s121:Partition)  : Option (Oc (List Partition) (Control × (List Int))):=((if (decide
  (s121.Leader≠s67))=true then (if (decide ((0:Int)≤s121.Leader))=true then (some (Partition.mk x41.Homes x41.InStep s121.Leader (IntKind.wrap .i64 (s121.Epoch+1))
  (IntKind.wrap .i64 (s121.Stamp+1)))) else (some (Partition.mk x41.Homes x41.InStep s121.Leader s121.Epoch (IntKind.wrap .i64 (s121.Stamp+1))))) else (some
  (Partition.mk x41.Homes x41.InStep s121.Leader s121.Epoch s121.Stamp))).bind (fun s191=>qd1 s14 i17 x41 s191))
def qdx (c_0:Control)(s14:List Partition)(i17:Nat)(x41:Partition)(s67:Int)  : Option (Oc (List Partition) (Control × (List Int))):=((if (decide
  (x41.Leader<0))=true then (some true) else ((z2 c_0.Brokers x41.Leader).bind fun x98=>(some x98.Fenced))).bind fun v98=>((if v98=true then ((qab
  (Control.mk c_0.Brokers s14 c_0.Next) x41.InStep).bind fun v134=>(some (Partition.mk x41.Homes x41.InStep v134 x41.Epoch x41.Stamp))) else (some x41)).bind
  (fun s192=>qd0 s14 i17 x41 s67 s192)))
def xl (c_0:Control)(old_1:List Int)(i17:Nat)(s14:List Partition) : Option (Oc (List Partition) (Control × (List Int))):=((z2 s14
  (i17:Int)).bind fun x41=>((if (decide ((i17:Int)<(List.length old_1:Int)))=true then ((z2 old_1 (i17:Int)).bind fun x76=>(some x76)) else (some (-2))).bind
  (fun s193=>qdx c_0 s14 i17 x41 s193)))
def qf9 (c_0:Control)(old_1:List Int)(s195:List Partition)  : Option (Control × (List Int)):=(some ((Control.mk c_0.Brokers s195 c_0.Next),old_1))
def qb8 (c_0:Control)(old_1:List Int) : Option (Control × (List Int)):=(jn (xg (fun i17 s194=>xl c_0 old_1 i17 s194)
  (List.length c_0.Parts:Int) c_0.Parts) (fun s207=>qf9 c_0 old_1 s207))

def wm (i51:Nat)(x52:Partition)(s46:List Int) : Option (Oc (List Int) (Control × Int × Bool)):=((yi 8 s46 [x52.Leader]).bind fun l90=>(some
  (.nxt l90)))
def xw (c_0:Control)(s147:Int)(s148:Control)(s149:List Broker)(s152:List Partition)  : Option (Control × Int × Bool):=(if (decide
  (s147≠0))=true then ((qap c_0).bind fun v192=>(some (v192,s147,true))) else ((qap (Control.mk s149 s152 s148.Next)).bind fun v210=>(some (v210,0,
  true))))
def qcs (c_0:Control)(x_1:Command)(s101:List Int)  : Option (Control × Int × Bool):=((qap c_0).bind fun v118 =>
  ((qdl v118 x_1).bind fun v134=>((if (decide (v134.2=0))=true then ((qb8 v134.1 s101).bind fun v164=>((w9 v164.1).bind fun v177=>(if
  (!v177)=true then (some (4,v164.1,v164.1.Brokers,v164.1.Parts)) else (some (v134.2,v164.1,v164.1.Brokers,v164.1.Parts))))) else (some (v134.2,v134.1,v134.1.Brokers,
  v134.1.Parts))).bind (fun s228=>xw c_0 s228.1 s228.2.1 s228.2.2.1 s228.2.2.2))))
def ky (c_0:Control)(x_1:Command) : Option (Control × Int × Bool):=((w9 c_0).bind fun v17=>((if (!v17)=true then (some true) else
  ((qad c_0 x_1).bind fun v23=>(some (!v23)))).bind fun v23=>(if v23=true then (some ((Control.mk [] [] 0),0,
  false)) else (jn (ju (fun i51 x52 s100=>wm i51 x52 s100) c_0.Parts ([] : (List Int))) (fun s229=>qcs c_0 x_1 s229)))))

def qbu (a_0:Broker)(b_1:Broker) : Option Bool:=(if (decide (a_0.Epoch≠b_1.Epoch))=true then (some false) else (if (decide (a_0.Left≠b_1.Left))=true then
  (some false) else (if (!(a_0.Fenced == b_1.Fenced))=true then (some false) else (some true))))

def ua (a_0:List Broker)(b_1:List Broker)(s3:Int) : Option (Oc Int Bool):=(if (decide (s3<(List.length a_0:Int)))=true then
  ((z2 a_0 s3).bind fun x26=>((z2 b_1 s3).bind fun x29=>((qbu x26 x29).bind fun v32=>(if (!v32)=true then (some (.ret false)) else (some (.nxt
  (IntKind.wrap .i64 (s3+1)))))))) else (some (.brk s3)))
def qe9 (s42:Int)  : Option Bool:=(some true)
def qa1 (k:Nat)(a_0:List Broker)(b_1:List Broker) : Option Bool:=(if (decide ((List.length a_0:Int)≠(List.length b_1:Int)))=true then
  (some false) else (jn (ki (fun s41=>ua a_0 b_1 s41) k 0) (fun s49=>qe9 s49)))

def qay (a_0:List Int)(b_1:List Int)(s3:Int) : Option (Oc Int Bool):=(if (decide (s3<(List.length a_0:Int)))=true then ((z2 a_0 s3).bind fun x26 =>
  ((z2 b_1 s3).bind fun x29=>(if (decide (x26≠x29))=true then (some (.ret false)) else (some (.nxt (IntKind.wrap .i64 (s3+1))))))) else (some (.brk s3)))
def qgl (s39:Int)  : Option Bool:=(some true)
def qao (k:Nat)(a_0:List Int)(b_1:List Int) : Option Bool:=(if (decide ((List.length a_0:Int)≠(List.length b_1:Int)))=true then (some false) else (jn
  (ki (fun s38=>qay a_0 b_1 s38) k 0) (fun s46=>qgl s46)))

def uq (k:Nat)(a_0:Partition)(b_1:Partition) : Option Bool:=((qao k a_0.Homes b_1.Homes).bind fun v13=>(if (!v13)=true then (some false) else
  ((qao k a_0.InStep b_1.InStep).bind fun v17=>(if (!v17)=true then (some false) else (if (decide (a_0.Leader≠b_1.Leader))=true then (some false) else (if
  (decide (a_0.Epoch≠b_1.Epoch))=true then (some false) else (if (decide (a_0.Stamp≠b_1.Stamp))=true then (some false) else (some true))))))))

def wi (k:Nat)(a_0:List Partition)(b_1:List Partition)(s3:Int) : Option (Oc Int Bool):=(if (decide (s3<(List.length a_0:Int)))=true then
  ((z2 a_0 s3).bind fun x26=>((z2 b_1 s3).bind fun x29=>((uq k x26 x29).bind fun v32=>(if (!v32)=true then (some (.ret false)) else (some (.nxt
  (IntKind.wrap .i64 (s3+1)))))))) else (some (.brk s3)))
def qdo (s42:Int)  : Option Bool:=(some true)
def x9 (k:Nat)(a_0:List Partition)(b_1:List Partition) : Option Bool:=(if (decide ((List.length a_0:Int)≠(List.length b_1:Int)))=true then
  (some false) else (jn (ki (fun s41=>wi k a_0 b_1 s41) k 0) (fun s49=>qdo s49)))

def wa (k:Nat)(a_0:Control)(b_1:Control) : Option Bool:=((qa1 k a_0.Brokers b_1.Brokers).bind fun v13=>(if (!v13)=true then (some false) else
  ((x9 k a_0.Parts b_1.Parts).bind fun v17=>(if (!v17)=true then (some false) else (if (decide (a_0.Next≠b_1.Next))=true then (some false) else
  (some true))))))

def ww (s6:Int)(s7:Int)(s8:List Broker) : Option (Oc (Int × Int × (List Broker)) (Int × (List Broker))):=(if (decide (s7 <
  (List.length s8:Int)))=true then ((z2 s8 s7).bind fun x33=>(some (.nxt ((IntKind.wrap .i64 ((IntKind.wrap .i64 ((IntKind.wrap .i64 (s6+1))+1))+1)),
  (IntKind.wrap .i64 (s7+1)),(List.set s8 s7.toNat (Broker.mk s6 (IntKind.wrap .i64 (s6+1)) (decide ((Int.tmod (IntKind.wrap .i64 ((IntKind.wrap .i64
  (s6+1))+1)) 3)=0)))))))) else (some (.brk (s6,s7,s8))))
def qd2 (s56:Int)(s57:Int)(s58:List Broker)  : Option (Int × (List Broker)):=(some (s56,s58))
def uu (k:Nat)(a_0:List Broker)(k_1:Int) : Option (Int × (List Broker)):=(jn (ki (fun s55=>ww s55.1 s55.2.1 s55.2.2) k (k_1,0,
  a_0)) (fun s67=>qd2 s67.1 s67.2.1 s67.2.2))

def ux (s6:Int)(s7:Int)(s8:List Int) : Option (Oc (Int × Int × (List Int)) (Int × (List Int))):=(if (decide (s7<(List.length s8:Int)))=true then
  ((z2 s8 s7).bind fun x33=>(some (.nxt ((IntKind.wrap .i64 (s6+1)),(IntKind.wrap .i64 (s7+1)),(List.set s8 s7.toNat s6))))) else (some (.brk (s6,s7,s8))))
def qfs (s46:Int)(s47:Int)(s48:List Int)  : Option (Int × (List Int)):=(some (s46,s48))
def xu (k:Nat)(a_0:List Int)(k_1:Int) : Option (Int × (List Int)):=(jn (ki (fun s45=>ux s45.1 s45.2.1 s45.2.2) k (k_1,0,
  a_0)) (fun s57=>qfs s57.1 s57.2.1 s57.2.2))

def yn (k:Nat)(s6:Int)(s7:Int)(s8:List Partition) : Option (Oc (Int × Int × (List Partition)) (Int × (List Partition))):=(if (decide (s7 <
  (List.length s8:Int)))=true then ((z2 s8 s7).bind fun x33=>((xu k x33.Homes s6).bind fun v53=>((xu k x33.InStep v53.1).bind fun v60=>(some
  (.nxt ((IntKind.wrap .i64 ((IntKind.wrap .i64 ((IntKind.wrap .i64 (v60.1+1))+1))+1)),(IntKind.wrap .i64 (s7+1)),
  (List.set s8 s7.toNat (Partition.mk v53.2 v60.2 v60.1 (IntKind.wrap .i64 (v60.1+1)) (IntKind.wrap .i64 ((IntKind.wrap .i64 (v60.1+1))+1)))))))))) else (some (.brk (s6,
  s7,s8))))
def qcx (s87:Int)(s88:Int)(s89:List Partition)  : Option (Int × (List Partition)):=(some (s87,s89))
def wu (k:Nat)(a_0:List Partition)(k_1:Int) : Option (Int × (List Partition)):=(jn (ki (fun s86=>yn k s86.1 s86.2.1 s86.2.2) k
  (k_1,0,a_0)) (fun s98=>qcx s98.1 s98.2.1 s98.2.2))

def w8 (k:Nat)(a_0:Control)(k_1:Int) : Option (Int × Control):=((uu k a_0.Brokers k_1).bind fun v7 =>
  ((wu k a_0.Parts v7.1).bind fun v14=>(some (v14.1,(Control.mk v7.2 v14.2 a_0.Next)))))

def wx (a_0:List Broker)(s3:Int)(s4:Int) : Option (Oc (Int × Int) Int):=(if (decide (s4<(List.length a_0:Int)))=true then
  ((z2 a_0 s4).bind fun x27=>(if (decide (x27.Epoch≠s3))=true then (some (.ret (-1))) else ((z2 a_0 s4).bind fun x34=>(if (decide (x34.Left≠(IntKind.wrap .i64
  (s3+1))))=true then (some (.ret (-1))) else ((z2 a_0 s4).bind fun x41=>(if (!(x41.Fenced == (decide ((Int.tmod (IntKind.wrap .i64 ((IntKind.wrap .i64
  (s3+1))+1)) 3)=0))))=true then (some (.ret (-1))) else (some (.nxt ((IntKind.wrap .i64 ((IntKind.wrap .i64 ((IntKind.wrap .i64 (s3+1))+1))+1)),
  (IntKind.wrap .i64 (s4+1))))))))))) else (some (.brk (s3,s4))))
def qd3 (s51:Int)(s52:Int)  : Option Int:=(some s51)
def uv (k:Nat)(a_0:List Broker)(k_1:Int) : Option Int:=(jn (ki (fun s50=>wx a_0 s50.1 s50.2) k (k_1,
  0)) (fun s59=>qd3 s59.1 s59.2))

def ut (a_0:List Int)(s3:Int)(s4:Int) : Option (Oc (Int × Int) Int):=(if (decide (s4<(List.length a_0:Int)))=true then
  ((z2 a_0 s4).bind fun x27=>(if (decide (x27≠s3))=true then (some (.ret (-1))) else (some (.nxt ((IntKind.wrap .i64 (s3+1)),
  (IntKind.wrap .i64 (s4+1))))))) else (some (.brk (s3,s4))))
def qfm (s37:Int)(s38:Int)  : Option Int:=(some s37)
def u6 (k:Nat)(a_0:List Int)(k_1:Int) : Option Int:=(jn (ki (fun s36=>ut a_0 s36.1 s36.2) k (k_1,
  0)) (fun s45=>qfm s45.1 s45.2))

def yo (k:Nat)(a_0:List Partition)(s3:Int)(s4:Int) : Option (Oc (Int × Int) Int):=(if (decide (s4<(List.length a_0:Int)))=true then
  ((z2 a_0 s4).bind fun x27=>((u6 k x27.Homes s3).bind fun v30=>(if (decide (v30<0))=true then (some (.ret (-1))) else ((z2 a_0 s4).bind fun x37 =>
  ((u6 k x37.InStep v30).bind fun v40=>(if (decide (v40<0))=true then (some (.ret (-1))) else ((z2 a_0 s4).bind fun x47=>(if (decide
  (x47.Leader≠v40))=true then (some (.ret (-1))) else ((z2 a_0 s4).bind fun x54=>(if (decide (x54.Epoch≠(IntKind.wrap .i64 (v40+1))))=true then (some (.ret
  (-1))) else ((z2 a_0 s4).bind fun x61=>(if (decide (x61.Stamp≠(IntKind.wrap .i64 ((IntKind.wrap .i64 (v40+1))+1))))=true then (some (.ret (-1))) else (some (.nxt
  ((IntKind.wrap .i64 ((IntKind.wrap .i64 ((IntKind.wrap .i64 (v40+1))+1))+1)),(IntKind.wrap .i64 (s4+1))))))))))))))))) else (some (.brk (s3,s4))))
def qcy (s71:Int)(s72:Int)  : Option Int:=(some s71)
def ws (k:Nat)(a_0:List Partition)(k_1:Int) : Option Int:=(jn (ki (fun s70=>yo k a_0 s70.1 s70.2) k (k_1,
  0)) (fun s79=>qcy s79.1 s79.2))

def w6 (k:Nat)(a_0:Control)(k_1:Int) : Option Int:=((uv k a_0.Brokers k_1).bind fun v7=>(if (decide (v7<0))=true then (some (-1)) else
  ((ws k a_0.Parts v7).bind fun v11=>(if (decide (v11<0))=true then (some (-1)) else (some v11)))))

def qbf (a_0:List Broker)(left_1:Int) : Option Int:=(if (decide ((IntKind.wrap .i64 (left_1 - (List.length a_0:Int)))<0))=true then (some (-1)) else (some
  (IntKind.wrap .i64 (left_1 - (List.length a_0:Int)))))

def qat (a_0:List Int)(left_1:Int) : Option Int:=(if (decide ((IntKind.wrap .i64 (left_1 - (List.length a_0:Int)))<0))=true then (some (-1)) else (some
  (IntKind.wrap .i64 (left_1 - (List.length a_0:Int)))))

def um (a_0:Partition)(left_1:Int) : Option Int:=((qat a_0.Homes left_1).bind fun v7=>(if (decide (v7<0))=true then (some (-1)) else
  ((qat a_0.InStep v7).bind fun v11=>(if (decide (v11<0))=true then (some (-1)) else (some v11)))))

def wd (a_0:List Partition)(s4:Int)(s5:Int) : Option (Oc (Int × Int) Int):=(if (decide (s5<(List.length a_0:Int)))=true then
  ((z2 a_0 s5).bind fun x28=>((um x28 s4).bind fun v31=>(if (decide (v31<0))=true then (some (.ret (-1))) else (some (.nxt (v31,
  (IntKind.wrap .i64 (s5+1)))))))) else (some (.brk (s4,s5))))
def qdz (s41:Int)(s42:Int)  : Option Int:=(some s41)
def xy (k:Nat)(a_0:List Partition)(left_1:Int) : Option Int:=(if (decide ((IntKind.wrap .i64 (left_1 - (List.length a_0:Int)))<0))=true then (some
  (-1)) else (jn (ki (fun s40=>wd a_0 s40.1 s40.2) k ((IntKind.wrap .i64 (left_1 - (List.length a_0:Int))),
  0)) (fun s49=>qdz s49.1 s49.2)))

def qaz (k:Nat)(a_0:Control)(left_1:Int) : Option Int:=((qbf a_0.Brokers left_1).bind fun v7=>(if (decide (v7<0))=true then (some (-1)) else
  ((xy k a_0.Parts v7).bind fun v11=>(if (decide (v11<0))=true then (some (-1)) else (some v11)))))

def qa6 (a_0:Command)(left_1:Int) : Option Int:=((qat a_0.InStep left_1).bind fun v7=>(if (decide (v7<0))=true then (some (-1)) else (some v7)))

def qbv (a_0:Broker) : Broker:=a_0

def ub (a_0:List Broker)(s14:Int)(s15:List Broker) : Option (Oc (Int × (List Broker)) (List Broker)):=(if (decide (s14 <
  (List.length a_0:Int)))=true then ((z2 a_0 s14).bind fun x40=>((z2 s15 s14).bind fun x43=>(some (.nxt ((IntKind.wrap .i64 (s14+1)),
  (List.set s15 s14.toNat (qbv x40))))))) else (some (.brk (s14,s15))))
def qfb (s56:Int)(s57:List Broker)  : Option (List Broker):=(some s57)
def qbc (k:Nat)(a_0:List Broker) : Option (List Broker):=((mkN 24 (List.length a_0:Int) (Broker.mk (0:Int) (0:Int) false)).bind fun l1=>(jn (ki
  (fun s55=>ub a_0 s55.1 s55.2) k (0,l1)) (fun s66=>qfb s66.1 s66.2)))

def qa7 (a_0:List Int)(s14:Int)(s15:List Int) : Option (Oc (Int × (List Int)) (List Int)):=(if (decide (s14<(List.length a_0:Int)))=true then
  ((z2 a_0 s14).bind fun x40=>((z2 s15 s14).bind fun x43=>(some (.nxt ((IntKind.wrap .i64 (s14+1)),(List.set s15 s14.toNat x40)))))) else (some (.brk (s14,s15))))
def qgs (s56:Int)(s57:List Int)  : Option (List Int):=(some s57)
def qam (k:Nat)(a_0:List Int) : Option (List Int):=((mkN 8 (List.length a_0:Int) (0:Int)).bind fun l1=>(jn (ki
  (fun s55=>qa7 a_0 s55.1 s55.2) k (0,l1)) (fun s66=>qgs s66.1 s66.2)))

def ur (k:Nat)(a_0:Partition) : Option Partition:=((qam k a_0.Homes).bind fun v15=>((qam k a_0.InStep).bind fun v29=>(some
  (Partition.mk v15 v29 a_0.Leader a_0.Epoch a_0.Stamp))))

def wk (k:Nat)(a_0:List Partition)(s14:Int)(s15:List Partition) : Option (Oc (Int × (List Partition)) (List Partition)):=(if (decide (s14 <
  (List.length a_0:Int)))=true then ((z2 a_0 s14).bind fun x40=>((ur k x40).bind fun v43=>((z2 s15 s14).bind fun x59=>(some (.nxt
  ((IntKind.wrap .i64 (s14+1)),(List.set s15 s14.toNat v43))))))) else (some (.brk (s14,s15))))
def qdg (s91:Int)(s92:List Partition)  : Option (List Partition):=(some s92)
def xx (k:Nat)(a_0:List Partition) : Option (List Partition):=((mkN 72 (List.length a_0:Int) (Partition.mk [] [] (0:Int) (0:Int)
  (0:Int))).bind fun l1=>(jn (ki (fun s90=>wk k a_0 s90.1 s90.2) k (0,l1)) (fun s101=>qdg s101.1 s101.2)))

def y4 (k:Nat)(a_0:Control) : Option Control:=((qbc k a_0.Brokers).bind fun v15=>((xx k a_0.Parts).bind fun v29=>(some
  (Control.mk v15 v29 a_0.Next))))

def y2 (k:Nat)(a_0:Command) : Option Command:=((qam k a_0.InStep).bind fun v25=>(some
  (Command.mk a_0.Kind a_0.Broker a_0.Epoch a_0.Part a_0.Stamp v25)))

def qa4 (k:Nat)(a_0:Command)(b_1:Command) : Option Bool:=(if (decide (a_0.Kind≠b_1.Kind))=true then (some false) else (if (decide
  (a_0.Broker≠b_1.Broker))=true then (some false) else (if (decide (a_0.Epoch≠b_1.Epoch))=true then (some false) else (if (decide (a_0.Part≠b_1.Part))=true then
  (some false) else (if (decide (a_0.Stamp≠b_1.Stamp))=true then (some false) else ((qao k a_0.InStep b_1.InStep).bind fun v18=>(if (!v18)=true then
  (some false) else (some true))))))))

def uo (k:Nat)(a_0:Command)(k_1:Int) : Option (Int × Command):=((xu k a_0.InStep k_1).bind fun v7=>(some (v7.1,
  (Command.mk a_0.Kind a_0.Broker a_0.Epoch a_0.Part a_0.Stamp v7.2))))

def y9 (k:Nat)(v_0:Control)(v_1:Command) : Option Bool:=((qaz k v_0 1048576).bind fun v13=>(if (decide (v13<0))=true then
  (some true) else ((qa6 v_1 v13).bind fun v17=>(if (decide (v17<0))=true then (some true) else ((y4 k v_0).bind fun v25 =>
  ((y2 k v_1).bind fun v41=>((ky v25 v41).bind fun v53=>((y4 k v_0).bind fun v73=>((y2 k v_1).bind fun v97 =>
  ((y5 v73 v97).bind fun v117=>((wa k v117.1 v53.1).bind fun v141=>(if (((!v141)||(decide (v117.2.1≠v53.2.1))) ||
  (!(v117.2.2 == v53.2.2)))=true then (some false) else ((y4 k v_0).bind fun v179=>((wa k v73 v179).bind fun v195=>(if (!v195)=true then
  (some false) else ((y2 k v_1).bind fun v199=>((qa4 k v97 v199).bind fun v211=>(if (!v211)=true then (some false) else
  ((w8 k v73 1).bind fun v215=>((uo k v97 v215.1).bind fun v224=>((if (decide (v224.1<0))=true then (some true) else
  ((wa k v117.1 v53.1).bind fun v234=>(some (!v234)))).bind fun v234=>(if ((v234||(decide (v117.2.1≠v53.2.1)))||(!(v117.2.2 == v53.2.2)))=true then
  (some false) else ((w8 k v117.1 1).bind fun v282=>((w6 k (Control.mk v282.2.Brokers v282.2.Parts v117.1.Next) 1).bind fun v291=>(if (decide
  (v291<0))=true then (some false) else (if (decide (v291≠v282.1))=true then (some false) else ((y4 k v_0).bind fun v300 =>
  ((y2 k v_1).bind fun v316=>((y5 v300 v316).bind fun v328=>((wa k v328.1 v53.1).bind fun v348=>(if (((!v348)||(decide
  (v328.2.1≠v53.2.1)))||(!(v328.2.2 == v53.2.2)))=true then (some false) else ((w6 k
  (Control.mk v282.2.Brokers v282.2.Parts v117.1.Next) 1).bind fun v372=>(if (decide (v372<0))=true then (some false) else (if (decide (v372≠v282.1))=true then
  (some false) else (some true)))))))))))))))))))))))))))))))))))
end Go.Proofs.Ytjloihcijdcpeaa.X
