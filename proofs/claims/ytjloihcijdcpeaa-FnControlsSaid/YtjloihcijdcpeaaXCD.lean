/- The seat's types and functions, as plain Lean has them. -/
import Derived.Test.YtjloihcijdcpeaaZIns
set_option linter.unusedVariables false
set_option linter.unusedSimpArgs false
set_option maxRecDepth 100000
namespace Go.Proofs.Ytjloihcijdcpeaa.X
open Go
open Nat (reduceEqDiff)
structure BoundsError where
 x:Int
 y:Int
 signed:Bool
 code:Int
 deriving DecidableEq,Inhabited
def qv3 (x:BoundsError) : List XV:=[.int .i64 x.x,.int .i64 x.y,.bool x.signed,.int .u8 x.code]
structure Broker where
 Epoch:Int
 Left:Int
 Fenced:Bool
 deriving DecidableEq,Inhabited
def qe (x:Broker) : List XV:=[.int .i64 x.Epoch,.int .i64 x.Left,.bool x.Fenced]
structure Partition where
 Homes:List Int
 InStep:List Int
 Leader:Int
 Epoch:Int
 Stamp:Int
 deriving DecidableEq,Inhabited
def qd (x:Partition) : List XV:=[lst cI x.Homes,lst cI x.InStep,.int .i64 x.Leader,.int .i64 x.Epoch,.int .i64 x.Stamp]
structure Control where
 Brokers:List Broker
 Parts:List Partition
 Next:Int
 deriving DecidableEq,Inhabited
def q5z (x:Control) : List XV:=[lst qe x.Brokers,lst qd x.Parts,.int .i64 x.Next]
structure Command where
 Kind:Int
 Broker:Int
 Epoch:Int
 Part:Int
 Stamp:Int
 InStep:List Int
 deriving DecidableEq,Inhabited
def jy (x:Command) : List XV:=[.int .i64 x.Kind,.int .i64 x.Broker,.int .i64 x.Epoch,.int .i64 x.Part,.int .i64 x.Stamp,lst cI x.InStep]
structure L1Cur where
 code:List Int
 at_:Int
 seed:Int
 deriving DecidableEq,Inhabited
def q7y (x:L1Cur) : List XV:=[lst cU8 x.code,.int .i64 x.at_,.int .u64 x.seed]

def zn (n_0:Int)(lo_1:Int)(hi_2:Int) : Bool:=((decide (lo_1≤n_0))&&(decide (n_0≤hi_2)))

def qcb (l_0:List Int)(many_1:Int)(i1:Nat)(x2:Int) : Option (Oc Unit Bool):=((if ((decide (x2<0))||(decide (many_1≤x2)))=true then
  (some true) else ((if (decide ((0:Int)<(i1:Int)))=true then ((z9 l_0 (IntKind.wrap .i64 ((i1:Int) - 1))).bind fun x44=>(some (decide (x2≤x44)))) else
  (some false)).bind fun v44=>(some v44))).bind fun v41=>(if v41=true then (some (.ret false)) else (some (.nxt ()))))
def qgz  : Option Bool:=(some true)
def ug (l_0:List Int)(many_1:Int) : Option Bool:=(jn (jh (fun i1 x2 _=>qcb l_0 many_1 i1 x2 ) l_0 ()) (fun _=>qgz ))

def qdp (n_1:Int)(i1:Nat)(x2:Int) : Option (Oc Unit Bool):=(if (decide (x2=n_1))=true then (some (.ret true)) else (some (.nxt ())))
def qhz  : Option Bool:=(some false)
def u5 (l_0:List Int)(n_1:Int) : Option Bool:=(jn (jh (fun i1 x2 _=>qdp n_1 i1 x2 ) l_0 ()) (fun _=>qhz ))

def yn (c_0:Control)(i7:Nat)(x8:Int) : Option (Oc Unit Int):=((z9 c_0.Brokers x8).bind fun x29=>(if (!x29.Fenced)=true then (some (.ret x8)) else
  (some (.nxt ()))))
def qgl  : Option Int:=(some (-1))
def qas (c_0:Control)(l_1:List Int) : Option Int:=(jn (jh (fun i7 x8 _=>yn c_0 i7 x8 ) l_1 ()) (fun _=>qgl ))

def qdm (a_0:List Int)(i1:Nat)(x2:Int) : Option (Oc Unit Bool):=((u5 a_0 x2).bind fun v23=>(if (!v23)=true then (some (.ret false)) else (some
  (.nxt ()))))
def qhy  : Option Bool:=(some true)
def qc3 (a_0:List Int)(b_1:List Int) : Option Bool:=(jn (jh (fun i1 x2 _=>qdm a_0 i1 x2 ) b_1 ()) (fun _=>qhy ))

def qcn (v_0:Control)(v_1:Partition) : Option Bool:=((if (decide ((List.length v_1.Homes:Int)=0))=true then (some true) else ((ug v_1.Homes
  (List.length v_0.Brokers:Int)).bind fun v16=>(some (!v16)))).bind fun v16=>((if (v16||(decide ((List.length v_1.InStep:Int)=0)))=true then (some true) else
  ((ug v_1.InStep (List.length v_0.Brokers:Int)).bind fun v42=>(some (!v42)))).bind fun v42=>((if v42=true then (some true) else
  ((qc3 v_1.Homes v_1.InStep).bind fun v59=>(some (!v59)))).bind fun v59=>(if v59=true then (some false) else ((if (decide (v_1.Leader=(-1)))=true then
  ((qas v_0 v_1.InStep).bind fun v77=>(some (decide ((0:Int)≤v77)))) else (some false)).bind fun v77=>((if v77=true then (some true) else ((if (decide
  (v_1.Leader≠(-1)))=true then ((u5 v_1.InStep v_1.Leader).bind fun v97=>((if (!v97)=true then (some true) else ((z9 v_0.Brokers v_1.Leader).bind fun x103 =>
  (some x103.Fenced))).bind fun v103=>(some v103))) else (some false)).bind fun v97=>(some v97))).bind fun v94=>(if v94=true then (some false) else (some
  ((zn v_1.Epoch 0 1000)&&(zn v_1.Stamp 0 1000))))))))))

def xv (v_0:Control)(i7:Nat)(x8:Broker) : Option (Oc Unit Bool):=(if (((((decide (x8.Epoch<0))||(decide (v_0.Next≤x8.Epoch))) ||
  (!(zn x8.Left 0 9)))||(!(x8.Fenced == (decide (x8.Left=0)))))||((decide (x8.Epoch=0))&&(decide ((0:Int)<x8.Left))))=true then (some (.ret false)) else
  (some (.nxt ())))
def qao (v_0:Control)(i124:Nat)(x125:Partition) : Option (Oc Unit Bool):=((qcn v_0 x125).bind fun v154=>(if (!v154)=true then (some
  (.ret false)) else (some (.nxt ()))))
def qel  : Option Bool:=(some true)
def qca (v_0:Control)  : Option Bool:=(if (((!(zn (List.length v_0.Brokers:Int) 1 6))||(decide ((5:Int)<(List.length v_0.Parts:Int)))) ||
  (!(zn v_0.Next 1 1000)))=true then (some false) else (jn (jh (fun i124 x125 _=>qao v_0 i124 x125 ) v_0.Parts ())
  (fun _=>qel )))
def xw (v_0:Control) : Option Bool:=(jn (jh (fun i7 x8 _=>xv v_0 i7 x8 ) v_0.Brokers ()) (fun _=>qca v_0 ))

def qbc (v_0:Control)(v_1:Command) : Option Bool:=(if (decide (v_1.Kind=1))=true then (some ((((((decide ((0:Int)≤v_1.Broker))&&(decide (v_1.Broker <
  (List.length v_0.Brokers:Int))))&&(decide (v_1.Epoch=0)))&&(decide (v_1.Part=0)))&&(decide (v_1.Stamp=0)))&&(decide
  ((List.length v_1.InStep:Int)=0)))) else (if (decide (v_1.Kind=2))=true then (some ((((((decide ((0:Int)≤v_1.Broker))&&(decide (v_1.Broker <
  (List.length v_0.Brokers:Int))))&&(zn v_1.Epoch 0 1000))&&(decide (v_1.Part=0)))&&(decide (v_1.Stamp=0)))&&(decide
  ((List.length v_1.InStep:Int)=0)))) else (if (decide (v_1.Kind=3))=true then (some (((((decide (v_1.Broker=0))&&(decide (v_1.Epoch=0)))&&(decide
  (v_1.Part=0)))&&(decide (v_1.Stamp=0)))&&(decide ((List.length v_1.InStep:Int)=0)))) else (if (decide (v_1.Kind=4))=true then ((if ((((decide
  (v_1.Broker=0))&&(decide (v_1.Epoch=0)))&&(decide (v_1.Part=0)))&&(decide (v_1.Stamp=0)))=true then ((ug v_1.InStep
  (List.length v_0.Brokers:Int)).bind fun v155=>(some v155)) else (some false)).bind fun v155=>(some v155)) else (if (decide (v_1.Kind=5))=true then ((if (((((decide
  ((0:Int)≤v_1.Broker))&&(decide (v_1.Broker<(List.length v_0.Brokers:Int))))&&(zn v_1.Epoch 0 1000))&&(zn v_1.Part 0 1000)) &&
  (zn v_1.Stamp 0 1000))=true then ((ug v_1.InStep (List.length v_0.Brokers:Int)).bind fun v198=>(some v198)) else (some false)).bind fun v198 =>
  (some v198)) else (if (decide (v_1.Kind=6))=true then (some ((((((decide ((0:Int)≤v_1.Broker))&&(decide (v_1.Broker<(List.length v_0.Brokers:Int))))&&(decide
  (v_1.Epoch=0)))&&(zn v_1.Part 0 1000))&&(decide (v_1.Stamp=0)))&&(decide ((List.length v_1.InStep:Int)=0)))) else (some false)))))))

def qah (v_0:Control)(x14:Partition)(i50:Nat)(x51:Int) : Option (Oc Unit Int):=((z9 v_0.Brokers x51).bind fun x73=>((if x73.Fenced=true then
  ((u5 x14.InStep x51).bind fun v79=>(some (!v79))) else (some false)).bind fun v79=>(if v79=true then (some (.ret 4)) else (some (.nxt ())))))
def qgi  : Option Int:=(some 0)
def xn (v_0:Control)(v_1:Command) : Option Int:=(if (decide ((List.length v_0.Parts:Int)≤v_1.Part))=true then (some 1) else
  ((z9 v_0.Parts v_1.Part).bind fun x14=>(if (decide (v_1.Epoch≠x14.Epoch))=true then (some 2) else (if (decide (v_1.Broker≠x14.Leader))=true then (some 3) else (if
  (decide (v_1.Stamp≠x14.Stamp))=true then (some 2) else ((qc3 x14.Homes v_1.InStep).bind fun v28=>((if (!v28)=true then (some true) else
  ((u5 v_1.InStep x14.Leader).bind fun v34=>(some (!v34)))).bind fun v34=>(if v34=true then (some 4) else (jn (jh
  (fun i50 x51 _=>qah v_0 x14 i50 x51 ) v_1.InStep ()) (fun _=>qgi ))))))))))

def qb4 (i83:Nat)(s80:List Broker) : Option (Oc (List Broker) (Oc (Control × (List Broker)) (Control × Int))):=((z9 s80 (i83:Int)).bind fun x105=>(if
  (decide ((0:Int)<x105.Left))=true then (some (.nxt (List.set s80 (i83:Int).toNat (Broker.mk x105.Epoch (IntKind.wrap .i64 (x105.Left - 1)) x105.Fenced)))) else (some
  (.nxt s80))))
def qh3 (v_0:Control)(s119:List Broker)  : Option (Oc (Control × (List Broker)) (Control × Int)):=(some (.nxt ((Control.mk s119 v_0.Parts v_0.Next),s119)))
def qdn (i335:Nat)(s332:List Broker) : Option (Oc (List Broker) (Control × Int)):=((z9 s332 (i335:Int)).bind fun x357=>(some (.nxt (List.set s332
  (i335:Int).toNat (Broker.mk x357.Epoch x357.Left (decide (x357.Left=0)))))))
def qhx (s15:Control)(s369:List Broker)  : Option (Control × Int):=(some ((Control.mk s369 s15.Parts s15.Next),0))
def qdl (s15:Control)(s20:List Broker)  : Option (Control × Int):=(jn (kj (fun i335 s368=>qdn i335 s368) (List.length s20:Int) s20)
  (fun s379=>qhx s15 s379))
def qed (v_0:Control)(v_1:Command) : Option (Control × Int):=(jn (if (decide (v_1.Kind=1))=true then (if (decide (v_0.Next=1000))=true then (some (.ret (v_0,
  4))) else ((z9 v_0.Brokers v_1.Broker).bind fun x35=>(some (.nxt ((Control.mk (List.set v_0.Brokers v_1.Broker.toNat (Broker.mk v_0.Next 9 false)) v_0.Parts
  (IntKind.wrap .i64 (v_0.Next+1))),(List.set v_0.Brokers v_1.Broker.toNat (Broker.mk v_0.Next 9 false))))))) else (if (decide (v_1.Kind=2))=true then
  ((z9 v_0.Brokers v_1.Broker).bind fun x49=>(if (decide (x49.Epoch=0))=true then (some (.ret (v_0,
  1))) else (if (decide (x49.Epoch≠v_1.Epoch))=true then (some (.ret (v_0,
  2))) else (some (.nxt ((Control.mk (List.set v_0.Brokers v_1.Broker.toNat (Broker.mk x49.Epoch 9 x49.Fenced)) v_0.Parts v_0.Next),
  (List.set v_0.Brokers v_1.Broker.toNat (Broker.mk x49.Epoch 9 x49.Fenced)))))))) else (if (decide (v_1.Kind=3))=true then (jn (kj
  (fun i83 s118=>qb4 i83 s118) (List.length v_0.Brokers:Int) v_0.Brokers) (fun s128=>qh3 v_0 s128)) else (if (decide (v_1.Kind=4))=true then (if
  ((decide ((List.length v_1.InStep:Int)=0))||(decide ((List.length v_0.Parts:Int)=5)))=true then (some (.ret (v_0,
  4))) else ((j9 8 ([] : List Int) v_1.InStep).bind fun l157=>((j9 8 ([] : List Int) v_1.InStep).bind fun l168=>((j9 72 v_0.Parts [(Partition.mk l157 l168
  (-2) 0 0)]).bind fun l185=>(some (.nxt ((Control.mk v_0.Brokers l185 v_0.Next),
  v_0.Brokers))))))) else (if (decide (v_1.Kind=5))=true then ((xn v_0 v_1).bind fun v198=>(if (decide (v198≠0))=true then (some (.ret (v_0,
  v198))) else ((j9 8 ([] : List Int) v_1.InStep).bind fun l212=>((z9 v_0.Parts v_1.Part).bind fun x223=>(some (.nxt ((Control.mk v_0.Brokers
  (List.set v_0.Parts v_1.Part.toNat (Partition.mk x223.Homes l212 x223.Leader x223.Epoch (IntKind.wrap .i64 (x223.Stamp+1)))) v_0.Next),
  v_0.Brokers))))))) else (if (decide (v_1.Kind=6))=true then (if (decide ((List.length v_0.Parts:Int)≤v_1.Part))=true then (some (.ret (v_0,
  1))) else ((z9 v_0.Parts v_1.Part).bind fun x262=>((u5 x262.InStep v_1.Broker).bind fun v282=>((if (!v282)=true then (some true) else
  ((z9 v_0.Brokers v_1.Broker).bind fun x288=>(some x288.Fenced))).bind fun v288=>(if v288=true then (some (.ret (v_0,
  4))) else (some (.nxt ((Control.mk v_0.Brokers (List.set v_0.Parts v_1.Part.toNat (Partition.mk x262.Homes x262.InStep v_1.Broker x262.Epoch x262.Stamp)) v_0.Next),
  v_0.Brokers)))))))) else (some (.nxt (v_0,v_0.Brokers))))))))) (fun s380=>qdl s380.1 s380.2))

def qaf (l22:List Broker)(i44:Nat)(x45:Partition)(s39:Control) : Option (Oc Control Control):=((j9 8 ([] : List Int) x45.Homes).bind fun l79=>((j9 8
  ([] : List Int) x45.InStep).bind fun l96=>((j9 72 s39.Parts [(Partition.mk l79 l96 x45.Leader x45.Epoch x45.Stamp)]).bind fun l113=>(some (.nxt
  (Control.mk l22 l113 s39.Next))))))
def qg7 (l22:List Broker)(s126:Control)  : Option Control:=(some (Control.mk l22 s126.Parts s126.Next))
def qbk (c_0:Control) : Option Control:=((j9 24 ([] : List Broker) c_0.Brokers).bind fun l22=>(jn (jh
  (fun i44 x45 s125=>qaf l22 i44 x45 s125) c_0.Parts (Control.mk l22 [] c_0.Next)) (fun s139=>qg7 l22 s139)))

def qd9 (s14:List Partition)(i17:Nat)(x41:Partition)(s153:Partition)  : Option (Oc (List Partition) (Control × (List Int))):=(some (.nxt (List.set s14
  (i17:Int).toNat (Partition.mk x41.Homes x41.InStep s153.Leader s153.Epoch s153.Stamp))))
def qec (s14:List Partition)(i17:Nat)(x41:Partition)(s67:Int)(s121:Partition)  : Option (Oc (List Partition) (Control × (List Int))):=((if (decide
  (s121.Leader≠s67))=true then (if (decide ((0:Int)≤s121.Leader))=true then (some (Partition.mk x41.Homes x41.InStep s121.Leader (IntKind.wrap .i64 (s121.Epoch+1))
  (IntKind.wrap .i64 (s121.Stamp+1)))) else (some (Partition.mk x41.Homes x41.InStep s121.Leader s121.Epoch (IntKind.wrap .i64 (s121.Stamp+1))))) else (some
  (Partition.mk x41.Homes x41.InStep s121.Leader s121.Epoch s121.Stamp))).bind (fun s191=>qd9 s14 i17 x41 s191))
def qea (c_0:Control)(s14:List Partition)(i17:Nat)(x41:Partition)(s67:Int)  : Option (Oc (List Partition) (Control × (List Int))):=((if (decide
  (x41.Leader<0))=true then (some true) else ((z9 c_0.Brokers x41.Leader).bind fun x98=>(some x98.Fenced))).bind fun v98=>((if v98=true then ((qas
  (Control.mk c_0.Brokers s14 c_0.Next) x41.InStep).bind fun v134=>(some (Partition.mk x41.Homes x41.InStep v134 x41.Epoch x41.Stamp))) else (some x41)).bind
  (fun s192=>qec s14 i17 x41 s67 s192)))
def ur (c_0:Control)(old_1:List Int)(i17:Nat)(s14:List Partition) : Option (Oc (List Partition) (Control × (List Int))):=((z9 s14
  (i17:Int)).bind fun x41=>((if (decide ((i17:Int)<(List.length old_1:Int)))=true then ((z9 old_1 (i17:Int)).bind fun x76=>(some x76)) else (some (-2))).bind
  (fun s193=>qea c_0 s14 i17 x41 s193)))
def qgr (c_0:Control)(old_1:List Int)(s195:List Partition)  : Option (Control × (List Int)):=(some ((Control.mk c_0.Brokers s195 c_0.Next),old_1))
def qcg (c_0:Control)(old_1:List Int) : Option (Control × (List Int)):=(jn (kj (fun i17 s194=>ur c_0 old_1 i17 s194)
  (List.length c_0.Parts:Int) c_0.Parts) (fun s207=>qgr c_0 old_1 s207))

def xa (i51:Nat)(x52:Partition)(s46:List Int) : Option (Oc (List Int) (Control × Int × Bool)):=((j9 8 s46 [x52.Leader]).bind fun l90=>(some
  (.nxt l90)))
def uz (c_0:Control)(s147:Int)(s148:Control)(s149:List Broker)(s152:List Partition)  : Option (Control × Int × Bool):=(if (decide
  (s147≠0))=true then ((qbk c_0).bind fun v192=>(some (v192,s147,true))) else ((qbk (Control.mk s149 s152 s148.Next)).bind fun v210=>(some (v210,0,
  true))))
def qc5 (c_0:Control)(x_1:Command)(s101:List Int)  : Option (Control × Int × Bool):=((qbk c_0).bind fun v118 =>
  ((qed v118 x_1).bind fun v134=>((if (decide (v134.2=0))=true then ((qcg v134.1 s101).bind fun v164=>((xw v164.1).bind fun v177=>(if
  (!v177)=true then (some (4,v164.1,v164.1.Brokers,v164.1.Parts)) else (some (v134.2,v164.1,v164.1.Brokers,v164.1.Parts))))) else (some (v134.2,v134.1,v134.1.Brokers,
  v134.1.Parts))).bind (fun s228=>uz c_0 s228.1 s228.2.1 s228.2.2.1 s228.2.2.2))))
def wn (c_0:Control)(x_1:Command) : Option (Control × Int × Bool):=((xw c_0).bind fun v17=>((if (!v17)=true then (some true) else
  ((qbc c_0 x_1).bind fun v23=>(some (!v23)))).bind fun v23=>(if v23=true then (some ((Control.mk [] [] 0),0,
  false)) else (jn (jh (fun i51 x52 s100=>xa i51 x52 s100) c_0.Parts ([] : (List Int))) (fun s229=>qc5 c_0 x_1 s229)))))

def uh (brokers_0:Int)(s20:Int)(s21:Control) : Option (Oc (Int × Control) (Control × Bool)):=(if (decide (s20<brokers_0))=true then
  ((j9 24 s21.Brokers [(Broker.mk 0 0 true)]).bind fun l55=>(some (.nxt ((IntKind.wrap .i64 (s20+1)),(Control.mk l55 [] s21.Next))))) else (some (.brk (s20,
  (Control.mk s21.Brokers [] s21.Next)))))
def qfd (s69:Int)(s70:Control)  : Option (Control × Bool):=(some ((Control.mk s70.Brokers [] s70.Next),true))
def yh (k:Nat)(brokers_0:Int) : Option (Control × Bool):=(if (!(zn brokers_0 1 6))=true then (some ((Control.mk [] [] 0),
  false)) else (jn (wv (fun s68=>uh brokers_0 s68.1 s68.2) k (0,(Control.mk [] [] 1))) (fun s84=>qfd s84.1 s84.2)))

def qd2 (c_0:L1Cur)(s1:Int)  : Option (Int × L1Cur):=(if (decide ((IntKind.wrap .i64 (c_0.at_+1))≤(List.length c_0.code:Int)))=true then (some (s1,
  (L1Cur.mk c_0.code (IntKind.wrap .i64 (c_0.at_+1)) (IntKind.wrap .u64 ((IntKind.wrap .u64 ((IntKind.wrap .u64 (c_0.seed*6364136223846793005)) +
  (IntKind.wrap .u64 s1)))+1442695040888963407))))) else (some ((IntKind.wrap .i64 (qkq .u64 (qod .u64 (IntKind.wrap .u64 ((IntKind.wrap .u64 ((IntKind.wrap .u64
  (c_0.seed*6364136223846793005))+(IntKind.wrap .u64 s1)))+1442695040888963407)) 40) 255)),
  (L1Cur.mk c_0.code (IntKind.wrap .i64 (c_0.at_+1)) (IntKind.wrap .u64 ((IntKind.wrap .u64 ((IntKind.wrap .u64 (c_0.seed*6364136223846793005)) +
  (IntKind.wrap .u64 s1)))+1442695040888963407))))))
def qdw (c_0:L1Cur) : Option (Int × L1Cur):=((if (decide (c_0.at_<(List.length c_0.code:Int)))=true then ((z9 c_0.code c_0.at_).bind fun x10=>(some
  (IntKind.wrap .i64 x10))) else (some 0)).bind (fun s25=>qd2 c_0 s25))

def kp (c_0:L1Cur)(n_1:Int) : Option (Int × L1Cur):=(if (decide (n_1≤1))=true then (some (0,
  c_0)) else ((qdw c_0).bind fun v2=>(if (decide ((200:Int)<n_1))=true then ((qdw v2.2).bind fun v8=>(ck (n_1≠0) (some ((Int.tmod (IntKind.wrap .i64
  ((IntKind.wrap .i64 (v2.1*256))+v8.1)) n_1),v8.2)))) else (ck (n_1≠0) (some ((Int.tmod v2.1 n_1),v2.2))))))

def xy (c_0:L1Cur)(n_1:Int) : Option (Bool × L1Cur):=((kp c_0 n_1).bind fun v1=>(some ((decide (v1.1=0)),v1.2)))

def qd7 (c_0:L1Cur)(list_1:List Int) : Option (Int × L1Cur × (List Int)):=((kp c_0 (List.length list_1:Int)).bind fun v1 =>
  ((z9 list_1 v1.1).bind fun x6=>(some (x6,v1.2,list_1))))

def yu (v_1:Control)(s88:Int)(s89:L1Cur)(s90:Command) : Option (Oc (Int × L1Cur × Command) (Oc (L1Cur × Command × (List Partition))
  (Command × L1Cur × Control))):=(if (decide (s88<(List.length v_1.Brokers:Int)))=true then ((xy s89 2).bind fun v119=>(if v119.1=true then
  ((j9 8 s90.InStep [s88]).bind fun l131=>(some (.nxt ((IntKind.wrap .i64 (s88+1)),v119.2,
  (Command.mk s90.Kind s90.Broker s90.Epoch s90.Part s90.Stamp l131))))) else (some (.nxt ((IntKind.wrap .i64 (s88+1)),v119.2,s90))))) else (some (.brk (s88,s89,s90))))
def qch (v_1:Control)(s146:Int)(s147:L1Cur)(s148:Command)  : Option (Oc (L1Cur × Command × (List Partition)) (Command × L1Cur × Control)):=(some (.nxt
  (s147,s148,v_1.Parts)))
def qay (s354:Command)(x384:Int)(s389:Bool)(s390:L1Cur)  : Option (Oc (L1Cur × Command) (Oc (L1Cur × Command × (List Partition))
  (Command × L1Cur × Control))):=(if s389=true then ((j9 8 s354.InStep [x384]).bind fun l426=>(some (.nxt (s390,
  (Command.mk s354.Kind s354.Broker s354.Epoch s354.Part s354.Stamp l426))))) else (some (.nxt (s390,s354))))
def uj (x204:Partition)(i359:Nat)(s353:L1Cur)(s354:Command) : Option (Oc (L1Cur × Command) (Oc (L1Cur × Command × (List Partition))
  (Command × L1Cur × Control))):=((z9 x204.Homes (i359:Int)).bind fun x384=>((if (decide (x384=x204.Leader))=true then (some (true,
  s353)) else ((xy s353 2).bind fun v401=>(some (v401.1,v401.2)))).bind (fun s439=>qay s354 x384 s439.1 s439.2)))
def qfa (v_1:Control)(s441:L1Cur)(s442:Command)  : Option (Oc (L1Cur × Command × (List Partition)) (Command × L1Cur × Control)):=(some (.nxt (s441,s442,
  v_1.Parts)))
def ul (v_1:Control)(x204:Partition)(v322:Bool × L1Cur)(s327:Command)  : Option (Oc (L1Cur × Command × (List Partition))
  (Command × L1Cur × Control)):=(jn (kj (fun i359 s440=>uj x204 i359 s440.1 s440.2) (List.length x204.Homes:Int) (v322.2,
  (Command.mk s327.Kind s327.Broker s327.Epoch s327.Part s327.Stamp []))) (fun s460=>qfa v_1 s460.1 s460.2))
def qa8 (v_1:Control)(x204:Partition)(v297:Bool × L1Cur)(s302:Command)  : Option (Oc (L1Cur × Command × (List Partition))
  (Command × L1Cur × Control)):=((xy v297.2 8).bind fun v322=>((if v322.1=true then (some (Command.mk s302.Kind s302.Broker s302.Epoch s302.Part (IntKind.wrap .i64
  (s302.Stamp+1)) [])) else (some (Command.mk s302.Kind s302.Broker s302.Epoch s302.Part s302.Stamp []))).bind (fun s461=>ul v_1 x204 v322 s461)))
def qa5 (v_1:Control)(x204:Partition)(s248:L1Cur)(s273:Command)  : Option (Oc (L1Cur × Command × (List Partition)) (Command × L1Cur × Control)) :=
  ((xy s248 8).bind fun v297=>((if v297.1=true then (some (Command.mk s273.Kind s273.Broker (IntKind.wrap .i64 (x204.Epoch+1)) s273.Part x204.Stamp [])) else (some
  (Command.mk s273.Kind s273.Broker x204.Epoch s273.Part x204.Stamp []))).bind (fun s462=>qa8 v_1 x204 v297 s462)))
def qbe (v_1:Control)(v17:Int × L1Cur × (List Int))(v193:Int × L1Cur)(x204:Partition)(v232:Int × L1Cur)(s247:Bool)(s248:L1Cur)  : Option (Oc
  (L1Cur × Command × (List Partition)) (Command × L1Cur × Control)):=((if s247=true then (some (Command.mk v17.1 x204.Leader 0 v193.1 0 [])) else (some
  (Command.mk v17.1 v232.1 0 v193.1 0 []))).bind (fun s463=>qa5 v_1 x204 s248 s463))
def um (v_1:Control)(v17:Int × L1Cur × (List Int))(s163:Bool)  : Option (Oc (L1Cur × Command × (List Partition)) (Command × L1Cur × Control)) :=
  (if s163=true then (if (decide ((List.length v_1.Parts:Int)=0))=true then (some (.ret ((Command.mk 3 0 0 0 0 []),v17.2.1,
  v_1))) else ((kp v17.2.1 12).bind fun v188=>((kp v188.2 (IntKind.wrap .i64 ((List.length v_1.Parts:Int)+(IntKind.wrap .i64
  (Int.tdiv v188.1 11))))).bind fun v193=>(if (decide ((List.length v_1.Parts:Int)≤v193.1))=true then (some (.ret ((Command.mk 6 0 0 v193.1 0 []),v193.2,
  v_1))) else ((z9 v_1.Parts v193.1).bind fun x204=>((kp v193.2 (List.length v_1.Brokers:Int)).bind fun v232=>(if (decide (v17.1=6))=true then (some (.ret
  ((Command.mk v17.1 v232.1 0 v193.1 0 []),v232.2,v_1))) else ((if (decide ((0:Int)≤x204.Leader))=true then ((xy v232.2 6).bind fun v258=>(some ((!v258.1),
  v258.2))) else (some (false,v232.2))).bind (fun s464=>qbe v_1 v17 v193 x204 v232 s464.1 s464.2))))))))) else (some (.nxt (v17.2.1,
  (Command.mk v17.1 0 0 0 0 []),v_1.Parts))))
def kz (v_1:Control)(s30:L1Cur)(s31:Command)(s36:List Partition)  : Option (Command × L1Cur × Control):=((xy s30 60).bind fun v473 =>
  (if v473.1=true then ((kp v473.2 8).bind fun v479=>((kp v479.2 8).bind fun v484=>((kp v484.2 3).bind fun v489 =>
  ((kp v489.2 8).bind fun v494=>(some ((Command.mk v479.1 (IntKind.wrap .i64 (v484.1 - 1)) 0 v489.1 0 [(IntKind.wrap .i64 (v494.1 - 1))]),v494.2,
  (Control.mk v_1.Brokers s36 v_1.Next))))))) else (some (s31,v473.2,(Control.mk v_1.Brokers s36 v_1.Next)))))
def qbb (k:Nat)(v_0:L1Cur)(v_1:Control) : Option (Command × L1Cur × Control):=((qd7 v_0 [1,1,2,2,3,3,4,5,5,5,
  6]).bind fun v17=>(jn (if (decide (v17.1=1))=true then ((kp v17.2.1 (List.length v_1.Brokers:Int)).bind fun v47=>(some (.nxt (v47.2,
  (Command.mk v17.1 v47.1 0 0 0 []),v_1.Parts)))) else (if (decide (v17.1=2))=true then ((kp v17.2.1 (List.length v_1.Brokers:Int)).bind fun v56 =>
  ((z9 v_1.Brokers v56.1).bind fun x63=>((xy v56.2 6).bind fun v70=>(if v70.1=true then (some (.nxt (v70.2,
  (Command.mk v17.1 v56.1 (IntKind.wrap .i64 (x63.Epoch+1)) 0 0 []),v_1.Parts))) else (some (.nxt (v70.2,(Command.mk v17.1 v56.1 x63.Epoch 0 0 []),
  v_1.Parts))))))) else (if (decide (v17.1=4))=true then (jn (wv (fun s145=>yu v_1 s145.1 s145.2.1 s145.2.2) k (0,v17.2.1,
  (Command.mk v17.1 0 0 0 0 []))) (fun s162=>qch v_1 s162.1 s162.2.1 s162.2.2)) else ((if (decide (v17.1=5))=true then (some (decide (v17.1=5))) else
  (some (decide (v17.1=6)))).bind (fun s466=>um v_1 v17 s466))))) (fun s511=>kz v_1 s511.1 s511.2.1 s511.2.2)))

def qbz (s80:List Command)(s85:Int)(v120:Command × L1Cur × Control)(s165:Control)  : Option (Oc ((List Command) × Int × L1Cur × Control) (Int ×
  (List Command) × L1Cur)):=((j9 64 s80 [v120.1]).bind fun l201=>(some (.nxt (l201,(IntKind.wrap .i64 (s85 - 1)),v120.2.1,s165))))
def wd (k:Nat)(s80:List Command)(s85:Int)(s86:L1Cur)(s87:Control) : Option (Oc ((List Command) × Int × L1Cur × Control) (Int ×
  (List Command) × L1Cur)):=(if (decide ((0:Int)<s85))=true then ((qbb k s86 s87).bind fun v120=>((wn
  (Control.mk v120.2.2.Brokers v120.2.2.Parts s87.Next) v120.1).bind fun v141=>((if v141.2.2=true then (some v141.1) else (some
  (Control.mk v120.2.2.Brokers v120.2.2.Parts s87.Next))).bind (fun s211=>qbz s80 s85 v120 s211)))) else (some (.brk (s80,s85,s86,s87))))
def qgd (v1:Int × L1Cur)(s214:List Command)(s219:Int)(s220:L1Cur)(s221:Control)  : Option (Int × (List Command) × L1Cur):=(some ((IntKind.wrap .i64
  ((1:Int)+v1.1)),s214,s220))
def qb0 (k:Nat)(v1:Int × L1Cur)(v6:Control × Bool)(s38:Int)(s39:L1Cur)  : Option (Int × (List Command) × L1Cur):=(jn (wv
  (fun s213=>wd k s213.1 s213.2.1 s213.2.2.1 s213.2.2.2) k (([],s38,s39,
  v6.1) : (List Command) × Int × L1Cur × Control)) (fun s238=>qgd v1 s238.1 s238.2.1 s238.2.2.1 s238.2.2.2))
def qb3 (k:Nat)(c_0:L1Cur) : Option (Int × (List Command) × L1Cur):=((kp c_0 5).bind fun v1=>((yh k (IntKind.wrap .i64
  ((1:Int)+v1.1))).bind fun v6=>((kp v1.2 30).bind fun v28=>((xy v28.2 12).bind fun v33=>((if v33.1=true then ((kp v33.2 12).bind fun v49 =>
  (some ((IntKind.wrap .i64 ((70:Int)+v49.1)),v49.2))) else (some (v28.1,v33.2))).bind (fun s239=>qb0 k v1 v6 s239.1 s239.2))))))

def wj (k:Nat)(code_0:List Int) : Option (Int × (List Command)):=((qb3 k (L1Cur.mk code_0 0 0)).bind fun v5=>(some (v5.1,v5.2.1)))

def zp (n_0:Int)(low_1:Int)(high_2:Int) : Bool:=((decide (low_1≤n_0))&&(decide (n_0≤high_2)))

def uf (i21:Nat)(s16:Control) : Option (Oc Control Control):=((j9 24 s16.Brokers [(Broker.mk 0 0 true)]).bind fun l49=>(some (.nxt
  (Control.mk l49 [] s16.Next))))
def qe8 (s62:Control)  : Option Control:=(some (Control.mk s62.Brokers [] s62.Next))
def qax (brokers_0:Int) : Option Control:=(jn (kj (fun i21 s61=>uf i21 s61) brokers_0 (Control.mk [] [] 1))
  (fun s74=>qe8 s74))

def qa4 (list_0:List Int)(many_1:Int)(i1:Nat)(x2:Int) : Option (Oc Unit Bool):=((if (!(zp x2 0 (IntKind.wrap .i64 (many_1 - 1))))=true then
  (some true) else ((if (decide ((0:Int)<(i1:Int)))=true then ((z9 list_0 (IntKind.wrap .i64 ((i1:Int) - 1))).bind fun x30=>(some (decide (x2≤x30)))) else
  (some false)).bind fun v30=>(some v30))).bind fun v27=>(if v27=true then (some (.ret false)) else (some (.nxt ()))))
def qfc  : Option Bool:=(some true)
def w7 (list_0:List Int)(many_1:Int) : Option Bool:=(jn (jh (fun i1 x2 _=>qa4 list_0 many_1 i1 x2 ) list_0 ())
  (fun _=>qfc ))

def qbr (v_0:Command)(v_1:Int) : Option Bool:=((if ((((!(zp v_0.Broker 0 (IntKind.wrap .i64 (v_1 - 1))))||(!(zp v_0.Epoch 0 1000))) ||
  (!(zp v_0.Part 0 1000)))||(!(zp v_0.Stamp 0 1000)))=true then (some true) else ((w7 v_0.InStep v_1).bind fun v37=>(some (!v37)))).bind fun v37 =>
  (if v37=true then (some false) else (if (decide (v_0.Kind=1))=true then (some ((((decide (v_0.Epoch=0))&&(decide (v_0.Stamp=0)))&&(decide
  ((List.length v_0.InStep:Int)=0)))&&(decide (v_0.Part=0)))) else (if (decide (v_0.Kind=2))=true then (some (((decide (v_0.Stamp=0))&&(decide
  ((List.length v_0.InStep:Int)=0)))&&(decide (v_0.Part=0)))) else (if (decide (v_0.Kind=3))=true then (some (((((decide (v_0.Epoch=0))&&(decide
  (v_0.Stamp=0)))&&(decide ((List.length v_0.InStep:Int)=0)))&&(decide (v_0.Part=0)))&&(decide (v_0.Broker=0)))) else (if (decide (v_0.Kind=4))=true then
  (some ((((decide (v_0.Epoch=0))&&(decide (v_0.Stamp=0)))&&(decide (v_0.Part=0)))&&(decide (v_0.Broker=0)))) else (if (decide (v_0.Kind=5))=true then
  (some true) else (if (decide (v_0.Kind=6))=true then (some (((decide (v_0.Epoch=0))&&(decide (v_0.Stamp=0)))&&(decide ((List.length v_0.InStep:Int)=0)))) else
  (some false)))))))))

def qap (l22:List Broker)(i44:Nat)(x45:Partition)(s39:Control) : Option (Oc Control Control):=((j9 8 ([] : List Int) x45.Homes).bind fun l79 =>
  ((j9 8 ([] : List Int) x45.InStep).bind fun l96=>((j9 72 s39.Parts [(Partition.mk l79 l96 x45.Leader x45.Epoch x45.Stamp)]).bind fun l113=>(some (.nxt
  (Control.mk l22 l113 s39.Next))))))
def qen (l22:List Broker)(s126:Control)  : Option Control:=(some (Control.mk l22 s126.Parts s126.Next))
def we (c_0:Control) : Option Control:=((j9 24 ([] : List Broker) c_0.Brokers).bind fun l22=>(jn (jh
  (fun i44 x45 s125=>qap l22 i44 x45 s125) c_0.Parts (Control.mk l22 [] c_0.Next)) (fun s139=>qen l22 s139)))

def xu (v_1:Int)(i1:Nat)(x2:Int) : Option (Oc Unit Int):=(if (decide (v_1=x2))=true then (some (.ret (i1:Int))) else (some (.nxt ())))
def qeo  : Option Int:=(some (-1))
def qbw (s_0:List Int)(v_1:Int) : Option Int:=(jn (jh (fun i1 x2 _=>xu v_1 i1 x2 ) s_0 ()) (fun _=>qeo ))

def jt (s_0:List Int)(v_1:Int) : Option Bool:=((qbw s_0 v_1).bind fun v1=>(some (decide ((0:Int)≤v1))))

def qd6 (k_0:Int)(cap_0:List Int) : Option Bool:=((jt cap_0 k_0).bind fun v1=>(some (!v1)))

def qb7 (of_1:List Int)(i16:Nat)(x17:Int) : Option (Oc Unit Int):=((qd6 x17 of_1).bind fun v38=>(if v38=true then (some (.ret (i16:Int))) else
  (some (.nxt ()))))
def qh0  : Option Int:=(some (-1))
def qa9 (list_0:List Int)(of_1:List Int) : Option Bool:=(((jn (jh (fun i16 x17 _=>qb7 of_1 i16 x17 ) list_0 ())
  (fun _=>qh0 ))).bind fun v10=>(some (!(decide ((0:Int)≤v10)))))

def wu (i41:Nat)(s38:List Broker) : Option (Oc (List Broker) (Int × Control)):=((z9 s38 (i41:Int)).bind fun x62=>(some (.nxt (List.set s38
  (i41:Int).toNat (Broker.mk x62.Epoch (mxI (IntKind.wrap .i64 (x62.Left - 1)) 0) x62.Fenced)))))
def qcz (v_0:Control)(s72:List Broker)  : Option (Int × Control):=(some (0,(Control.mk s72 v_0.Parts v_0.Next)))
def yl (v_0:Control)(x161:Partition)(i274:Nat)(x275:Int) : Option (Oc Unit Int):=((z9 v_0.Brokers x275).bind fun x300 =>
  ((if x300.Fenced=true then ((jt x161.InStep x275).bind fun v321=>(some (!v321))) else (some false)).bind fun v306=>(if v306=true then (some (.ret
  (i274:Int))) else (some (.nxt ())))))
def qa6  : Option Int:=(some (-1))
def ky (v_0:Control)(v_1:Command)(x7:Broker)(s141:Bool)  : Option (Int × Control):=(if s141=true then (if (decide
  ((List.length v_0.Parts:Int)≤v_1.Part))=true then (some (1,
  v_0)) else ((z9 v_0.Parts v_1.Part).bind fun x161=>(if (decide (v_1.Kind=6))=true then ((jt x161.InStep v_1.Broker).bind fun v182=>(if
  ((!v182)||x7.Fenced)=true then (some (4,v_0)) else (some (0,
  (Control.mk v_0.Brokers (List.set v_0.Parts v_1.Part.toNat (Partition.mk x161.Homes x161.InStep v_1.Broker x161.Epoch x161.Stamp)) v_0.Next))))) else (if (decide
  (v_1.Epoch≠x161.Epoch))=true then (some (2,v_0)) else (if (decide (v_1.Broker≠x161.Leader))=true then (some (3,
  v_0)) else (if (decide (v_1.Stamp≠x161.Stamp))=true then (some (2,
  v_0)) else (((jn (jh (fun i274 x275 _=>yl v_0 x161 i274 x275 ) v_1.InStep ()) (fun _=>qa6 ))).bind fun v267 =>
  ((qa9 v_1.InStep x161.Homes).bind fun v363=>(if (!v363)=true then (some (4,
  v_0)) else ((jt v_1.InStep x161.Leader).bind fun v371=>(if ((!v371)||(decide ((0:Int)≤v267)))=true then (some (4,
  v_0)) else ((j9 8 ([] : List Int) v_1.InStep).bind fun l395=>(some (0,
  (Control.mk v_0.Brokers (List.set v_0.Parts v_1.Part.toNat (Partition.mk x161.Homes l395 x161.Leader x161.Epoch (IntKind.wrap .i64
  (x161.Stamp+1)))) v_0.Next))))))))))))))) else (some (0,v_0)))
def qa1 (v_0:Control)(v_1:Command) : Option (Int × Control):=((z9 v_0.Brokers v_1.Broker).bind fun x7=>(if (decide (v_1.Kind=1))=true then (if (decide
  (v_0.Next=1000))=true then (some (4,v_0)) else (some (0,
  (Control.mk (List.set v_0.Brokers v_1.Broker.toNat (Broker.mk v_0.Next 9 x7.Fenced)) v_0.Parts (IntKind.wrap .i64 (v_0.Next+1)))))) else (if (decide
  (v_1.Kind=2))=true then (if (decide (x7.Epoch=0))=true then (some (1,v_0)) else (if (decide (x7.Epoch≠v_1.Epoch))=true then (some (2,v_0)) else (some (0,
  (Control.mk (List.set v_0.Brokers v_1.Broker.toNat (Broker.mk x7.Epoch 9 x7.Fenced)) v_0.Parts v_0.Next))))) else (if (decide (v_1.Kind=3))=true then (jn (kj
  (fun i41 s71=>wu i41 s71) (List.length v_0.Brokers:Int) v_0.Brokers) (fun s79=>qcz v_0 s79)) else (if (decide (v_1.Kind=4))=true then
  (if ((decide ((List.length v_1.InStep:Int)=0))||(decide ((List.length v_0.Parts:Int)=5)))=true then (some (4,
  v_0)) else ((j9 8 ([] : List Int) v_1.InStep).bind fun l104=>((j9 8 ([] : List Int) v_1.InStep).bind fun l114=>((j9 72 v_0.Parts [(Partition.mk l104 l114
  (-1) 0 0)]).bind fun l130=>(some (0,
  (Control.mk v_0.Brokers l130 v_0.Next))))))) else ((if (decide (v_1.Kind=5))=true then (some (decide (v_1.Kind=5))) else (some (decide (v_1.Kind=6)))).bind
  (fun s418=>ky v_0 v_1 x7 s418)))))))

def u6 (c_0:Control)(i7:Nat)(x8:Int) : Option (Oc Unit Int):=((z9 c_0.Brokers x8).bind fun x29=>(if (!x29.Fenced)=true then (some
  (.ret x8)) else (some (.nxt ()))))
def qcd  : Option Int:=(some (-1))
def y9 (c_0:Control)(list_1:List Int) : Option Int:=(jn (jh (fun i7 x8 _=>u6 c_0 i7 x8 ) list_1 ())
  (fun _=>qcd ))

def qbl (i75:Nat)(s72:List Broker) : Option (Oc (List Broker) (Control × Int)):=((z9 s72 (i75:Int)).bind fun x98=>(some (.nxt (List.set s72
  (i75:Int).toNat (Broker.mk x98.Epoch x98.Left (decide (x98.Left=0)))))))
def qbm (v_0:Control)(i125:Nat)(s289:List Partition)  : Option (Oc (List Partition) (Control × Int)):=((z9 s289 (i125:Int)).bind fun x349=>(if
  ((decide ((1000:Int)<x349.Stamp))||(decide ((1000:Int)<x349.Epoch)))=true then ((we v_0).bind fun v380=>(some (.ret (v380,
  4)))) else (some (.nxt s289))))
def qc8 (v_0:Control)(i125:Nat)(s196:List Partition)  : Option (Oc (List Partition) (Control × Int)):=((if (decide ((List.length v_0.Parts:Int) ≤
  (i125:Int)))=true then (some true) else ((z9 s196 (i125:Int)).bind fun x253=>((z9 v_0.Parts (i125:Int)).bind fun x271=>(some (decide
  (x253.Leader≠x271.Leader)))))).bind fun v253=>((if v253=true then ((z9 s196 (i125:Int)).bind fun x300=>(if (decide (x300.Leader≠(-1)))=true then (some
  (List.set s196 (i125:Int).toNat (Partition.mk x300.Homes x300.InStep x300.Leader (IntKind.wrap .i64 (x300.Epoch+1)) (IntKind.wrap .i64 (x300.Stamp+1))))) else (some
  (List.set s196 (i125:Int).toNat (Partition.mk x300.Homes x300.InStep x300.Leader x300.Epoch (IntKind.wrap .i64 (x300.Stamp+1))))))) else (some s196)).bind
  (fun s410=>qbm v_0 i125 s410)))
def y7 (v_0:Control)(v39:Int × Control)(s110:List Broker)(i125:Nat)(s122:List Partition) : Option (Oc (List Partition) (Control × Int)) :=
  ((z9 s122 (i125:Int)).bind fun x148=>((if (decide (x148.Leader=(-1)))=true then (some true) else ((z9 s110 x148.Leader).bind fun x171 =>
  (some x171.Fenced))).bind fun v171=>((if v171=true then ((y9 (Control.mk s110 s122 v39.2.Next) x148.InStep).bind fun v226=>(some (List.set s122
  (i125:Int).toNat (Partition.mk x148.Homes x148.InStep v226 x148.Epoch x148.Stamp)))) else (some s122)).bind (fun s411=>qc8 v_0 i125 s411))))
def qfs (v39:Int × Control)(s110:List Broker)(s413:List Partition)  : Option (Control × Int):=(some ((Control.mk s110 s413 v39.2.Next),0))
def qc7 (v_0:Control)(v39:Int × Control)(s110:List Broker)  : Option (Control × Int):=(jn (kj
  (fun i125 s412=>y7 v_0 v39 s110 i125 s412) (List.length v39.2.Parts:Int) v39.2.Parts) (fun s424=>qfs v39 s110 s424))
def qbo (v_0:Control)(v_1:Command) : Option (Control × Int):=((we v_0).bind fun v17=>((qa1 v17 v_1).bind fun v39=>(if (decide
  (v39.1≠0))=true then ((we v_0).bind fun v51=>(some (v51,
  v39.1))) else (jn (kj (fun i75 s109=>qbl i75 s109) (List.length v39.2.Brokers:Int) v39.2.Brokers) (fun s425=>qc7 v_0 v39 s425)))))

def wy (brokers_0:Int)(i74:Nat)(x75:Command)(s60:List Int)(s65:Control) : Option (Oc ((List Int) × Control) (Control × (List Int) × Bool)) :=
  ((qbr x75 brokers_0).bind fun v107=>(if (!v107)=true then (some (.ret ((Control.mk [] [] 0),[],
  false))) else ((qbo s65 x75).bind fun v116=>((j9 8 s60 [v116.2]).bind fun l148=>(some (.nxt (l148,v116.1)))))))
def qd8 (s159:List Int)(s164:Control)  : Option (Control × (List Int) × Bool):=(some (s164,s159,true))
def xg (brokers_0:Int)(l_1:List Command) : Option (Control × (List Int) × Bool):=(if ((!(zp brokers_0 1 6))||(decide ((80:Int) <
  (List.length l_1:Int))))=true then (some ((Control.mk [] [] 0),[],
  false)) else ((qax brokers_0).bind fun v18=>(jn (jh (fun i74 x75 s158=>wy brokers_0 i74 x75 s158.1 s158.2) l_1 (([] : List Int),
  v18)) (fun s183=>qd8 s183.1 s183.2))))

def w8 (i68:Nat)(x69:Command)(s54:List Int)(s59:Control) : Option (Oc ((List Int) × Control) (Control × (List Int) × Bool)) :=
  ((wn s59 x69).bind fun v100=>(if (!v100.2.2)=true then (some (.ret ((Control.mk [] [] 0),[],
  false))) else ((j9 8 s54 [v100.2.1]).bind fun l138=>(some (.nxt (l138,v100.1))))))
def qd3 (s149:List Int)(s154:Control)  : Option (Control × (List Int) × Bool):=(some (s154,s149,true))
def xl (k:Nat)(brokers_0:Int)(l_1:List Command) : Option (Control × (List Int) × Bool):=((yh k brokers_0).bind fun v5=>(if ((!v5.2) ||
  (decide ((80:Int)<(List.length l_1:Int))))=true then (some ((Control.mk [] [] 0),[],
  false)) else (jn (jh (fun i68 x69 s148=>w8 i68 x69 s148.1 s148.2) l_1 (([],
  v5.1) : (List Int) × Control)) (fun s172=>qd3 s172.1 s172.2))))

def qaj (b_1:List Int)(i2:Nat)(x3:Int) : Option (Oc Unit Bool):=((z9 b_1 (i2:Int)).bind fun x24=>(if (decide (x3≠x24))=true then (some
  (.ret false)) else (some (.nxt ()))))
def qgh  : Option Bool:=(some true)
def yf (a_0:List Int)(b_1:List Int) : Option Bool:=(if (decide ((List.length a_0:Int)≠(List.length b_1:Int)))=true then (some false) else (jn (jh
  (fun i2 x3 _=>qaj b_1 i2 x3 ) a_0 ()) (fun _=>qgh )))

def u4 (v_0:Control)(v_1:Control)(i32:Nat) : Option (Oc Unit Bool):=((z9 v_0.Brokers (i32:Int)).bind fun x54=>((z9 v_1.Brokers
  (i32:Int)).bind fun x57=>(if (!((x54.Epoch == x57.Epoch)&&((x54.Left == x57.Left)&&((x54.Fenced == x57.Fenced)&&true))))=true then (some (.ret false)) else (some
  (.nxt ())))))
def qaa (v_0:Control)(v_1:Control)(i71:Nat) : Option (Oc Unit Bool):=((z9 v_0.Parts (i71:Int)).bind fun x93=>((z9 v_1.Parts
  (i71:Int)).bind fun x104=>((if (((decide (x93.Leader≠x104.Leader))||(decide (x93.Epoch≠x104.Epoch)))||(decide (x93.Stamp≠x104.Stamp)))=true then
  (some true) else ((yf x93.Homes x104.Homes).bind fun v144=>(some (!v144)))).bind fun v144=>((if v144=true then (some true) else
  ((yf x93.InStep x104.InStep).bind fun v165=>(some (!v165)))).bind fun v165=>(if v165=true then (some (.ret false)) else (some (.nxt ())))))))
def qef  : Option Bool:=(some true)
def qbx (v_0:Control)(v_1:Control)  : Option Bool:=(jn (kj (fun i71 _=>qaa v_0 v_1 i71 ) (List.length v_0.Parts:Int) ())
  (fun _=>qef ))
def xh (v_0:Control)(v_1:Control) : Option Bool:=(if (((decide (v_0.Next≠v_1.Next))||(decide ((List.length v_0.Brokers:Int) ≠
  (List.length v_1.Brokers:Int))))||(decide ((List.length v_0.Parts:Int)≠(List.length v_1.Parts:Int))))=true then (some false) else (jn (kj
  (fun i32 _=>u4 v_0 v_1 i32 ) (List.length v_0.Brokers:Int) ()) (fun _=>qbx v_0 v_1 )))

def uw (v_0:Control)(i26:Nat)(x27:Broker) : Option (Oc Unit Bool):=(if ((((!(zp x27.Epoch 0 (IntKind.wrap .i64 (v_0.Next - 1)))) ||
  (!(zp x27.Left 0 9)))||((decide (x27.Epoch=0))&&(decide (x27.Left≠0))))||(!(x27.Fenced == (decide (x27.Left=0)))))=true then (some (.ret false)) else (some
  (.nxt ())))
def ux (v_0:Control)(i121:Nat)(x122:Partition) : Option (Oc Unit Bool):=((if (decide ((List.length x122.Homes:Int)=0))=true then (some true) else
  ((w7 x122.Homes (List.length v_0.Brokers:Int)).bind fun v155=>(some (!v155)))).bind fun v155=>((if (v155||(decide
  ((List.length x122.InStep:Int)=0)))=true then (some true) else ((w7 x122.InStep (List.length v_0.Brokers:Int)).bind fun v189=>(some
  (!v189)))).bind fun v189=>((if v189=true then (some true) else ((qa9 x122.InStep x122.Homes).bind fun v210=>(some (!v210)))).bind fun v210=>(if ((v210 ||
  (!(zp x122.Epoch 0 1000)))||(!(zp x122.Stamp 0 1000)))=true then (some (.ret false)) else ((y9 v_0 x122.InStep).bind fun v258=>((if
  ((decide (x122.Leader=(-1)))&&(decide (v258≠(-1))))=true then (some true) else ((if (decide (x122.Leader≠(-1)))=true then
  ((jt x122.InStep x122.Leader).bind fun v280=>((if (!v280)=true then (some true) else ((z9 v_0.Brokers x122.Leader).bind fun x286 =>
  (some x286.Fenced))).bind fun v286=>(some v286))) else (some false)).bind fun v280=>(some v280))).bind fun v277=>(if v277=true then (some (.ret false)) else (some
  (.nxt ())))))))))
def qfr  : Option Bool:=(some true)
def qda (v_0:Control)  : Option Bool:=(jn (jh (fun i121 x122 _=>ux v_0 i121 x122 ) v_0.Parts ()) (fun _=>qfr ))
def yz (v_0:Control) : Option Bool:=(if (((!(zp (List.length v_0.Brokers:Int) 1 6))||(decide ((5:Int)<(List.length v_0.Parts:Int)))) ||
  (!(zp v_0.Next 1 1000)))=true then (some false) else (jn (jh (fun i26 x27 _=>uw v_0 i26 x27 ) v_0.Brokers ()) (fun _=>qda v_0 )))

def qan (i27:Nat)(x28:Broker)(s22:List Int) : Option (Oc (List Int) ((List Int) × Bool)):=(if (!x28.Fenced)=true then
  ((j9 8 s22 [(i27:Int)]).bind fun l64=>(some (.nxt l64))) else (some (.nxt s22)))
def qem (s76:List Int)  : Option ((List Int) × Bool):=(some (s76,true))
def qai (c_0:Control) : Option ((List Int) × Bool):=((yz c_0).bind fun v7=>(if (!v7)=true then (some ([],
  false)) else (jn (jh (fun i27 x28 s75=>qan i27 x28 s75) c_0.Brokers ([] : List Int)) (fun s86=>qem s86))))

def uo (broker_1:Int)(i23:Nat)(x24:Partition)(s18:List Int) : Option (Oc (List Int) (List Int)):=(if (decide (x24.Leader=broker_1))=true then
  ((j9 8 s18 [(i23:Int)]).bind fun l61=>(some (.nxt l61))) else (some (.nxt s18)))
def qdx (s73:List Int)  : Option (List Int):=(some s73)
def wq (c_0:Control)(broker_1:Int) : Option (List Int):=(jn (jh (fun i23 x24 s72=>uo broker_1 i23 x24 s72) c_0.Parts
  ([] : List Int)) (fun s84=>qdx s84))

def u0 (c_0:Control) : Option ((List Int) × Bool):=((yz c_0).bind fun v7=>(if (!v7)=true then (some ([],
  false)) else ((wq c_0 (-1)).bind fun v11=>(some (v11,true)))))

def qag (c_0:Control) : Option Bool:=((yz c_0).bind fun v7=>(some v7))

def qe2 (n_1:Int)(i1:Nat)(x2:Int) : Option (Oc Unit Bool):=(if (decide (x2=n_1))=true then (some (.ret true)) else (some (.nxt ())))
def qjd  : Option Bool:=(some false)
def wg (l_0:List Int)(n_1:Int) : Option Bool:=(jn (jh (fun i1 x2 _=>qe2 n_1 i1 x2 ) l_0 ()) (fun _=>qjd ))

def qak (c_0:Control)(broker_1:Int) : Option ((List Int) × Bool):=((yz c_0).bind fun v7=>(if ((!v7)||(!(zp broker_1 0 (IntKind.wrap .i64
  ((List.length c_0.Brokers:Int) - 1)))))=true then (some ([],false)) else ((wq c_0 broker_1).bind fun v20=>(some (v20,true)))))

def qcq (v109:(List Int) × Bool)(x179:Partition)(i237:Nat) : Option (Oc Unit (Oc Unit (Oc (List Partition) Bool))):=((z9 x179.InStep
  (i237:Int)).bind fun x266=>((wg v109.1 x266).bind fun v271=>(if v271=true then (some (.ret (.ret (.ret false)))) else (some (.nxt ())))))
def qfj  : Option (Oc Unit (Oc (List Partition) Bool)):=(some (.nxt ()))
def qaz (v14:Control × (List Int) × Bool)(s152:List Partition)(i155:Nat)(x179:Partition)(i310:Nat) : Option (Oc Unit (Oc (List Partition) Bool)) :=
  ((qak (Control.mk v14.1.Brokers s152 v14.1.Next) (i310:Int)).bind fun v342=>(if (!v342.2)=true then (some (.ret (.ret false))) else ((wg v342.1
  (i155:Int)).bind fun v361=>(if (!(v361 == (decide (x179.Leader=(i310:Int)))))=true then (some (.ret (.ret false))) else (some (.nxt ()))))))
def qck (s152:List Partition)  : Option (Oc (List Partition) Bool):=(some (.nxt s152))
def qcy (v14:Control × (List Int) × Bool)(s152:List Partition)(i155:Nat)(x179:Partition)  : Option (Oc (List Partition) Bool):=(jn (kj
  (fun i310 _=>qaz v14 s152 i155 x179 i310 ) (List.length v14.1.Brokers:Int) ()) (fun _=>qck s152 ))
def ub (v109:(List Int) × Bool)(x179:Partition)(i399:Nat) : Option (Oc Unit (Oc Unit (Oc (List Partition) Bool))):=((z9 x179.InStep
  (i399:Int)).bind fun x428=>((wg v109.1 x428).bind fun v433=>(if v433=true then (some (.ret (.ret (.ret false)))) else (some (.nxt ())))))
def qfk  : Option (Oc Unit (Oc (List Partition) Bool)):=(some (.nxt ()))
def qa2 (v14:Control × (List Int) × Bool)(s152:List Partition)(i155:Nat)(x179:Partition)(i472:Nat) : Option (Oc Unit (Oc (List Partition) Bool)) :=
  ((qak (Control.mk v14.1.Brokers s152 v14.1.Next) (i472:Int)).bind fun v504=>(if (!v504.2)=true then (some (.ret (.ret false))) else ((wg v504.1
  (i155:Int)).bind fun v523=>(if (!(v523 == (decide (x179.Leader=(i472:Int)))))=true then (some (.ret (.ret false))) else (some (.nxt ()))))))
def qcw (s152:List Partition)  : Option (Oc (List Partition) Bool):=(some (.nxt s152))
def qcu (v14:Control × (List Int) × Bool)(s152:List Partition)(i155:Nat)(x179:Partition)  : Option (Oc (List Partition) Bool):=(jn (kj
  (fun i472 _=>qa2 v14 s152 i155 x179 i472 ) (List.length v14.1.Brokers:Int) ()) (fun _=>qcw s152 ))
def ua (v14:Control × (List Int) × Bool)(v109:(List Int) × Bool)(v112:(List Int) × Bool)(i155:Nat)(s152:List Partition) : Option (Oc
  (List Partition) Bool):=((z9 s152 (i155:Int)).bind fun x179=>((wg v112.1 (i155:Int)).bind fun v207=>(if (!((decide (x179.Leader =
  (-1))) == v207))=true then (some (.ret false)) else (if (decide ((0:Int)≤x179.Leader))=true then ((wg x179.InStep x179.Leader).bind fun v215=>(if
  (!v215)=true then (some (.ret false)) else ((wg v109.1 x179.Leader).bind fun v222=>(if (!v222)=true then (some (.ret false)) else (jn (if (decide (x179.Leader =
  (-1)))=true then (jn (kj (fun i237 _=>qcq v109 x179 i237 ) (List.length x179.InStep:Int) ()) (fun _=>qfj )) else (some (.nxt ())))
  (fun _=>qcy v14 s152 i155 x179 )))))) else (jn (if (decide (x179.Leader=(-1)))=true then (jn (kj (fun i399 _=>ub v109 x179 i399 )
  (List.length x179.InStep:Int) ()) (fun _=>qfk )) else (some (.nxt ()))) (fun _=>qcu v14 s152 i155 x179 ))))))
def qfh (s554:List Partition)  : Option Bool:=(some true)
def qa3 (k:Nat)(v_0:List Int) : Option Bool:=(if (decide ((1048576:Int)<(List.length v_0:Int)))=true then (some true) else
  ((wj k v_0).bind fun v2=>((xg v2.1 v2.2).bind fun v14=>((xl k v2.1 v2.2).bind fun v42=>((if
  (!(v14.2.2 == v42.2.2))=true then (some true) else ((yf v14.2.1 v42.2.1).bind fun v73=>(some (!v73)))).bind fun v73=>((if v73=true then (some true) else
  ((xh v14.1 v42.1).bind fun v92=>(some (!v92)))).bind fun v92=>(if v92=true then (some false) else (if (!v14.2.2)=true then (some (decide
  ((List.length v14.2.1:Int)=0))) else ((qai v14.1).bind fun v109=>((u0 v14.1).bind fun v112=>((qag v14.1).bind fun v124=>(if
  (((!v124)||(!v109.2))||(!v112.2))=true then (some false) else (jn (kj (fun i155 s553=>ua v14 v109 v112 i155 s553)
  (List.length v14.1.Parts:Int) v14.1.Parts) (fun s564=>qfh s564))))))))))))))
end Go.Proofs.Ytjloihcijdcpeaa.X
