/- The seat's types and functions, as plain Lean has them. -/
import Derived.Test.YtjloihcijdcpeaaZIns
open Go.IntKind renaming wrap→d8
open List renaming length→b6,set→a0v
set_option linter.unusedVariables false
set_option linter.unusedSimpArgs false
set_option maxRecDepth 100000
namespace Go.Proofs.Ytjloihcijdcpeaa.X
open Go
structure BoundsError where
 x:Int
 y:Int
 signed:Bool
 code:Int
 deriving DecidableEq,Inhabited
def qxk (x:BoundsError) : List XV:=[.int .i64 x.x,.int .i64 x.y,.bool x.signed,.int .u8 x.code]
structure Broker where
 Epoch:Int
 Left:Int
 Fenced:Bool
 deriving DecidableEq,Inhabited
def qe (x:Broker) : List XV:=[.int .i64 x.Epoch,.int .i64 x.Left,.bool x.Fenced]
structure Partition where
 Homes:List Int
 InStep:List Int
 Leader:Int
 Epoch:Int
 Stamp:Int
 deriving DecidableEq,Inhabited
def qd (x:Partition) : List XV:=[lst cI x.Homes,lst cI x.InStep,.int .i64 x.Leader,.int .i64 x.Epoch,.int .i64 x.Stamp]
structure Control where
 Brokers:List Broker
 Parts:List Partition
 Next:Int
 deriving DecidableEq,Inhabited
def q8u (x:Control) : List XV:=[lst qe x.Brokers,lst qd x.Parts,.int .i64 x.Next]
structure Command where
 Kind:Int
 Broker:Int
 Epoch:Int
 Part:Int
 Stamp:Int
 InStep:List Int
 deriving DecidableEq,Inhabited
def w8 (x:Command) : List XV:=[.int .i64 x.Kind,.int .i64 x.Broker,.int .i64 x.Epoch,.int .i64 x.Part,.int .i64 x.Stamp,lst cI x.InStep]
structure L1Cur where
 code:List Int
 at_:Int
 seed:Int
 deriving DecidableEq,Inhabited
def zav (x:L1Cur) : List XV:=[lst cU8 x.code,.int .i64 x.at_,.int .u64 x.seed]

def qa4 (b_1:List Int)(i2:Nat)(x3:Int) : Option (Oc Unit Bool):=((jb b_1 (i2:Int)).bind fun x24=>(if (decide (x3≠x24))=true then (some
  (.ret false)) else (some (.nxt ()))))
def qhb  : Option Bool:=(some true)
def kh (a_0:List Int)(b_1:List Int) : Option Bool:=(if (decide ((b6 a_0:Int)≠(b6 b_1:Int)))=true then (some false) else (jn (jj
  (fun i2 x3 _=>qa4 b_1 i2 x3 ) a_0 ()) (fun _=>qhb )))

def qaw (v_0:Control)(v_1:Control)(i32:Nat) : Option (Oc Unit Bool):=((jb v_0.Brokers (i32:Int)).bind fun x54=>((jb v_1.Brokers
  (i32:Int)).bind fun x57=>(if (!((x54.Epoch == x57.Epoch)&&((x54.Left == x57.Left)&&((x54.Fenced == x57.Fenced)&&true))))=true then (some (.ret false)) else (some
  (.nxt ())))))
def qau (v_0:Control)(v_1:Control)(i71:Nat) : Option (Oc Unit Bool):=((jb v_0.Parts (i71:Int)).bind fun x93=>((jb v_1.Parts
  (i71:Int)).bind fun x104=>((if (((decide (x93.Leader≠x104.Leader))||(decide (x93.Epoch≠x104.Epoch)))||(decide (x93.Stamp≠x104.Stamp)))=true then
  (some true) else ((kh x93.Homes x104.Homes).bind fun v144=>(some (!v144)))).bind fun v144=>((if v144=true then (some true) else
  ((kh x93.InStep x104.InStep).bind fun v165=>(some (!v165)))).bind fun v165=>(if v165=true then (some (.ret false)) else (some (.nxt ())))))))
def qek  : Option Bool:=(some true)
def qco (v_0:Control)(v_1:Control)  : Option Bool:=(jn (yq (fun i71 _=>qau v_0 v_1 i71 ) (b6 v_0.Parts:Int) ())
  (fun _=>qek ))
def yz (v_0:Control)(v_1:Control) : Option Bool:=(if (((decide (v_0.Next≠v_1.Next))||(decide ((b6 v_0.Brokers:Int) ≠
  (b6 v_1.Brokers:Int))))||(decide ((b6 v_0.Parts:Int)≠(b6 v_1.Parts:Int))))=true then (some false) else (jn (yq
  (fun i32 _=>qaw v_0 v_1 i32 ) (b6 v_0.Brokers:Int) ()) (fun _=>qco v_0 v_1 )))

def z0 (n_0:Int)(low_1:Int)(high_2:Int) : Bool:=((decide (low_1≤n_0))&&(decide (n_0≤high_2)))

def qbw (list_0:List Int)(many_1:Int)(i1:Nat)(x2:Int) : Option (Oc Unit Bool):=((if (!(z0 x2 0 (d8 .i64 (many_1 - 1))))=true then
  (some true) else ((if (decide ((0:Int)<(i1:Int)))=true then ((jb list_0 (d8 .i64 ((i1:Int) - 1))).bind fun x30=>(some (decide (x2≤x30)))) else
  (some false)).bind fun v30=>(some v30))).bind fun v27=>(if v27=true then (some (.ret false)) else (some (.nxt ()))))
def qfw  : Option Bool:=(some true)
def xz (list_0:List Int)(many_1:Int) : Option Bool:=(jn (jj (fun i1 x2 _=>qbw list_0 many_1 i1 x2 ) list_0 ())
  (fun _=>qfw ))

def qax (c_0:Control)(i7:Nat)(x8:Int) : Option (Oc Unit Int):=((jb c_0.Brokers x8).bind fun x29=>(if (!x29.Fenced)=true then (some
  (.ret x8)) else (some (.nxt ()))))
def qc3  : Option Int:=(some (-1))
def w7 (c_0:Control)(list_1:List Int) : Option Int:=(jn (jj (fun i7 x8 _=>qax c_0 i7 x8 ) list_1 ())
  (fun _=>qc3 ))

def uq (v_1:Int)(i1:Nat)(x2:Int) : Option (Oc Unit Int):=(if (decide (v_1=x2))=true then (some (.ret (i1:Int))) else (some (.nxt ())))
def qe8  : Option Int:=(some (-1))
def qcq (s_0:List Int)(v_1:Int) : Option Int:=(jn (jj (fun i1 x2 _=>uq v_1 i1 x2 ) s_0 ()) (fun _=>qe8 ))

def j5 (s_0:List Int)(v_1:Int) : Option Bool:=((qcq s_0 v_1).bind fun v1=>(some (decide ((0:Int)≤v1))))

def qe4 (k_0:Int)(cap_0:List Int) : Option Bool:=((j5 cap_0 k_0).bind fun v1=>(some (!v1)))

def qcs (of_1:List Int)(i16:Nat)(x17:Int) : Option (Oc Unit Int):=((qe4 x17 of_1).bind fun v38=>(if v38=true then (some (.ret (i16:Int))) else
  (some (.nxt ()))))
def qis  : Option Int:=(some (-1))
def qbq (list_0:List Int)(of_1:List Int) : Option Bool:=(((jn (jj (fun i16 x17 _=>qcs of_1 i16 x17 ) list_0 ())
  (fun _=>qis ))).bind fun v10=>(some (!(decide ((0:Int)≤v10)))))

def qao (v_0:Control)(i26:Nat)(x27:Broker) : Option (Oc Unit Bool):=(if ((((!(z0 x27.Epoch 0 (d8 .i64 (v_0.Next - 1)))) ||
  (!(z0 x27.Left 0 9)))||((decide (x27.Epoch=0))&&(decide (x27.Left≠0))))||(!(x27.Fenced == (decide (x27.Left=0)))))=true then (some (.ret false)) else (some
  (.nxt ())))
def qan (v_0:Control)(i121:Nat)(x122:Partition) : Option (Oc Unit Bool):=((if (decide ((b6 x122.Homes:Int)=0))=true then (some true) else
  ((xz x122.Homes (b6 v_0.Brokers:Int)).bind fun v155=>(some (!v155)))).bind fun v155=>((if (v155||(decide
  ((b6 x122.InStep:Int)=0)))=true then (some true) else ((xz x122.InStep (b6 v_0.Brokers:Int)).bind fun v189=>(some
  (!v189)))).bind fun v189=>((if v189=true then (some true) else ((qbq x122.InStep x122.Homes).bind fun v210=>(some (!v210)))).bind fun v210=>(if ((v210 ||
  (!(z0 x122.Epoch 0 1000)))||(!(z0 x122.Stamp 0 1000)))=true then (some (.ret false)) else ((w7 v_0 x122.InStep).bind fun v258=>((if
  ((decide (x122.Leader=(-1)))&&(decide (v258≠(-1))))=true then (some true) else ((if (decide (x122.Leader≠(-1)))=true then
  ((j5 x122.InStep x122.Leader).bind fun v280=>((if (!v280)=true then (some true) else ((jb v_0.Brokers x122.Leader).bind fun x286 =>
  (some x286.Fenced))).bind fun v286=>(some v286))) else (some false)).bind fun v280=>(some v280))).bind fun v277=>(if v277=true then (some (.ret false)) else (some
  (.nxt ())))))))))
def qgj  : Option Bool:=(some true)
def qdr (v_0:Control)  : Option Bool:=(jn (jj (fun i121 x122 _=>qan v_0 i121 x122 ) v_0.Parts ()) (fun _=>qgj ))
def yv (v_0:Control) : Option Bool:=(if (((!(z0 (b6 v_0.Brokers:Int) 1 6))||(decide ((5:Int)<(b6 v_0.Parts:Int)))) ||
  (!(z0 v_0.Next 1 1000)))=true then (some false) else (jn (jj (fun i26 x27 _=>qao v_0 i26 x27 ) v_0.Brokers ()) (fun _=>qdr v_0 )))

def qbf (i27:Nat)(x28:Broker)(s22:List Int) : Option (Oc (List Int) ((List Int) × Bool)):=(if (!x28.Fenced)=true then
  ((kg 8 s22 [(i27:Int)]).bind fun l64=>(some (.nxt l64))) else (some (.nxt s22)))
def qfb (s76:List Int)  : Option ((List Int) × Bool):=(some (s76,true))
def xa (c_0:Control) : Option ((List Int) × Bool):=((yv c_0).bind fun v7=>(if (!v7)=true then (some ([],
  false)) else (jn (jj (fun i27 x28 s75=>qbf i27 x28 s75) c_0.Brokers ([] : List Int)) (fun s86=>qfb s86))))

def qaj (broker_1:Int)(i23:Nat)(x24:Partition)(s18:List Int) : Option (Oc (List Int) (List Int)):=(if (decide (x24.Leader=broker_1))=true then
  ((kg 8 s18 [(i23:Int)]).bind fun l61=>(some (.nxt l61))) else (some (.nxt s18)))
def qef (s73:List Int)  : Option (List Int):=(some s73)
def xg (c_0:Control)(broker_1:Int) : Option (List Int):=(jn (jj (fun i23 x24 s72=>qaj broker_1 i23 x24 s72) c_0.Parts
  ([] : List Int)) (fun s84=>qef s84))

def wv (c_0:Control) : Option ((List Int) × Bool):=((yv c_0).bind fun v7=>(if (!v7)=true then (some ([],
  false)) else ((xg c_0 (-1)).bind fun v11=>(some (v11,true)))))

def wd (c_0:Control) : Option Bool:=((yv c_0).bind fun v7=>(some v7))

def qfq (n_1:Int)(i1:Nat)(x2:Int) : Option (Oc Unit Bool):=(if (decide (x2=n_1))=true then (some (.ret true)) else (some (.nxt ())))
def qjw  : Option Bool:=(some false)
def qg6 (l_0:List Int)(n_1:Int) : Option Bool:=(jn (jj (fun i1 x2 _=>qfq n_1 i1 x2 ) l_0 ()) (fun _=>qjw ))

def qbb (c_0:Control)(broker_1:Int) : Option ((List Int) × Bool):=((yv c_0).bind fun v7=>(if ((!v7)||(!(z0 broker_1 0 (d8 .i64
  ((b6 c_0.Brokers:Int) - 1)))))=true then (some ([],false)) else ((xg c_0 broker_1).bind fun v20=>(some (v20,true)))))

def zu (n_0:Int)(lo_1:Int)(hi_2:Int) : Bool:=((decide (lo_1≤n_0))&&(decide (n_0≤hi_2)))

def qc0 (l_0:List Int)(many_1:Int)(i1:Nat)(x2:Int) : Option (Oc Unit Bool):=((if ((decide (x2<0))||(decide (many_1≤x2)))=true then
  (some true) else ((if (decide ((0:Int)<(i1:Int)))=true then ((jb l_0 (d8 .i64 ((i1:Int) - 1))).bind fun x44=>(some (decide (x2≤x44)))) else
  (some false)).bind fun v44=>(some v44))).bind fun v41=>(if v41=true then (some (.ret false)) else (some (.nxt ()))))
def qhm  : Option Bool:=(some true)
def qaa (l_0:List Int)(many_1:Int) : Option Bool:=(jn (jj (fun i1 x2 _=>qc0 l_0 many_1 i1 x2 ) l_0 ()) (fun _=>qhm ))

def qd3 (n_1:Int)(i1:Nat)(x2:Int) : Option (Oc Unit Bool):=(if (decide (x2=n_1))=true then (some (.ret true)) else (some (.nxt ())))
def qiy  : Option Bool:=(some false)
def qas (l_0:List Int)(n_1:Int) : Option Bool:=(jn (jj (fun i1 x2 _=>qd3 n_1 i1 x2 ) l_0 ()) (fun _=>qiy ))

def wa (c_0:Control)(i7:Nat)(x8:Int) : Option (Oc Unit Int):=((jb c_0.Brokers x8).bind fun x29=>(if (!x29.Fenced)=true then (some (.ret x8)) else
  (some (.nxt ()))))
def qhe  : Option Int:=(some (-1))
def qbi (c_0:Control)(l_1:List Int) : Option Int:=(jn (jj (fun i7 x8 _=>wa c_0 i7 x8 ) l_1 ()) (fun _=>qhe ))

def qd2 (a_0:List Int)(i1:Nat)(x2:Int) : Option (Oc Unit Bool):=((qas a_0 x2).bind fun v23=>(if (!v23)=true then (some (.ret false)) else (some
  (.nxt ()))))
def qit  : Option Bool:=(some true)
def qdo (a_0:List Int)(b_1:List Int) : Option Bool:=(jn (jj (fun i1 x2 _=>qd2 a_0 i1 x2 ) b_1 ()) (fun _=>qit ))

def qdf (v_0:Control)(v_1:Partition) : Option Bool:=((if (decide ((b6 v_1.Homes:Int)=0))=true then (some true) else ((qaa v_1.Homes
  (b6 v_0.Brokers:Int)).bind fun v16=>(some (!v16)))).bind fun v16=>((if (v16||(decide ((b6 v_1.InStep:Int)=0)))=true then (some true) else
  ((qaa v_1.InStep (b6 v_0.Brokers:Int)).bind fun v42=>(some (!v42)))).bind fun v42=>((if v42=true then (some true) else
  ((qdo v_1.Homes v_1.InStep).bind fun v59=>(some (!v59)))).bind fun v59=>(if v59=true then (some false) else ((if (decide (v_1.Leader=(-1)))=true then
  ((qbi v_0 v_1.InStep).bind fun v77=>(some (decide ((0:Int)≤v77)))) else (some false)).bind fun v77=>((if v77=true then (some true) else ((if (decide
  (v_1.Leader≠(-1)))=true then ((qas v_1.InStep v_1.Leader).bind fun v97=>((if (!v97)=true then (some true) else ((jb v_0.Brokers v_1.Leader).bind fun x103 =>
  (some x103.Fenced))).bind fun v103=>(some v103))) else (some false)).bind fun v97=>(some v97))).bind fun v94=>(if v94=true then (some false) else (some
  ((zu v_1.Epoch 0 1000)&&(zu v_1.Stamp 0 1000))))))))))

def um (v_0:Control)(i7:Nat)(x8:Broker) : Option (Oc Unit Bool):=(if (((((decide (x8.Epoch<0))||(decide (v_0.Next≤x8.Epoch))) ||
  (!(zu x8.Left 0 9)))||(!(x8.Fenced == (decide (x8.Left=0)))))||((decide (x8.Epoch=0))&&(decide ((0:Int)<x8.Left))))=true then (some (.ret false)) else
  (some (.nxt ())))
def qbg (v_0:Control)(i124:Nat)(x125:Partition) : Option (Oc Unit Bool):=((qdf v_0 x125).bind fun v154=>(if (!v154)=true then (some
  (.ret false)) else (some (.nxt ()))))
def qe7  : Option Bool:=(some true)
def qcy (v_0:Control)  : Option Bool:=(if (((!(zu (b6 v_0.Brokers:Int) 1 6))||(decide ((5:Int)<(b6 v_0.Parts:Int)))) ||
  (!(zu v_0.Next 1 1000)))=true then (some false) else (jn (jj (fun i124 x125 _=>qbg v_0 i124 x125 ) v_0.Parts ())
  (fun _=>qe7 )))
def yb (v_0:Control) : Option Bool:=(jn (jj (fun i7 x8 _=>um v_0 i7 x8 ) v_0.Brokers ()) (fun _=>qcy v_0 ))

def qb0 (v_0:Control)(v_1:Command) : Option Bool:=(if (decide (v_1.Kind=1))=true then (some ((((((decide ((0:Int)≤v_1.Broker))&&(decide (v_1.Broker <
  (b6 v_0.Brokers:Int))))&&(decide (v_1.Epoch=0)))&&(decide (v_1.Part=0)))&&(decide (v_1.Stamp=0)))&&(decide
  ((b6 v_1.InStep:Int)=0)))) else (if (decide (v_1.Kind=2))=true then (some ((((((decide ((0:Int)≤v_1.Broker))&&(decide (v_1.Broker <
  (b6 v_0.Brokers:Int))))&&(zu v_1.Epoch 0 1000))&&(decide (v_1.Part=0)))&&(decide (v_1.Stamp=0)))&&(decide
  ((b6 v_1.InStep:Int)=0)))) else (if (decide (v_1.Kind=3))=true then (some (((((decide (v_1.Broker=0))&&(decide (v_1.Epoch=0)))&&(decide
  (v_1.Part=0)))&&(decide (v_1.Stamp=0)))&&(decide ((b6 v_1.InStep:Int)=0)))) else (if (decide (v_1.Kind=4))=true then ((if ((((decide
  (v_1.Broker=0))&&(decide (v_1.Epoch=0)))&&(decide (v_1.Part=0)))&&(decide (v_1.Stamp=0)))=true then ((qaa v_1.InStep
  (b6 v_0.Brokers:Int)).bind fun v155=>(some v155)) else (some false)).bind fun v155=>(some v155)) else (if (decide (v_1.Kind=5))=true then ((if (((((decide
  ((0:Int)≤v_1.Broker))&&(decide (v_1.Broker<(b6 v_0.Brokers:Int))))&&(zu v_1.Epoch 0 1000))&&(zu v_1.Part 0 1000)) &&
  (zu v_1.Stamp 0 1000))=true then ((qaa v_1.InStep (b6 v_0.Brokers:Int)).bind fun v198=>(some v198)) else (some false)).bind fun v198 =>
  (some v198)) else (if (decide (v_1.Kind=6))=true then (some ((((((decide ((0:Int)≤v_1.Broker))&&(decide (v_1.Broker<(b6 v_0.Brokers:Int))))&&(decide
  (v_1.Epoch=0)))&&(zu v_1.Part 0 1000))&&(decide (v_1.Stamp=0)))&&(decide ((b6 v_1.InStep:Int)=0)))) else (some false)))))))

def qa5 (v_0:Control)(x14:Partition)(i50:Nat)(x51:Int) : Option (Oc Unit Int):=((jb v_0.Brokers x51).bind fun x73=>((if x73.Fenced=true then
  ((qas x14.InStep x51).bind fun v79=>(some (!v79))) else (some false)).bind fun v79=>(if v79=true then (some (.ret 4)) else (some (.nxt ())))))
def qg5  : Option Int:=(some 0)
def uk (v_0:Control)(v_1:Command) : Option Int:=(if (decide ((b6 v_0.Parts:Int)≤v_1.Part))=true then (some 1) else
  ((jb v_0.Parts v_1.Part).bind fun x14=>(if (decide (v_1.Epoch≠x14.Epoch))=true then (some 2) else (if (decide (v_1.Broker≠x14.Leader))=true then (some 3) else (if
  (decide (v_1.Stamp≠x14.Stamp))=true then (some 2) else ((qdo x14.Homes v_1.InStep).bind fun v28=>((if (!v28)=true then (some true) else
  ((qas v_1.InStep x14.Leader).bind fun v34=>(some (!v34)))).bind fun v34=>(if v34=true then (some 4) else (jn (jj
  (fun i50 x51 _=>qa5 v_0 x14 i50 x51 ) v_1.InStep ()) (fun _=>qg5 ))))))))))

def qct (i83:Nat)(s80:List Broker) : Option (Oc (List Broker) (Oc (Control × (List Broker)) (Control × Int))):=((jb s80 (i83:Int)).bind fun x105=>(if
  (decide ((0:Int)<x105.Left))=true then (some (.nxt (a0v s80 (i83:Int).toNat (Broker.mk x105.Epoch (d8 .i64 (x105.Left - 1)) x105.Fenced)))) else (some
  (.nxt s80))))
def qiw (v_0:Control)(s119:List Broker)  : Option (Oc (Control × (List Broker)) (Control × Int)):=(some (.nxt ((Control.mk s119 v_0.Parts v_0.Next),s119)))
def qd5 (i335:Nat)(s332:List Broker) : Option (Oc (List Broker) (Control × Int)):=((jb s332 (i335:Int)).bind fun x357=>(some (.nxt (a0v s332
  (i335:Int).toNat (Broker.mk x357.Epoch x357.Left (decide (x357.Left=0)))))))
def qix (s15:Control)(s369:List Broker)  : Option (Control × Int):=(some ((Control.mk s369 s15.Parts s15.Next),0))
def qd7 (s15:Control)(s20:List Broker)  : Option (Control × Int):=(jn (yq (fun i335 s368=>qd5 i335 s368) (b6 s20:Int) s20)
  (fun s379=>qix s15 s379))
def qe3 (v_0:Control)(v_1:Command) : Option (Control × Int):=(jn (if (decide (v_1.Kind=1))=true then (if (decide (v_0.Next=1000))=true then (some (.ret (v_0,
  4))) else ((jb v_0.Brokers v_1.Broker).bind fun x35=>(some (.nxt ((Control.mk (a0v v_0.Brokers v_1.Broker.toNat (Broker.mk v_0.Next 9 false)) v_0.Parts
  (d8 .i64 (v_0.Next+1))),(a0v v_0.Brokers v_1.Broker.toNat (Broker.mk v_0.Next 9 false))))))) else (if (decide (v_1.Kind=2))=true then
  ((jb v_0.Brokers v_1.Broker).bind fun x49=>(if (decide (x49.Epoch=0))=true then (some (.ret (v_0,
  1))) else (if (decide (x49.Epoch≠v_1.Epoch))=true then (some (.ret (v_0,
  2))) else (some (.nxt ((Control.mk (a0v v_0.Brokers v_1.Broker.toNat (Broker.mk x49.Epoch 9 x49.Fenced)) v_0.Parts v_0.Next),
  (a0v v_0.Brokers v_1.Broker.toNat (Broker.mk x49.Epoch 9 x49.Fenced)))))))) else (if (decide (v_1.Kind=3))=true then (jn (yq
  (fun i83 s118=>qct i83 s118) (b6 v_0.Brokers:Int) v_0.Brokers) (fun s128=>qiw v_0 s128)) else (if (decide (v_1.Kind=4))=true then (if
  ((decide ((b6 v_1.InStep:Int)=0))||(decide ((b6 v_0.Parts:Int)=5)))=true then (some (.ret (v_0,
  4))) else ((kg 8 ([] : List Int) v_1.InStep).bind fun l157=>((kg 8 ([] : List Int) v_1.InStep).bind fun l168=>((kg 72 v_0.Parts [(Partition.mk l157 l168
  (-2) 0 0)]).bind fun l185=>(some (.nxt ((Control.mk v_0.Brokers l185 v_0.Next),
  v_0.Brokers))))))) else (if (decide (v_1.Kind=5))=true then ((uk v_0 v_1).bind fun v198=>(if (decide (v198≠0))=true then (some (.ret (v_0,
  v198))) else ((kg 8 ([] : List Int) v_1.InStep).bind fun l212=>((jb v_0.Parts v_1.Part).bind fun x223=>(some (.nxt ((Control.mk v_0.Brokers
  (a0v v_0.Parts v_1.Part.toNat (Partition.mk x223.Homes l212 x223.Leader x223.Epoch (d8 .i64 (x223.Stamp+1)))) v_0.Next),
  v_0.Brokers))))))) else (if (decide (v_1.Kind=6))=true then (if (decide ((b6 v_0.Parts:Int)≤v_1.Part))=true then (some (.ret (v_0,
  1))) else ((jb v_0.Parts v_1.Part).bind fun x262=>((qas x262.InStep v_1.Broker).bind fun v282=>((if (!v282)=true then (some true) else
  ((jb v_0.Brokers v_1.Broker).bind fun x288=>(some x288.Fenced))).bind fun v288=>(if v288=true then (some (.ret (v_0,
  4))) else (some (.nxt ((Control.mk v_0.Brokers (a0v v_0.Parts v_1.Part.toNat (Partition.mk x262.Homes x262.InStep v_1.Broker x262.Epoch x262.Stamp)) v_0.Next),
  v_0.Brokers)))))))) else (some (.nxt (v_0,v_0.Brokers))))))))) (fun s380=>qd7 s380.1 s380.2))

def qa2 (l22:List Broker)(i44:Nat)(x45:Partition)(s39:Control) : Option (Oc Control Control):=((kg 8 ([] : List Int) x45.Homes).bind fun l79=>((kg 8
  ([] : List Int) x45.InStep).bind fun l96=>((kg 72 s39.Parts [(Partition.mk l79 l96 x45.Leader x45.Epoch x45.Stamp)]).bind fun l113=>(some (.nxt
  (Control.mk l22 l113 s39.Next))))))
def qh0 (l22:List Broker)(s126:Control)  : Option Control:=(some (Control.mk l22 s126.Parts s126.Next))
def qb2 (c_0:Control) : Option Control:=((kg 24 ([] : List Broker) c_0.Brokers).bind fun l22=>(jn (jj
  (fun i44 x45 s125=>qa2 l22 i44 x45 s125) c_0.Parts (Control.mk l22 [] c_0.Next)) (fun s139=>qh0 l22 s139)))

def qe2 (s14:List Partition)(i17:Nat)(x41:Partition)(s153:Partition)  : Option (Oc (List Partition) (Control × (List Int))):=(some (.nxt (a0v s14
  (i17:Int).toNat (Partition.mk x41.Homes x41.InStep s153.Leader s153.Epoch s153.Stamp))))
def qet (s14:List Partition)(i17:Nat)(x41:Partition)(s67:Int)(s121:Partition)  : Option (Oc (List Partition) (Control × (List Int))):=((if (decide
  (s121.Leader≠s67))=true then (if (decide ((0:Int)≤s121.Leader))=true then (some (Partition.mk x41.Homes x41.InStep s121.Leader (d8 .i64 (s121.Epoch+1))
  (d8 .i64 (s121.Stamp+1)))) else (some (Partition.mk x41.Homes x41.InStep s121.Leader s121.Epoch (d8 .i64 (s121.Stamp+1))))) else (some
  (Partition.mk x41.Homes x41.InStep s121.Leader s121.Epoch s121.Stamp))).bind (fun s191=>qe2 s14 i17 x41 s191))
def qex (c_0:Control)(s14:List Partition)(i17:Nat)(x41:Partition)(s67:Int)  : Option (Oc (List Partition) (Control × (List Int))):=((if (decide
  (x41.Leader<0))=true then (some true) else ((jb c_0.Brokers x41.Leader).bind fun x98=>(some x98.Fenced))).bind fun v98=>((if v98=true then ((qbi
  (Control.mk c_0.Brokers s14 c_0.Next) x41.InStep).bind fun v134=>(some (Partition.mk x41.Homes x41.InStep v134 x41.Epoch x41.Stamp))) else (some x41)).bind
  (fun s192=>qet s14 i17 x41 s67 s192)))
def qag (c_0:Control)(old_1:List Int)(i17:Nat)(s14:List Partition) : Option (Oc (List Partition) (Control × (List Int))):=((jb s14
  (i17:Int)).bind fun x41=>((if (decide ((i17:Int)<(b6 old_1:Int)))=true then ((jb old_1 (i17:Int)).bind fun x76=>(some x76)) else (some (-2))).bind
  (fun s193=>qex c_0 s14 i17 x41 s193)))
def qhj (c_0:Control)(old_1:List Int)(s195:List Partition)  : Option (Control × (List Int)):=(some ((Control.mk c_0.Brokers s195 c_0.Next),old_1))
def qc6 (c_0:Control)(old_1:List Int) : Option (Control × (List Int)):=(jn (yq (fun i17 s194=>qag c_0 old_1 i17 s194)
  (b6 c_0.Parts:Int) c_0.Parts) (fun s207=>qhj c_0 old_1 s207))

def uf (i51:Nat)(x52:Partition)(s46:List Int) : Option (Oc (List Int) (Control × Int × Bool)):=((kg 8 s46 [x52.Leader]).bind fun l90=>(some
  (.nxt l90)))
def qar (c_0:Control)(s147:Int)(s148:Control)(s149:List Broker)(s152:List Partition)  : Option (Control × Int × Bool):=(if (decide
  (s147≠0))=true then ((qb2 c_0).bind fun v192=>(some (v192,s147,true))) else ((qb2 (Control.mk s149 s152 s148.Next)).bind fun v210=>(some (v210,0,
  true))))
def qdp (c_0:Control)(x_1:Command)(s101:List Int)  : Option (Control × Int × Bool):=((qb2 c_0).bind fun v118 =>
  ((qe3 v118 x_1).bind fun v134=>((if (decide (v134.2=0))=true then ((qc6 v134.1 s101).bind fun v164=>((yb v164.1).bind fun v177=>(if
  (!v177)=true then (some (4,v164.1,v164.1.Brokers,v164.1.Parts)) else (some (v134.2,v164.1,v164.1.Brokers,v164.1.Parts))))) else (some (v134.2,v134.1,v134.1.Brokers,
  v134.1.Parts))).bind (fun s228=>qar c_0 s228.1 s228.2.1 s228.2.2.1 s228.2.2.2))))
def yk (c_0:Control)(x_1:Command) : Option (Control × Int × Bool):=((yb c_0).bind fun v17=>((if (!v17)=true then (some true) else
  ((qb0 c_0 x_1).bind fun v23=>(some (!v23)))).bind fun v23=>(if v23=true then (some ((Control.mk [] [] 0),0,
  false)) else (jn (jj (fun i51 x52 s100=>uf i51 x52 s100) c_0.Parts ([] : (List Int))) (fun s229=>qdp c_0 x_1 s229)))))

def qab (brokers_0:Int)(s20:Int)(s21:Control) : Option (Oc (Int × Control) (Control × Bool)):=(if (decide (s20<brokers_0))=true then
  ((kg 24 s21.Brokers [(Broker.mk 0 0 true)]).bind fun l55=>(some (.nxt ((d8 .i64 (s20+1)),(Control.mk l55 [] s21.Next))))) else (some (.brk (s20,
  (Control.mk s21.Brokers [] s21.Next)))))
def qgc (s69:Int)(s70:Control)  : Option (Control × Bool):=(some ((Control.mk s70.Brokers [] s70.Next),true))
def j7 (k:Nat)(brokers_0:Int) : Option (Control × Bool):=(if (!(zu brokers_0 1 6))=true then (some ((Control.mk [] [] 0),
  false)) else (jn (xw (fun s68=>qab brokers_0 s68.1 s68.2) k (0,(Control.mk [] [] 1))) (fun s84=>qgc s84.1 s84.2)))

def ud (i68:Nat)(x69:Command)(s54:List Int)(s59:Control) : Option (Oc ((List Int) × Control) (Control × (List Int) × Bool)) :=
  ((yk s59 x69).bind fun v100=>(if (!v100.2.2)=true then (some (.ret ((Control.mk [] [] 0),[],
  false))) else ((kg 8 s54 [v100.2.1]).bind fun l138=>(some (.nxt (l138,v100.1))))))
def qep (s149:List Int)(s154:Control)  : Option (Control × (List Int) × Bool):=(some (s154,s149,true))
def yy (k:Nat)(brokers_0:Int)(l_1:List Command) : Option (Control × (List Int) × Bool):=((j7 k brokers_0).bind fun v5=>(if ((!v5.2) ||
  (decide ((80:Int)<(b6 l_1:Int))))=true then (some ((Control.mk [] [] 0),[],
  false)) else (jn (jj (fun i68 x69 s148=>ud i68 x69 s148.1 s148.2) l_1 (([],
  v5.1) : (List Int) × Control)) (fun s172=>qep s172.1 s172.2))))

def qe0 (c_0:L1Cur)(s1:Int)  : Option (Int × L1Cur):=(if (decide ((d8 .i64 (c_0.at_+1))≤(b6 c_0.code:Int)))=true then (some (s1,
  (L1Cur.mk c_0.code (d8 .i64 (c_0.at_+1)) (d8 .u64 ((d8 .u64 ((d8 .u64 (c_0.seed*6364136223846793005)) +
  (d8 .u64 s1)))+1442695040888963407))))) else (some ((d8 .i64 (qlp .u64 (qpn .u64 (d8 .u64 ((d8 .u64 ((d8 .u64
  (c_0.seed*6364136223846793005))+(d8 .u64 s1)))+1442695040888963407)) 40) 255)),
  (L1Cur.mk c_0.code (d8 .i64 (c_0.at_+1)) (d8 .u64 ((d8 .u64 ((d8 .u64 (c_0.seed*6364136223846793005)) +
  (d8 .u64 s1)))+1442695040888963407))))))
def qei (c_0:L1Cur) : Option (Int × L1Cur):=((if (decide (c_0.at_<(b6 c_0.code:Int)))=true then ((jb c_0.code c_0.at_).bind fun x10=>(some
  (d8 .i64 x10))) else (some 0)).bind (fun s25=>qe0 c_0 s25))

def j6 (c_0:L1Cur)(n_1:Int) : Option (Int × L1Cur):=(if (decide (n_1≤1))=true then (some (0,
  c_0)) else ((qei c_0).bind fun v2=>(if (decide ((200:Int)<n_1))=true then ((qei v2.2).bind fun v8=>(ck (n_1≠0) (some ((Int.tmod (d8 .i64
  ((d8 .i64 (v2.1*256))+v8.1)) n_1),v8.2)))) else (ck (n_1≠0) (some ((Int.tmod v2.1 n_1),v2.2))))))

def ux (c_0:L1Cur)(n_1:Int) : Option (Bool × L1Cur):=((j6 c_0 n_1).bind fun v1=>(some ((decide (v1.1=0)),v1.2)))

def qaz (c_0:L1Cur)(list_1:List Int) : Option (Int × L1Cur × (List Int)):=((j6 c_0 (b6 list_1:Int)).bind fun v1 =>
  ((jb list_1 v1.1).bind fun x6=>(some (x6,v1.2,list_1))))

def wb (v_1:Control)(s88:Int)(s89:L1Cur)(s90:Command) : Option (Oc (Int × L1Cur × Command) (Oc (L1Cur × Command × (List Partition))
  (Command × L1Cur × Control))):=(if (decide (s88<(b6 v_1.Brokers:Int)))=true then ((ux s89 2).bind fun v119=>(if v119.1=true then
  ((kg 8 s90.InStep [s88]).bind fun l131=>(some (.nxt ((d8 .i64 (s88+1)),v119.2,
  (Command.mk s90.Kind s90.Broker s90.Epoch s90.Part s90.Stamp l131))))) else (some (.nxt ((d8 .i64 (s88+1)),v119.2,s90))))) else (some (.brk (s88,s89,s90))))
def qda (v_1:Control)(s146:Int)(s147:L1Cur)(s148:Command)  : Option (Oc (L1Cur × Command × (List Partition)) (Command × L1Cur × Control)):=(some (.nxt
  (s147,s148,v_1.Parts)))
def qbo (s354:Command)(x384:Int)(s389:Bool)(s390:L1Cur)  : Option (Oc (L1Cur × Command) (Oc (L1Cur × Command × (List Partition))
  (Command × L1Cur × Control))):=(if s389=true then ((kg 8 s354.InStep [x384]).bind fun l426=>(some (.nxt (s390,
  (Command.mk s354.Kind s354.Broker s354.Epoch s354.Part s354.Stamp l426))))) else (some (.nxt (s390,s354))))
def u5 (x204:Partition)(i359:Nat)(s353:L1Cur)(s354:Command) : Option (Oc (L1Cur × Command) (Oc (L1Cur × Command × (List Partition))
  (Command × L1Cur × Control))):=((jb x204.Homes (i359:Int)).bind fun x384=>((if (decide (x384=x204.Leader))=true then (some (true,
  s353)) else ((ux s353 2).bind fun v401=>(some (v401.1,v401.2)))).bind (fun s439=>qbo s354 x384 s439.1 s439.2)))
def qf6 (v_1:Control)(s441:L1Cur)(s442:Command)  : Option (Oc (L1Cur × Command × (List Partition)) (Command × L1Cur × Control)):=(some (.nxt (s441,s442,
  v_1.Parts)))
def u0 (v_1:Control)(x204:Partition)(v322:Bool × L1Cur)(s327:Command)  : Option (Oc (L1Cur × Command × (List Partition))
  (Command × L1Cur × Control)):=(jn (yq (fun i359 s440=>u5 x204 i359 s440.1 s440.2) (b6 x204.Homes:Int) (v322.2,
  (Command.mk s327.Kind s327.Broker s327.Epoch s327.Part s327.Stamp []))) (fun s460=>qf6 v_1 s460.1 s460.2))
def qbs (v_1:Control)(x204:Partition)(v297:Bool × L1Cur)(s302:Command)  : Option (Oc (L1Cur × Command × (List Partition))
  (Command × L1Cur × Control)):=((ux v297.2 8).bind fun v322=>((if v322.1=true then (some (Command.mk s302.Kind s302.Broker s302.Epoch s302.Part (d8 .i64
  (s302.Stamp+1)) [])) else (some (Command.mk s302.Kind s302.Broker s302.Epoch s302.Part s302.Stamp []))).bind (fun s461=>u0 v_1 x204 v322 s461)))
def qbm (v_1:Control)(x204:Partition)(s248:L1Cur)(s273:Command)  : Option (Oc (L1Cur × Command × (List Partition)) (Command × L1Cur × Control)) :=
  ((ux s248 8).bind fun v297=>((if v297.1=true then (some (Command.mk s273.Kind s273.Broker (d8 .i64 (x204.Epoch+1)) s273.Part x204.Stamp [])) else (some
  (Command.mk s273.Kind s273.Broker x204.Epoch s273.Part x204.Stamp []))).bind (fun s462=>qbs v_1 x204 v297 s462)))
def qbu (v_1:Control)(v17:Int × L1Cur × (List Int))(v193:Int × L1Cur)(x204:Partition)(v232:Int × L1Cur)(s247:Bool)(s248:L1Cur)  : Option (Oc
  (L1Cur × Command × (List Partition)) (Command × L1Cur × Control)):=((if s247=true then (some (Command.mk v17.1 x204.Leader 0 v193.1 0 [])) else (some
  (Command.mk v17.1 v232.1 0 v193.1 0 []))).bind (fun s463=>qbm v_1 x204 s248 s463))
def u3 (v_1:Control)(v17:Int × L1Cur × (List Int))(s163:Bool)  : Option (Oc (L1Cur × Command × (List Partition)) (Command × L1Cur × Control)) :=
  (if s163=true then (if (decide ((b6 v_1.Parts:Int)=0))=true then (some (.ret ((Command.mk 3 0 0 0 0 []),v17.2.1,
  v_1))) else ((j6 v17.2.1 12).bind fun v188=>((j6 v188.2 (d8 .i64 ((b6 v_1.Parts:Int)+(d8 .i64
  (Int.tdiv v188.1 11))))).bind fun v193=>(if (decide ((b6 v_1.Parts:Int)≤v193.1))=true then (some (.ret ((Command.mk 6 0 0 v193.1 0 []),v193.2,
  v_1))) else ((jb v_1.Parts v193.1).bind fun x204=>((j6 v193.2 (b6 v_1.Brokers:Int)).bind fun v232=>(if (decide (v17.1=6))=true then (some (.ret
  ((Command.mk v17.1 v232.1 0 v193.1 0 []),v232.2,v_1))) else ((if (decide ((0:Int)≤x204.Leader))=true then ((ux v232.2 6).bind fun v258=>(some ((!v258.1),
  v258.2))) else (some (false,v232.2))).bind (fun s464=>qbu v_1 v17 v193 x204 v232 s464.1 s464.2))))))))) else (some (.nxt (v17.2.1,
  (Command.mk v17.1 0 0 0 0 []),v_1.Parts))))
def yo (v_1:Control)(s30:L1Cur)(s31:Command)(s36:List Partition)  : Option (Command × L1Cur × Control):=((ux s30 60).bind fun v473 =>
  (if v473.1=true then ((j6 v473.2 8).bind fun v479=>((j6 v479.2 8).bind fun v484=>((j6 v484.2 3).bind fun v489 =>
  ((j6 v489.2 8).bind fun v494=>(some ((Command.mk v479.1 (d8 .i64 (v484.1 - 1)) 0 v489.1 0 [(d8 .i64 (v494.1 - 1))]),v494.2,
  (Control.mk v_1.Brokers s36 v_1.Next))))))) else (some (s31,v473.2,(Control.mk v_1.Brokers s36 v_1.Next)))))
def qad (k:Nat)(v_0:L1Cur)(v_1:Control) : Option (Command × L1Cur × Control):=((qaz v_0 [1,1,2,2,3,3,4,5,5,5,
  6]).bind fun v17=>(jn (if (decide (v17.1=1))=true then ((j6 v17.2.1 (b6 v_1.Brokers:Int)).bind fun v47=>(some (.nxt (v47.2,
  (Command.mk v17.1 v47.1 0 0 0 []),v_1.Parts)))) else (if (decide (v17.1=2))=true then ((j6 v17.2.1 (b6 v_1.Brokers:Int)).bind fun v56 =>
  ((jb v_1.Brokers v56.1).bind fun x63=>((ux v56.2 6).bind fun v70=>(if v70.1=true then (some (.nxt (v70.2,
  (Command.mk v17.1 v56.1 (d8 .i64 (x63.Epoch+1)) 0 0 []),v_1.Parts))) else (some (.nxt (v70.2,(Command.mk v17.1 v56.1 x63.Epoch 0 0 []),
  v_1.Parts))))))) else (if (decide (v17.1=4))=true then (jn (xw (fun s145=>wb v_1 s145.1 s145.2.1 s145.2.2) k (0,v17.2.1,
  (Command.mk v17.1 0 0 0 0 []))) (fun s162=>qda v_1 s162.1 s162.2.1 s162.2.2)) else ((if (decide (v17.1=5))=true then (some (decide (v17.1=5))) else
  (some (decide (v17.1=6)))).bind (fun s466=>u3 v_1 v17 s466))))) (fun s511=>yo v_1 s511.1 s511.2.1 s511.2.2)))

def qcm (s80:List Command)(s85:Int)(v120:Command × L1Cur × Control)(s165:Control)  : Option (Oc ((List Command) × Int × L1Cur × Control) (Int ×
  (List Command) × L1Cur)):=((kg 64 s80 [v120.1]).bind fun l201=>(some (.nxt (l201,(d8 .i64 (s85 - 1)),v120.2.1,s165))))
def xd (k:Nat)(s80:List Command)(s85:Int)(s86:L1Cur)(s87:Control) : Option (Oc ((List Command) × Int × L1Cur × Control) (Int ×
  (List Command) × L1Cur)):=(if (decide ((0:Int)<s85))=true then ((qad k s86 s87).bind fun v120=>((yk
  (Control.mk v120.2.2.Brokers v120.2.2.Parts s87.Next) v120.1).bind fun v141=>((if v141.2.2=true then (some v141.1) else (some
  (Control.mk v120.2.2.Brokers v120.2.2.Parts s87.Next))).bind (fun s211=>qcm s80 s85 v120 s211)))) else (some (.brk (s80,s85,s86,s87))))
def qg1 (v1:Int × L1Cur)(s214:List Command)(s219:Int)(s220:L1Cur)(s221:Control)  : Option (Int × (List Command) × L1Cur):=(some ((d8 .i64
  ((1:Int)+v1.1)),s214,s220))
def qcl (k:Nat)(v1:Int × L1Cur)(v6:Control × Bool)(s38:Int)(s39:L1Cur)  : Option (Int × (List Command) × L1Cur):=(jn (xw
  (fun s213=>xd k s213.1 s213.2.1 s213.2.2.1 s213.2.2.2) k (([],s38,s39,
  v6.1) : (List Command) × Int × L1Cur × Control)) (fun s238=>qg1 v1 s238.1 s238.2.1 s238.2.2.1 s238.2.2.2))
def qcr (k:Nat)(c_0:L1Cur) : Option (Int × (List Command) × L1Cur):=((j6 c_0 5).bind fun v1=>((j7 k (d8 .i64
  ((1:Int)+v1.1))).bind fun v6=>((j6 v1.2 30).bind fun v28=>((ux v28.2 12).bind fun v33=>((if v33.1=true then ((j6 v33.2 12).bind fun v49 =>
  (some ((d8 .i64 ((70:Int)+v49.1)),v49.2))) else (some (v28.1,v33.2))).bind (fun s239=>qcl k v1 v6 s239.1 s239.2))))))

def qc2 (v5:Int × (List Command) × L1Cur)(s48:Control)  : Option (Control × L1Cur):=((j6 v5.2.2 30).bind fun v91=>(if (decide (v91.1=0))=true then
  ((qaz v91.2 [0,1,1000,1001]).bind fun v103=>(some ((Control.mk s48.Brokers s48.Parts v103.1),
  v103.2.1))) else (if (decide (v91.1=1))=true then ((jb s48.Brokers (0:Int)).bind fun x115=>(some ((Control.mk (a0v s48.Brokers (0:Int).toNat
  (Broker.mk x115.Epoch x115.Left (!x115.Fenced))) s48.Parts s48.Next),
  v91.2))) else (if (decide (v91.1=2))=true then (if (decide ((0:Int)<(b6 s48.Parts:Int)))=true then ((j6 v91.2 5).bind fun v129=>((jb s48.Parts
  (0:Int)).bind fun x134=>(some ((Control.mk s48.Brokers (a0v s48.Parts (0:Int).toNat (Partition.mk x134.Homes x134.InStep (d8 .i64
  (v129.1 - 1)) x134.Epoch x134.Stamp)) s48.Next),v129.2)))) else (some (s48,
  v91.2))) else (if (decide (v91.1=3))=true then (if (decide ((0:Int)<(b6 s48.Parts:Int)))=true then ((qaz v91.2 [1000,
  1001]).bind fun v176=>((jb s48.Parts (0:Int)).bind fun x183=>(some ((Control.mk s48.Brokers (a0v s48.Parts (0:Int).toNat
  (Partition.mk x183.Homes x183.InStep x183.Leader x183.Epoch v176.1)) s48.Next),v176.2.1)))) else (some (s48,v91.2))) else (some (s48,v91.2)))))))
def qho (v5:Int × (List Command) × L1Cur)(s245:Control)  : Option (Control × L1Cur):=((j6 v5.2.2 30).bind fun v288=>(if (decide
  (v288.1=0))=true then ((qaz v288.2 [0,1,1000,1001]).bind fun v300=>(some ((Control.mk s245.Brokers s245.Parts v300.1),
  v300.2.1))) else (if (decide (v288.1=1))=true then ((jb s245.Brokers (0:Int)).bind fun x312=>(some ((Control.mk (a0v s245.Brokers (0:Int).toNat
  (Broker.mk x312.Epoch x312.Left (!x312.Fenced))) s245.Parts s245.Next),
  v288.2))) else (if (decide (v288.1=2))=true then (if (decide ((0:Int)<(b6 s245.Parts:Int)))=true then ((j6 v288.2 5).bind fun v326 =>
  ((jb s245.Parts (0:Int)).bind fun x331=>(some ((Control.mk s245.Brokers (a0v s245.Parts (0:Int).toNat (Partition.mk x331.Homes x331.InStep (d8 .i64
  (v326.1 - 1)) x331.Epoch x331.Stamp)) s245.Next),v326.2)))) else (some (s245,
  v288.2))) else (if (decide (v288.1=3))=true then (if (decide ((0:Int)<(b6 s245.Parts:Int)))=true then ((qaz v288.2 [1000,
  1001]).bind fun v373=>((jb s245.Parts (0:Int)).bind fun x380=>(some ((Control.mk s245.Brokers (a0v s245.Parts (0:Int).toNat
  (Partition.mk x380.Homes x380.InStep x380.Leader x380.Epoch v373.1)) s245.Next),v373.2.1)))) else (some (s245,v288.2))) else (some (s245,v288.2)))))))
def qa7 (k:Nat)(v_0:L1Cur) : Option (Control × L1Cur):=((qcr k v_0).bind fun v5=>(if (decide ((80:Int)<(b6 v5.2.1:Int)))=true then
  ((sl v5.2.1 0 80).bind fun l15=>((yy k v5.1 l15).bind fun v22=>((if (!v22.2.2)=true then ((j7 k 2).bind fun v65=>(some v65.1)) else
  (some v22.1)).bind (fun s218=>qc2 v5 s218)))) else ((yy k v5.1 v5.2.1).bind fun v219=>((if (!v219.2.2)=true then
  ((j7 k 2).bind fun v262=>(some v262.1)) else (some v219.1)).bind (fun s415=>qho v5 s415)))))

def u7 (k:Nat)(code_0:List Int) : Option (Control × Command):=((qa7 k (L1Cur.mk code_0 0 0)).bind fun v13 =>
  ((qad k v13.2 v13.1).bind fun v34=>(some ((Control.mk v34.2.2.Brokers v34.2.2.Parts v13.1.Next),v34.1))))

def qcd (v_0:Command)(v_1:Int) : Option Bool:=((if ((((!(z0 v_0.Broker 0 (d8 .i64 (v_1 - 1))))||(!(z0 v_0.Epoch 0 1000))) ||
  (!(z0 v_0.Part 0 1000)))||(!(z0 v_0.Stamp 0 1000)))=true then (some true) else ((xz v_0.InStep v_1).bind fun v37=>(some (!v37)))).bind fun v37 =>
  (if v37=true then (some false) else (if (decide (v_0.Kind=1))=true then (some ((((decide (v_0.Epoch=0))&&(decide (v_0.Stamp=0)))&&(decide
  ((b6 v_0.InStep:Int)=0)))&&(decide (v_0.Part=0)))) else (if (decide (v_0.Kind=2))=true then (some (((decide (v_0.Stamp=0))&&(decide
  ((b6 v_0.InStep:Int)=0)))&&(decide (v_0.Part=0)))) else (if (decide (v_0.Kind=3))=true then (some (((((decide (v_0.Epoch=0))&&(decide
  (v_0.Stamp=0)))&&(decide ((b6 v_0.InStep:Int)=0)))&&(decide (v_0.Part=0)))&&(decide (v_0.Broker=0)))) else (if (decide (v_0.Kind=4))=true then
  (some ((((decide (v_0.Epoch=0))&&(decide (v_0.Stamp=0)))&&(decide (v_0.Part=0)))&&(decide (v_0.Broker=0)))) else (if (decide (v_0.Kind=5))=true then
  (some true) else (if (decide (v_0.Kind=6))=true then (some (((decide (v_0.Epoch=0))&&(decide (v_0.Stamp=0)))&&(decide ((b6 v_0.InStep:Int)=0)))) else
  (some false)))))))))

def qbe (l22:List Broker)(i44:Nat)(x45:Partition)(s39:Control) : Option (Oc Control Control):=((kg 8 ([] : List Int) x45.Homes).bind fun l79 =>
  ((kg 8 ([] : List Int) x45.InStep).bind fun l96=>((kg 72 s39.Parts [(Partition.mk l79 l96 x45.Leader x45.Epoch x45.Stamp)]).bind fun l113=>(some (.nxt
  (Control.mk l22 l113 s39.Next))))))
def qfa (l22:List Broker)(s126:Control)  : Option Control:=(some (Control.mk l22 s126.Parts s126.Next))
def w9 (c_0:Control) : Option Control:=((kg 24 ([] : List Broker) c_0.Brokers).bind fun l22=>(jn (jj
  (fun i44 x45 s125=>qbe l22 i44 x45 s125) c_0.Parts (Control.mk l22 [] c_0.Next)) (fun s139=>qfa l22 s139)))

def xu (i41:Nat)(s38:List Broker) : Option (Oc (List Broker) (Int × Control)):=((jb s38 (i41:Int)).bind fun x62=>(some (.nxt (a0v s38
  (i41:Int).toNat (Broker.mk x62.Epoch (mxI (d8 .i64 (x62.Left - 1)) 0) x62.Fenced)))))
def qc4 (v_0:Control)(s72:List Broker)  : Option (Int × Control):=(some (0,(Control.mk s72 v_0.Parts v_0.Next)))
def wh (v_0:Control)(x161:Partition)(i274:Nat)(x275:Int) : Option (Oc Unit Int):=((jb v_0.Brokers x275).bind fun x300 =>
  ((if x300.Fenced=true then ((j5 x161.InStep x275).bind fun v321=>(some (!v321))) else (some false)).bind fun v306=>(if v306=true then (some (.ret
  (i274:Int))) else (some (.nxt ())))))
def qbp  : Option Int:=(some (-1))
def ym (v_0:Control)(v_1:Command)(x7:Broker)(s141:Bool)  : Option (Int × Control):=(if s141=true then (if (decide
  ((b6 v_0.Parts:Int)≤v_1.Part))=true then (some (1,
  v_0)) else ((jb v_0.Parts v_1.Part).bind fun x161=>(if (decide (v_1.Kind=6))=true then ((j5 x161.InStep v_1.Broker).bind fun v182=>(if
  ((!v182)||x7.Fenced)=true then (some (4,v_0)) else (some (0,
  (Control.mk v_0.Brokers (a0v v_0.Parts v_1.Part.toNat (Partition.mk x161.Homes x161.InStep v_1.Broker x161.Epoch x161.Stamp)) v_0.Next))))) else (if (decide
  (v_1.Epoch≠x161.Epoch))=true then (some (2,v_0)) else (if (decide (v_1.Broker≠x161.Leader))=true then (some (3,
  v_0)) else (if (decide (v_1.Stamp≠x161.Stamp))=true then (some (2,
  v_0)) else (((jn (jj (fun i274 x275 _=>wh v_0 x161 i274 x275 ) v_1.InStep ()) (fun _=>qbp ))).bind fun v267 =>
  ((qbq v_1.InStep x161.Homes).bind fun v363=>(if (!v363)=true then (some (4,
  v_0)) else ((j5 v_1.InStep x161.Leader).bind fun v371=>(if ((!v371)||(decide ((0:Int)≤v267)))=true then (some (4,
  v_0)) else ((kg 8 ([] : List Int) v_1.InStep).bind fun l395=>(some (0,
  (Control.mk v_0.Brokers (a0v v_0.Parts v_1.Part.toNat (Partition.mk x161.Homes l395 x161.Leader x161.Epoch (d8 .i64
  (x161.Stamp+1)))) v_0.Next))))))))))))))) else (some (0,v_0)))
def qbx (v_0:Control)(v_1:Command) : Option (Int × Control):=((jb v_0.Brokers v_1.Broker).bind fun x7=>(if (decide (v_1.Kind=1))=true then (if (decide
  (v_0.Next=1000))=true then (some (4,v_0)) else (some (0,
  (Control.mk (a0v v_0.Brokers v_1.Broker.toNat (Broker.mk v_0.Next 9 x7.Fenced)) v_0.Parts (d8 .i64 (v_0.Next+1)))))) else (if (decide
  (v_1.Kind=2))=true then (if (decide (x7.Epoch=0))=true then (some (1,v_0)) else (if (decide (x7.Epoch≠v_1.Epoch))=true then (some (2,v_0)) else (some (0,
  (Control.mk (a0v v_0.Brokers v_1.Broker.toNat (Broker.mk x7.Epoch 9 x7.Fenced)) v_0.Parts v_0.Next))))) else (if (decide (v_1.Kind=3))=true then (jn (yq
  (fun i41 s71=>xu i41 s71) (b6 v_0.Brokers:Int) v_0.Brokers) (fun s79=>qc4 v_0 s79)) else (if (decide (v_1.Kind=4))=true then
  (if ((decide ((b6 v_1.InStep:Int)=0))||(decide ((b6 v_0.Parts:Int)=5)))=true then (some (4,
  v_0)) else ((kg 8 ([] : List Int) v_1.InStep).bind fun l104=>((kg 8 ([] : List Int) v_1.InStep).bind fun l114=>((kg 72 v_0.Parts [(Partition.mk l104 l114
  (-1) 0 0)]).bind fun l130=>(some (0,
  (Control.mk v_0.Brokers l130 v_0.Next))))))) else ((if (decide (v_1.Kind=5))=true then (some (decide (v_1.Kind=5))) else (some (decide (v_1.Kind=6)))).bind
  (fun s418=>ym v_0 v_1 x7 s418)))))))

def qb9 (i75:Nat)(s72:List Broker) : Option (Oc (List Broker) (Control × Int)):=((jb s72 (i75:Int)).bind fun x98=>(some (.nxt (a0v s72
  (i75:Int).toNat (Broker.mk x98.Epoch x98.Left (decide (x98.Left=0)))))))
def qca (v_0:Control)(i125:Nat)(s289:List Partition)  : Option (Oc (List Partition) (Control × Int)):=((jb s289 (i125:Int)).bind fun x349=>(if
  ((decide ((1000:Int)<x349.Stamp))||(decide ((1000:Int)<x349.Epoch)))=true then ((w9 v_0).bind fun v380=>(some (.ret (v380,
  4)))) else (some (.nxt s289))))
def qdu (v_0:Control)(i125:Nat)(s196:List Partition)  : Option (Oc (List Partition) (Control × Int)):=((if (decide ((b6 v_0.Parts:Int) ≤
  (i125:Int)))=true then (some true) else ((jb s196 (i125:Int)).bind fun x253=>((jb v_0.Parts (i125:Int)).bind fun x271=>(some (decide
  (x253.Leader≠x271.Leader)))))).bind fun v253=>((if v253=true then ((jb s196 (i125:Int)).bind fun x300=>(if (decide (x300.Leader≠(-1)))=true then (some
  (a0v s196 (i125:Int).toNat (Partition.mk x300.Homes x300.InStep x300.Leader (d8 .i64 (x300.Epoch+1)) (d8 .i64 (x300.Stamp+1))))) else (some
  (a0v s196 (i125:Int).toNat (Partition.mk x300.Homes x300.InStep x300.Leader x300.Epoch (d8 .i64 (x300.Stamp+1))))))) else (some s196)).bind
  (fun s410=>qca v_0 i125 s410)))
def wu (v_0:Control)(v39:Int × Control)(s110:List Broker)(i125:Nat)(s122:List Partition) : Option (Oc (List Partition) (Control × Int)) :=
  ((jb s122 (i125:Int)).bind fun x148=>((if (decide (x148.Leader=(-1)))=true then (some true) else ((jb s110 x148.Leader).bind fun x171 =>
  (some x171.Fenced))).bind fun v171=>((if v171=true then ((w7 (Control.mk s110 s122 v39.2.Next) x148.InStep).bind fun v226=>(some (a0v s122
  (i125:Int).toNat (Partition.mk x148.Homes x148.InStep v226 x148.Epoch x148.Stamp)))) else (some s122)).bind (fun s411=>qdu v_0 i125 s411))))
def qgk (v39:Int × Control)(s110:List Broker)(s413:List Partition)  : Option (Control × Int):=(some ((Control.mk s110 s413 v39.2.Next),0))
def qdq (v_0:Control)(v39:Int × Control)(s110:List Broker)  : Option (Control × Int):=(jn (yq
  (fun i125 s412=>wu v_0 v39 s110 i125 s412) (b6 v39.2.Parts:Int) v39.2.Parts) (fun s424=>qgk v39 s110 s424))
def qch (v_0:Control)(v_1:Command) : Option (Control × Int):=((w9 v_0).bind fun v17=>((qbx v17 v_1).bind fun v39=>(if (decide
  (v39.1≠0))=true then ((w9 v_0).bind fun v51=>(some (v51,
  v39.1))) else (jn (yq (fun i75 s109=>qb9 i75 s109) (b6 v39.2.Brokers:Int) v39.2.Brokers) (fun s425=>qdq v_0 v39 s425)))))

def ut (c_0:Control)(x_1:Command) : Option (Control × Int × Bool):=((yv c_0).bind fun v17=>((if (!v17)=true then (some true) else
  ((qcd x_1 (b6 c_0.Brokers:Int)).bind fun v23=>(some (!v23)))).bind fun v23=>(if v23=true then (some ((Control.mk [] [] 0),0,
  false)) else ((qch c_0 x_1).bind fun v41=>(some (v41.1,v41.2,true))))))

def qba (k:Nat)(code_0:List Int) : Option (Control × Int):=((qa7 k (L1Cur.mk code_0 0 0)).bind fun v9=>((j6 v9.2 (d8 .i64
  ((b6 v9.1.Brokers:Int)+2))).bind fun v30=>(some (v9.1,(d8 .i64 (v30.1 - 1))))))

def qe6 (broker_1:Int)(i39:Nat)(x40:Partition)(s34:List Int) : Option (Oc (List Int) ((List Int) × Bool)):=(if (decide
  (x40.Leader=broker_1))=true then ((kg 8 s34 [(i39:Int)]).bind fun l77=>(some (.nxt l77))) else (some (.nxt s34)))
def qhf (s89:List Int)  : Option ((List Int) × Bool):=(some (s89,true))
def qcc (c_0:Control)(broker_1:Int) : Option ((List Int) × Bool):=((yb c_0).bind fun v7=>(if (((!v7)||(decide (broker_1<0)))||(decide
  ((b6 c_0.Brokers:Int)≤broker_1)))=true then (some ([],
  false)) else (jn (jj (fun i39 x40 s88=>qe6 broker_1 i39 x40 s88) c_0.Parts ([] : (List Int))) (fun s100=>qhf s100))))

def qav (k:Nat)(code_0:List Int) : Option Control:=((qa7 k (L1Cur.mk code_0 0 0)).bind fun v9=>(some v9.1))

def xy (k:Nat)(code_0:List Int) : Option Control:=((qav k code_0).bind fun v5=>(some v5))

def qbd (i21:Nat)(x22:Broker)(s16:List Int) : Option (Oc (List Int) ((List Int) × Bool)):=(if (!x22.Fenced)=true then
  ((kg 8 s16 [(i21:Int)]).bind fun l58=>(some (.nxt l58))) else (some (.nxt s16)))
def qe9 (s70:List Int)  : Option ((List Int) × Bool):=(some (s70,true))
def uv (c_0:Control) : Option ((List Int) × Bool):=((yb c_0).bind fun v7=>(if (!v7)=true then (some ([],
  false)) else (jn (jj (fun i21 x22 s69=>qbd i21 x22 s69) c_0.Brokers ([] : (List Int))) (fun s80=>qe9 s80))))

def qcn (i21:Nat)(x22:Partition)(s16:List Int) : Option (Oc (List Int) ((List Int) × Bool)):=(if (decide (x22.Leader=(-1)))=true then
  ((kg 8 s16 [(i21:Int)]).bind fun l58=>(some (.nxt l58))) else (some (.nxt s16)))
def qer (s70:List Int)  : Option ((List Int) × Bool):=(some (s70,true))
def uh (c_0:Control) : Option ((List Int) × Bool):=((yb c_0).bind fun v7=>(if (!v7)=true then (some ([],
  false)) else (jn (jj (fun i21 x22 s69=>qcn i21 x22 s69) c_0.Parts ([] : (List Int))) (fun s80=>qer s80))))

def uo (code_0:List Int) : Option Int:=((j6 (L1Cur.mk code_0 0 0) 9).bind fun v5=>(some v5.1))

def uz (i21:Nat)(s16:Control) : Option (Oc Control Control):=((kg 24 s16.Brokers [(Broker.mk 0 0 true)]).bind fun l49=>(some (.nxt
  (Control.mk l49 [] s16.Next))))
def qf5 (s62:Control)  : Option Control:=(some (Control.mk s62.Brokers [] s62.Next))
def qbr (brokers_0:Int) : Option Control:=(jn (yq (fun i21 s61=>uz i21 s61) brokers_0 (Control.mk [] [] 1))
  (fun s74=>qf5 s74))

def qah (brokers_0:Int) : Option (Control × Bool):=(if (!(z0 brokers_0 1 6))=true then (some ((Control.mk [] [] 0),
  false)) else ((qbr brokers_0).bind fun v8=>(some (v8,true))))

def u9 (i187:Nat)(s181:List Partition)(s184:List Partition) : Option (Oc ((List Partition) × (List Partition)) (Oc Unit Bool)):=((jb s181
  (i187:Int)).bind fun x213=>((jb s184 (i187:Int)).bind fun x241=>((if ((decide (x241.Epoch<x213.Epoch))||(decide (x241.Stamp<x213.Stamp)))=true then
  (some true) else ((kh x241.Homes x213.Homes).bind fun v289=>(some (!v289)))).bind fun v289=>(if v289=true then (some (.ret (.ret false))) else ((if ((decide
  ((0:Int)≤x241.Leader))&&(decide (x241.Leader≠x213.Leader)))=true then ((if (decide (x241.Epoch≠(d8 .i64 (x213.Epoch+1))))=true then (some true) else
  ((qg6 x213.InStep x241.Leader).bind fun v339=>(some (!v339)))).bind fun v339=>(some v339)) else (some false)).bind fun v336=>(if v336=true then (some (.ret
  (.ret false))) else ((if (decide (x241.Stamp=x213.Stamp))=true then ((if (decide (x241.Leader≠x213.Leader))=true then (some true) else
  ((kh x241.InStep x213.InStep).bind fun v392=>(some (!v392)))).bind fun v392=>(some v392)) else (some false)).bind fun v389=>(if v389=true then (some (.ret
  (.ret false))) else (some (.nxt (s181,s184)))))))))))
def qbt (v2:Control × Command)(v38:Control × Int × Bool)(s445:List Partition)(s448:List Partition)  : Option (Oc Unit Bool):=(if ((decide
  (v2.2.Kind=5))&&(decide (v38.2.1=0)))=true then ((jb s445 v2.2.Part).bind fun x472=>(if (((decide (x472.Leader≠v2.2.Broker))||(decide
  (x472.Epoch≠v2.2.Epoch)))||(decide (x472.Stamp≠v2.2.Stamp)))=true then (some (.ret false)) else ((jb s448 v2.2.Part).bind fun x523 =>
  ((kh x523.InStep v2.2.InStep).bind fun v543=>(if (!v543)=true then (some (.ret false)) else ((ut
  (Control.mk v38.1.Brokers s448 v38.1.Next) v2.2).bind fun v552=>(if ((!v552.2.2)||(decide (v552.2.1=0)))=true then (some (.ret false)) else (some (.nxt
  ()))))))))) else (some (.nxt ())))
def qby (k:Nat)(v_1:List Int)  : Option Bool:=((qba k v_1).bind fun v594=>((qbb v594.1 v594.2).bind fun v618 =>
  ((qcc v594.1 v594.2).bind fun v630=>((xy k v_1).bind fun v633=>((xa v633).bind fun v657 =>
  ((uv v633).bind fun v660=>((wv v633).bind fun v663=>((uh v633).bind fun v675=>((uo v_1).bind fun v678 =>
  ((qah v678).bind fun v681=>((j7 k v678).bind fun v692=>((if (v618.2 == v630.2)=true then ((kh v618.1 v630.1).bind fun v719 =>
  (some v719)) else (some false)).bind fun v719=>((if (v719&&(v657.2 == v660.2))=true then ((kh v657.1 v660.1).bind fun v763=>(some v763)) else
  (some false)).bind fun v763=>((if (v763&&(v663.2 == v675.2))=true then ((kh v663.1 v675.1).bind fun v799=>(some v799)) else (some false)).bind fun v799 =>
  ((if (v799&&(v681.2 == v692.2))=true then ((yz v681.1 v692.1).bind fun v827=>(some v827)) else (some false)).bind fun v827=>(some v827))))))))))))))))
def qb1 (k:Nat)(v_0:List Int)(v_1:List Int) : Option Bool:=(if (decide ((1048576:Int)<(d8 .i64 ((b6 v_0:Int) +
  (b6 v_1:Int)))))=true then (some true) else ((u7 k v_0).bind fun v2=>((ut v2.1 v2.2).bind fun v38 =>
  ((yk v2.1 v2.2).bind fun v62=>(if ((!(v38.2.2 == v62.2.2))||(decide (v38.2.1≠v62.2.1)))=true then (some false) else
  ((yz v38.1 v62.1).bind fun v101=>(if (!v101)=true then (some false) else ((wd v2.1).bind fun v105 =>
  ((yb v2.1).bind fun v108=>(if (!(v105 == v108))=true then (some false) else (jn (if v38.2.2=true then ((wd v38.1).bind fun v120=>((if
  (!v120)=true then (some true) else ((if (decide (v38.2.1≠0))=true then ((yz v38.1 v2.1).bind fun v129=>(some (!v129))) else
  (some false)).bind fun v129=>(some v129))).bind fun v126=>(if (v126||(decide ((b6 v38.1.Parts:Int)<(b6 v2.1.Parts:Int))))=true then (some
  (.ret false)) else (jn (yq (fun i187 s444=>u9 i187 s444.1 s444.2) (b6 v2.1.Parts:Int) (v2.1.Parts,
  v38.1.Parts)) (fun s588=>qbt v2 v38 s588.1 s588.2))))) else (some (.nxt ()))) (fun _=>qby k v_1 ))))))))))))
end Go.Proofs.Ytjloihcijdcpeaa.X
