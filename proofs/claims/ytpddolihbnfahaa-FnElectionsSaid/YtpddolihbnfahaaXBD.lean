/- The seat's types and functions, as plain Lean has them. -/
import Derived.Test.YtpddolihbnfahaaZIns
set_option linter.unusedVariables false
set_option linter.unusedSimpArgs false
set_option maxRecDepth 100000
namespace Go.Proofs.Ytpddolihbnfahaa.X
open Go
open Nat (reduceEqDiff)
structure BoundsError where
 x:Int
 y:Int
 signed:Bool
 code:Int
 deriving DecidableEq,Inhabited
def BoundsError.cells (x:BoundsError) : List XV:=[.int .i64 x.x,.int .i64 x.y,.bool x.signed,.int .u8 x.code]
structure Server where
 Term:Int
 Voted:Int
 Stands:Bool
 Leads:Bool
 Got:List Int
 Log:List Int
 deriving DecidableEq,Inhabited
def Server.cells (x:Server) : List XV:=[.int .i64 x.Term,.int .i64 x.Voted,.bool x.Stands,.bool x.Leads,lst cI x.Got,lst cI x.Log]
structure Letter where
 To:Int
 From:Int
 Term:Int
 Asks:Bool
 Last:Int
 Long:Int
 Grant:Bool
 deriving DecidableEq,Inhabited
def Letter.cells (x:Letter) : List XV:=[.int .i64 x.To,.int .i64 x.From,.int .i64 x.Term,.bool x.Asks,.int .i64 x.Last,.int .i64 x.Long,.bool x.Grant]
structure Vote where
 Term:Int
 Leader:Int
 deriving DecidableEq,Inhabited
def Vote.cells (x:Vote) : List XV:=[.int .i64 x.Term,.int .i64 x.Leader]
structure Election where
 Servers:List Server
 Post:List Letter
 Led:List Vote
 deriving DecidableEq,Inhabited
def Election.cells (x:Election) : List XV:=[lst Server.cells x.Servers,lst Letter.cells x.Post,lst Vote.cells x.Led]
structure Vote48 where
 Kind:Int
 K:Int
 deriving DecidableEq,Inhabited
def Vote48.cells (x:Vote48) : List XV:=[.int .i64 x.Kind,.int .i64 x.K]
structure ElectStep where
 Term:Int
 Leader:Int
 deriving DecidableEq,Inhabited
def ElectStep.cells (x:ElectStep) : List XV:=[.int .i64 x.Term,.int .i64 x.Leader]
structure L1Cur where
 code:List Int
 at_:Int
 seed:Int
 deriving DecidableEq,Inhabited
def L1Cur.cells (x:L1Cur) : List XV:=[lst cU8 x.code,.int .i64 x.at_,.int .u64 x.seed]

def qa5 (s_0:List Int)(i_1:Int)(v_2:List Int) : Option (List Int × List Int):=qka s_0 i_1 v_2

def qd1 (c_0:L1Cur)(s1:Int)  : Option (Int × L1Cur):=(if (decide ((IntKind.wrap .i64 (c_0.at_+1))≤(List.length c_0.code:Int)))=true then (some (s1,
  (L1Cur.mk c_0.code (IntKind.wrap .i64 (c_0.at_+1)) (IntKind.wrap .u64 ((IntKind.wrap .u64 ((IntKind.wrap .u64 (c_0.seed*6364136223846793005)) +
  (IntKind.wrap .u64 s1)))+1442695040888963407))))) else (some ((IntKind.wrap .i64 (qkg .u64 (qg1 .u64 (IntKind.wrap .u64 ((IntKind.wrap .u64 ((IntKind.wrap .u64
  (c_0.seed*6364136223846793005))+(IntKind.wrap .u64 s1)))+1442695040888963407)) 40) 255)),
  (L1Cur.mk c_0.code (IntKind.wrap .i64 (c_0.at_+1)) (IntKind.wrap .u64 ((IntKind.wrap .u64 ((IntKind.wrap .u64 (c_0.seed*6364136223846793005)) +
  (IntKind.wrap .u64 s1)))+1442695040888963407))))))
def qdm (c_0:L1Cur) : Option (Int × L1Cur):=((if (decide (c_0.at_<(List.length c_0.code:Int)))=true then ((zr c_0.code c_0.at_).bind fun x10=>(some
  (IntKind.wrap .i64 x10))) else (some 0)).bind (fun s25=>qd1 c_0 s25))

def yh (c_0:L1Cur)(n_1:Int) : Option (Int × L1Cur):=(if (decide (n_1≤1))=true then (some (0,
  c_0)) else ((qdm c_0).bind fun v2=>(if (decide ((200:Int)<n_1))=true then ((qdm v2.2).bind fun v8=>(ck (n_1≠0) (some ((Int.tmod (IntKind.wrap .i64
  ((IntKind.wrap .i64 (v2.1*256))+v8.1)) n_1),v8.2)))) else (ck (n_1≠0) (some ((Int.tmod v2.1 n_1),v2.2))))))

def w6 (l_0:List Int) : Option Int:=(if (decide ((List.length l_0:Int)=0))=true then (some (-1)) else ((zr l_0 (IntKind.wrap .i64
  ((List.length l_0:Int) - 1))).bind fun x2=>(some x2)))

def kr (n_0:Int)(lo_1:Int)(hi_2:Int) : Bool:=((decide (lo_1≤n_0))&&(decide (n_0≤hi_2)))

def u7 (l_0:List Int)(i1:Nat)(x2:Int) : Option (Oc Unit Bool):=((if (!(kr x2 0 100))=true then (some true) else ((if (decide ((0:Int) <
  (i1:Int)))=true then ((zr l_0 (IntKind.wrap .i64 ((i1:Int) - 1))).bind fun x29=>(some (decide (x2<x29)))) else (some false)).bind fun v29 =>
  (some v29))).bind fun v26=>(if v26=true then (some (.ret false)) else (some (.nxt ()))))
def qd8 (l_0:List Int)  : Option Bool:=(some (decide ((List.length l_0:Int)≤30)))
def xu (l_0:List Int) : Option Bool:=(jn (kc (fun i1 x2 _=>u7 l_0 i1 x2 ) l_0 ()) (fun _=>qd8 l_0 ))

def qbp (c_0:L1Cur)(n_1:Int) : Option (Bool × L1Cur):=((yh c_0 n_1).bind fun v1=>(some ((decide (v1.1=0)),v1.2)))

def qbl (c_0:L1Cur)(list_1:List Int) : Option (Int × L1Cur × (List Int)):=((yh c_0 (List.length list_1:Int)).bind fun v1 =>
  ((zr list_1 v1.1).bind fun x6=>(some (x6,v1.2,list_1))))

def ua (s49:List Int)(s54:Int)(s55:Int)(s56:L1Cur) : Option (Oc ((List Int) × Int × Int × L1Cur) ((List Int) × L1Cur)):=(if (decide
  ((0:Int)<s55))=true then ((jo 8 s49 [s54]).bind fun l86=>((qbl s56 [0,0,0,1,2]).bind fun v101=>(some (.nxt (l86,(IntKind.wrap .i64 (s54+v101.1)),
  (IntKind.wrap .i64 (s55 - 1)),v101.2.1))))) else (some (.brk (s49,s54,s55,s56))))
def qb7 (s111:List Int)(s126:Bool)(s127:L1Cur)  : Option ((List Int) × L1Cur):=(if s126=true then ((yh s127
  (List.length s111:Int)).bind fun v151=>((qbl v151.2 [(-1),0,100,
  101]).bind fun v162=>((zr s111 v151.1).bind fun x169=>(some ((List.set s111 v151.1.toNat v162.1),v162.2.1))))) else (some (s111,s127)))
def qb9 (s111:List Int)(s116:Int)(s117:Int)(s118:L1Cur)  : Option ((List Int) × L1Cur):=((if (decide ((0:Int)<(List.length s111:Int)))=true then
  ((qbp s118 20).bind fun v137=>(some (v137.1,v137.2))) else (some (false,s118))).bind (fun s179=>qb7 s111 s179.1 s179.2))
def qb6 (k:Nat)(v1:Int × L1Cur)(s16:Int)(s17:L1Cur)  : Option ((List Int) × L1Cur):=(jn (wg
  (fun s110=>ua s110.1 s110.2.1 s110.2.2.1 s110.2.2.2) k (([],v1.1,s16,
  s17) : (List Int) × Int × Int × L1Cur)) (fun s180=>qb9 s180.1 s180.2.1 s180.2.2.1 s180.2.2.2))
def qct (k:Nat)(c_0:L1Cur) : Option ((List Int) × L1Cur):=((yh c_0 3).bind fun v1=>((yh v1.2 10).bind fun v6 =>
  ((qbp v6.2 20).bind fun v11=>((if v11.1=true then ((yh v11.2 2).bind fun v27=>(some ((IntKind.wrap .i64 ((30:Int)+v27.1)),v27.2))) else (some (v6.1,
  v11.2))).bind (fun s181=>qb6 k v1 s181.1 s181.2)))))

def qby (s13:List (List Int))(s18:Int)(v42:(List Int) × L1Cur)(s73:List Int)  : Option (Oc ((List (List Int)) × Int × L1Cur) ((List (List Int)) × L1Cur)) :=
  ((jo 24 s13 [s73]).bind fun l107=>(some (.nxt (l107,(IntKind.wrap .i64 (s18 - 1)),v42.2))))
def ug (k:Nat)(s13:List (List Int))(s18:Int)(s19:L1Cur) : Option (Oc ((List (List Int)) × Int × L1Cur) ((List (List Int)) × L1Cur)):=(if (decide
  ((0:Int)<s18))=true then ((qct k s19).bind fun v42=>((xu v42.1).bind fun v51=>((if (!v51)=true then (some true) else
  ((w6 v42.1).bind fun v57=>(some (decide ((10:Int)<v57))))).bind fun v57=>((if v57=true then (some [1,
  2]) else (some v42.1)).bind (fun s117=>qby s13 s18 v42 s117))))) else (some (.brk (s13,s18,s19))))
def qbw (s120:List (List Int))(s125:Int)(s126:L1Cur)  : Option ((List (List Int)) × L1Cur):=((qbp s126 30).bind fun v133=>(if v133.1=true then
  ((zr s120 (0:Int)).bind fun x145=>(some ((List.set s120 (0:Int).toNat [11]),v133.2))) else (some (s120,v133.2))))
def qc2 (k:Nat)(c_0:L1Cur) : Option ((List (List Int)) × L1Cur):=((yh c_0 5).bind fun v1=>(jn (wg
  (fun s119=>ug k s119.1 s119.2.1 s119.2.2) k (([],(IntKind.wrap .i64 ((1:Int)+v1.1)),
  v1.2) : (List (List Int)) × Int × L1Cur)) (fun s170=>qbw s170.1 s170.2.1 s170.2.2)))

def qao (s42:List ElectStep)(s47:Int)(s100:L1Cur)(s101:ElectStep)  : Option (Oc ((List ElectStep) × Int × L1Cur) ((List ElectStep) × L1Cur)) :=
  ((jo 16 s42 [s101]).bind fun l138=>(some (.nxt (l138,(IntKind.wrap .i64 (s47 - 1)),s100))))
def yv (s42:List ElectStep)(s47:Int)(s48:L1Cur) : Option (Oc ((List ElectStep) × Int × L1Cur) ((List ElectStep) × L1Cur)):=(if (decide
  ((0:Int)<s47))=true then ((qbl s48 [1,2,2,2,2,2,3,
  4]).bind fun v77=>((yh v77.2.1 5).bind fun v84=>((qbp v84.2 30).bind fun v95=>((if v95.1=true then ((yh v95.2 7).bind fun v111 =>
  ((yh v111.2 8).bind fun v116=>(some (v116.2,(ElectStep.mk v111.1 (IntKind.wrap .i64 (v116.1 - 1))))))) else (some (v95.2,
  (ElectStep.mk v77.1 v84.1)))).bind (fun s148=>qao s42 s47 s148.1 s148.2))))) else (some (.brk (s42,s47,s48))))
def qeu (s151:List ElectStep)(s156:Int)(s157:L1Cur)  : Option ((List ElectStep) × L1Cur):=(some (s151,s157))
def qam (k:Nat)(s11:Int)(s12:L1Cur)  : Option ((List ElectStep) × L1Cur):=(jn (wg (fun s150=>yv s150.1 s150.2.1 s150.2.2) k (([],
  s11,s12) : (List ElectStep) × Int × L1Cur)) (fun s164=>qeu s164.1 s164.2.1 s164.2.2))
def qaq (k:Nat)(c_0:L1Cur) : Option ((List ElectStep) × L1Cur):=((yh c_0 30).bind fun v1=>((qbp v1.2 12).bind fun v6=>((if v6.1=true then
  ((yh v6.2 12).bind fun v22=>(some ((IntKind.wrap .i64 ((70:Int)+v22.1)),v22.2))) else (some (v1.1,
  v6.2))).bind (fun s165=>qam k s165.1 s165.2))))

def wz (k:Nat)(code_0:List Int) : Option ((List (List Int)) × (List ElectStep)):=((qc2 k (L1Cur.mk code_0 0 0)).bind fun v5 =>
  ((qaq k v5.2).bind fun v14=>(some (v5.1,v14.1))))

def zk (n_0:Int)(low_1:Int)(high_2:Int) : Bool:=((decide (low_1≤n_0))&&(decide (n_0≤high_2)))

def xv (l_0:List Int) : Option Int:=(if (decide ((List.length l_0:Int)=0))=true then (some (-1)) else ((zr l_0 (IntKind.wrap .i64
  ((List.length l_0:Int) - 1))).bind fun x2=>(some x2)))

def qas (l_0:List Int)(i1:Nat)(x2:Int) : Option (Oc Unit Bool):=((if (!(zk x2 0 100))=true then (some true) else ((if (decide ((0:Int) <
  (i1:Int)))=true then ((zr l_0 (IntKind.wrap .i64 ((i1:Int) - 1))).bind fun x29=>(some (decide (x2<x29)))) else (some false)).bind fun v29 =>
  (some v29))).bind fun v26=>(if v26=true then (some (.ret false)) else (some (.nxt ()))))
def qes (l_0:List Int)  : Option Bool:=(some (decide ((List.length l_0:Int)≤30)))
def ub (l_0:List Int) : Option Bool:=(jn (kc (fun i1 x2 _=>qas l_0 i1 x2 ) l_0 ()) (fun _=>qes l_0 ))

def qaa (i24:Nat)(x25:List Int)(s19:Election) : Option (Oc Election (Election × Bool)):=((ub x25).bind fun v47=>((if (!v47)=true then
  (some true) else ((xv x25).bind fun v53=>(some (decide ((10:Int)<v53))))).bind fun v53=>(if v53=true then (some (.ret ((Election.mk [] [] []),
  false))) else ((jo 8 ([] : List Int) x25).bind fun l84=>((jo 72 s19.Servers ([(Server.mk 10 (-1) false false [] l84)])).bind fun l101=>(some (.nxt
  (Election.mk l101 [] []))))))))
def qd7 (s114:Election)  : Option (Election × Bool):=(some ((Election.mk s114.Servers [] []),true))
def wk (logs_0:List (List Int)) : Option (Election × Bool):=(if (!(zk (List.length logs_0:Int) 1 5))=true then (some ((Election.mk [] [] []),
  false)) else (jn (kc (fun i24 x25 s113=>qaa i24 x25 s113) logs_0 (Election.mk [] [] [])) (fun s127=>qd7 s127)))

def qan (list_0:List Int)(many_1:Int)(i1:Nat)(x2:Int) : Option (Oc Unit Bool):=((if (!(zk x2 0 (IntKind.wrap .i64 (many_1 - 1))))=true then
  (some true) else ((if (decide ((0:Int)<(i1:Int)))=true then ((zr list_0 (IntKind.wrap .i64 ((i1:Int) - 1))).bind fun x30=>(some (decide (x2≤x30)))) else
  (some false)).bind fun v30=>(some v30))).bind fun v27=>(if v27=true then (some (.ret false)) else (some (.nxt ()))))
def qez  : Option Bool:=(some true)
def qar (list_0:List Int)(many_1:Int) : Option Bool:=(jn (kc (fun i1 x2 _=>qan list_0 many_1 i1 x2 ) list_0 ())
  (fun _=>qez ))

def ko (f_1:Vote→Option Bool)(i1:Nat)(x2:Vote) : Option (Oc Unit Int):=((f_1 x2).bind fun v23=>(if v23=true then (some (.ret
  (i1:Int))) else (some (.nxt ()))))
def qci  : Option Int:=(some (-1))
def yn (s_0:List Vote)(f_1:Vote→Option Bool) : Option Int:=(jn (kc (fun i1 x2 _=>ko f_1 i1 x2 ) s_0 ())
  (fun _=>qci ))

def xa (s_0:List Vote)(f_1:Vote→Option Bool) : Option Bool:=((yn s_0 f_1).bind fun v1=>(some (decide ((0:Int)≤v1))))

def xh (v_0:Vote)(cap_0:Int) : Bool:=((!(zk v_0.Term 0 100))||(!(zk v_0.Leader 0 (IntKind.wrap .i64 (cap_0 - 1)))))

def qau (v_0:Election)(i34:Nat)(x35:Server) : Option (Oc Unit Bool):=((if (((!(zk x35.Term 0 100))||(!(zk x35.Voted (-1) (IntKind.wrap .i64
  ((List.length v_0.Servers:Int) - 1)))))||(x35.Stands&&x35.Leads))=true then (some true) else ((qar x35.Got
  (List.length v_0.Servers:Int)).bind fun v108=>(some (!v108)))).bind fun v108=>((if (v108||(((!x35.Stands)&&(!x35.Leads))&&(decide ((0:Int) <
  (List.length x35.Got:Int)))))=true then (some true) else ((ub x35.Log).bind fun v170=>(some (!v170)))).bind fun v170=>(if v170=true then (some
  (.ret false)) else (some (.nxt ())))))
def qav (v_0:Election)(i199:Nat)(x200:Letter) : Option (Oc Unit Bool):=(if (!(zk x200.To 0 (IntKind.wrap .i64
  ((List.length v_0.Servers:Int) - 1))))=true then (some (.ret false)) else (if ((!(zk x200.From 0 (IntKind.wrap .i64 ((List.length v_0.Servers:Int) - 1)))) ||
  (decide (x200.To=x200.From)))=true then (some (.ret false)) else ((zr v_0.Servers x200.From).bind fun x251=>(if (!(zk x200.Term 0 x251.Term))=true then (some
  (.ret false)) else (if ((x200.Asks&&((x200.Grant||(!(zk x200.Last (-1) 100)))||(!(zk x200.Long 0 30))))||((!x200.Asks)&&((decide (x200.Last≠0)) ||
  (decide (x200.Long≠0)))))=true then (some (.ret false)) else (some (.nxt ())))))))
def qco (v_0:Election)  : Option Bool:=((xa v_0.Led (fun a0=>some (xh a0
  (List.length v_0.Servers:Int)))).bind fun v350=>(some (!v350)))
def qcg (v_0:Election)  : Option Bool:=(jn (kc (fun i199 x200 _=>qav v_0 i199 x200 ) v_0.Post ()) (fun _=>qco v_0 ))
def kt (v_0:Election) : Option Bool:=(if (((!(zk (List.length v_0.Servers:Int) 1 5))||(decide ((20:Int)<(List.length v_0.Post:Int))))||(decide
  ((80:Int)<(List.length v_0.Led:Int))))=true then (some false) else (jn (kc (fun i34 x35 _=>qau v_0 i34 x35 ) v_0.Servers ())
  (fun _=>qcg v_0 )))

def uo (l28:List Letter)(l38:List Vote)(i59:Nat)(x60:Server)(s54:Election) : Option (Oc Election Election):=((jo 8
  ([] : List Int) x60.Got).bind fun l94=>((jo 8 ([] : List Int) x60.Log).bind fun l111 =>
  ((jo 72 s54.Servers [(Server.mk x60.Term x60.Voted x60.Stands x60.Leads l94 l111)]).bind fun l128=>(some (.nxt (Election.mk l128 l28 l38))))))
def qd3 (l28:List Letter)(l38:List Vote)(s141:Election)  : Option Election:=(some (Election.mk s141.Servers l28 l38))
def uh (e_0:Election) : Option Election:=((jo 56 ([] : List Letter) e_0.Post).bind fun l28=>((jo 16 ([] : List Vote) e_0.Led).bind fun l38=>(jn (kc
  (fun i59 x60 s140=>uo l28 l38 i59 x60 s140) e_0.Servers (Election.mk [] l28 l38)) (fun s154=>qd3 l28 l38 s154))))

def wx (e_0:Election)(k_1:Int) : Option Election:=((zr e_0.Servers k_1).bind fun x1=>(if (x1.Stands&&(decide ((List.length e_0.Servers:Int) <
  (IntKind.wrap .i64 ((2:Int)*(List.length x1.Got:Int))))))=true then ((jo 16 e_0.Led [(Vote.mk x1.Term k_1)]).bind fun l47=>(some (Election.mk
  (List.set e_0.Servers k_1.toNat (Server.mk x1.Term x1.Voted false true x1.Got x1.Log)) e_0.Post l47))) else (some e_0)))

def wb (v_0:Election)(v_1:Int)(i89:Nat)(s81:Election)(s86:List Server) : Option (Oc (Election × (List Server)) (Bool × Election)):=(if (decide
  ((i89:Int)≠v_1))=true then ((zr s86 v_1).bind fun j0=>((xv j0.Log).bind fun v131=>((jo 56 s81.Post [(Letter.mk (i89:Int) v_1 j0.Term true v131
  (List.length j0.Log:Int) false)]).bind fun l140=>(some (.nxt ((Election.mk s86 l140 v_0.Led),s86)))))) else (some (.nxt ((Election.mk s86 s81.Post v_0.Led),s86))))
def qax (v_0:Election)(v_1:Int)(s158:Election)(s163:List Server)  : Option (Bool × Election):=((wx
  (Election.mk s163 s158.Post v_0.Led) v_1).bind fun v172=>(some (true,v172)))
def xn (v_0:Election)(v_1:Int) : Option (Bool × Election):=((zr v_0.Servers v_1).bind fun x1=>(if ((x1.Leads||(decide (x1.Term=100)))||(decide
  ((20:Int)<(IntKind.wrap .i64 ((IntKind.wrap .i64 ((List.length v_0.Post:Int)+(List.length v_0.Servers:Int))) - 1)))))=true then (some (false,
  v_0)) else (jn (x4 (fun i89 s157=>wb v_0 v_1 i89 s157.1 s157.2) (List.length v_0.Servers:Int) ((Election.mk (List.set v_0.Servers v_1.toNat
  (Server.mk (IntKind.wrap .i64 (x1.Term+1)) v_1 true x1.Leads [v_1] x1.Log)) v_0.Post v_0.Led),
  (List.set v_0.Servers v_1.toNat (Server.mk (IntKind.wrap .i64 (x1.Term+1)) v_1 true x1.Leads [v_1] x1.Log)))) (fun s185=>qax v_0 v_1 s185.1 s185.2))))

def uq (s_0:List Letter)(i_1:Int)(j_2:Int) : Option (List Letter):=qlh s_0 i_1 j_2

def qag (last_0:Int)(long_1:Int)(b_2:List Int) : Option Bool:=((xv b_2).bind fun v1=>((if (decide (v1<last_0))=true then (some true) else
  ((xv b_2).bind fun v7=>(some ((decide (last_0=v7))&&(decide ((List.length b_2:Int)≤long_1)))))).bind fun v7=>(some v7)))

def k9 (x_0:Int) : Bool:=(decide (x_0≠x_0))

def qbi (x_0:Int)(y_1:Int) : Bool:=(((k9 x_0)&&(!(k9 y_1)))||(decide (x_0<y_1)))

def yu (x_0:Int) : Bool:=(decide (x_0≠x_0))

def yf (x_0:List Int)(target_1:Int)(s3:Int)(s4:Int) : Option (Oc (Int × Int) (Int × Bool)):=(if (decide (s3<s4))=true then ((zr x_0
  (IntKind.wrap .i64 (qg1 .u64 (IntKind.wrap .u64 (IntKind.wrap .i64 (s3+s4))) 1))).bind fun x29=>(if (qbi x29 target_1)=true then (some (.nxt
  ((IntKind.wrap .i64 ((IntKind.wrap .i64 (qg1 .u64 (IntKind.wrap .u64 (IntKind.wrap .i64 (s3+s4))) 1))+1)),s4))) else (some (.nxt (s3,
  (IntKind.wrap .i64 (qg1 .u64 (IntKind.wrap .u64 (IntKind.wrap .i64 (s3+s4))) 1))))))) else (some (.brk (s3,s4))))
def uf (x_0:List Int)(target_1:Int)(s37:Int)(s38:Int)  : Option (Int × Bool):=((if (decide (s37<(List.length x_0:Int)))=true then
  ((zr x_0 s37).bind fun x50=>((if (decide (x50=target_1))=true then (some true) else ((zr x_0 s37).bind fun x56=>(some ((yu x56) &&
  (yu target_1))))).bind fun v56=>(some v56))) else (some false)).bind fun v50=>(some (s37,v50)))
def yc (k:Nat)(x_0:List Int)(target_1:Int) : Option (Int × Bool):=(jn (wg (fun s36=>yf x_0 target_1 s36.1 s36.2) k (0,
  (List.length x_0:Int))) (fun s90=>uf x_0 target_1 s90.1 s90.2))

def x5 (v_0:Election)(v_1:Letter)(v115:Bool)(s122:List Server)  : Option Election:=((zr s122 v_1.To).bind fun x166 =>
  ((jo 56 v_0.Post [(Letter.mk v_1.From v_1.To x166.Term false 0 0 v115)]).bind fun l190=>(some (Election.mk s122 l190 v_0.Led))))
def qbb (k:Nat)(v_0:Election)(v_1:Letter)(s31:List Server)  : Option Election:=(if v_1.Asks=true then ((zr s31 v_1.To).bind fun x75=>(if
  ((decide (v_1.Term=x75.Term))&&((decide (x75.Voted=(-1)))||(decide (x75.Voted=v_1.From))))=true then ((qag v_1.Last v_1.Long x75.Log).bind fun v115 =>
  ((if v115=true then (some (List.set s31 v_1.To.toNat (Server.mk x75.Term v_1.From x75.Stands x75.Leads x75.Got x75.Log))) else (some s31)).bind
  (fun s205=>x5 v_0 v_1 v115 s205))) else ((jo 56 v_0.Post [(Letter.mk v_1.From v_1.To x75.Term false 0 0 false)]).bind fun l213=>(some
  (Election.mk s31 l213 v_0.Led))))) else ((if v_1.Grant=true then ((zr s31 v_1.To).bind fun x231=>(some (decide (v_1.Term=x231.Term)))) else
  (some false)).bind fun v231=>((if v231=true then ((zr s31 v_1.To).bind fun x264=>(some x264.Stands)) else (some false)).bind fun v264=>(if v264=true then
  ((zr s31 v_1.To).bind fun x295=>((yc k x295.Got v_1.From).bind fun v313=>(if (!v313.2)=true then
  ((qa5 x295.Got v313.1 [v_1.From]).bind fun v324=>((wx (Election.mk (List.set s31 v_1.To.toNat
  (Server.mk x295.Term x295.Voted x295.Stands x295.Leads v324.1 x295.Log)) v_0.Post v_0.Led) v_1.To).bind fun v344=>(some v344))) else ((wx
  (Election.mk s31 v_0.Post v_0.Led) v_1.To).bind fun v361=>(some v361))))) else (some (Election.mk s31 v_0.Post v_0.Led))))))
def xy (k:Nat)(v_0:Election)(v_1:Letter) : Option Election:=((zr v_0.Servers v_1.To).bind fun x7=>((if (decide (x7.Term<v_1.Term))=true then
  (some (List.set v_0.Servers v_1.To.toNat (Server.mk v_1.Term (-1) false false [] x7.Log))) else (some v_0.Servers)).bind (fun s374=>qbb k v_0 v_1 s374)))

def ka (k:Nat)(v_0:Election)(v_1:ElectStep)(v17:Election)(s146:Bool)  : Option (Oc (Bool × Election × (List Server)) (Election × Bool)) :=
  (if s146=true then (if (!(zk v_1.Leader 0 (IntKind.wrap .i64 ((List.length v_0.Post:Int) - 1))))=true then (some (.ret ((Election.mk [] [] []),
  false))) else ((zr v_0.Post v_1.Leader).bind fun x173=>(if (decide (v_1.Term=4))=true then ((jo 56 v17.Post [x173]).bind fun l191=>(some (.nxt ((decide
  ((List.length v_0.Post:Int)<20)),(Election.mk v17.Servers l191 v17.Led),
  v17.Servers)))) else ((uq v17.Post v_1.Leader (IntKind.wrap .i64 (v_1.Leader+1))).bind fun v203=>(if (decide (v_1.Term=2))=true then
  ((xy k (Election.mk v17.Servers v203 v17.Led) x173).bind fun v215=>(some (.nxt (true,v215,v215.Servers)))) else (some (.nxt (true,
  (Election.mk v17.Servers v203 v17.Led),v17.Servers)))))))) else (some (.nxt (false,v17,v17.Servers))))
def kp (k:Nat)(v_0:Election)(v_1:ElectStep)(v17:Election)(s63:Bool)  : Option (Oc (Bool × Election × (List Server)) (Election × Bool)) :=
  (if s63=true then (if (!(zk v_1.Leader 0 (IntKind.wrap .i64 ((List.length v_0.Servers:Int) - 1))))=true then (some (.ret ((Election.mk [] [] []),
  false))) else ((zr v17.Servers v_1.Leader).bind fun x89=>(if (decide (v_1.Term=5))=true then (some (.ret ((Election.mk (List.set v17.Servers v_1.Leader.toNat
  (Server.mk x89.Term x89.Voted false false [] x89.Log)) v17.Post v17.Led),true))) else ((xn v17 v_1.Leader).bind fun v130=>(some (.nxt (v130.1,v130.2,
  v130.2.Servers))))))) else ((if (decide (v_1.Term=2))=true then (some (decide (v_1.Term=2))) else (if (decide (v_1.Term=3))=true then (some (decide
  (v_1.Term=3))) else (some (decide (v_1.Term=4))))).bind (fun s233=>ka k v_0 v_1 v17 s233)))
def ym (s43:Bool)(s44:Election)(s53:List Server)  : Option (Election × Bool):=((if (!s43)=true then (some true) else ((kt
  (Election.mk s53 s44.Post s44.Led)).bind fun v244=>(some (!v244)))).bind fun v244=>(if v244=true then (some ((Election.mk [] [] []),
  false)) else (some ((Election.mk s53 s44.Post s44.Led),true))))
def wn (k:Nat)(v_0:Election)(v_1:ElectStep) : Option (Election × Bool):=((uh v_0).bind fun v17=>(jn ((if (decide
  (v_1.Term=1))=true then (some (decide (v_1.Term=1))) else (some (decide (v_1.Term=5)))).bind (fun s234=>kp k v_0 v_1 v17 s234))
  (fun s263=>ym s263.1 s263.2.1 s263.2.2)))

def ur (s68:List Bool)(v118:Election × Bool)(s146:Election)  : Option (Oc ((List Bool) × Election) (Election × (List Bool) × Bool)) :=
  ((jo 1 s68 [v118.2]).bind fun l187=>(some (.nxt (l187,s146))))
def w8 (k:Nat)(i86:Nat)(x87:ElectStep)(s68:List Bool)(s73:Election) : Option (Oc ((List Bool) × Election) (Election × (List Bool) × Bool)) :=
  ((wn k s73 x87).bind fun v118=>((if v118.2=true then (some v118.1) else (some s73)).bind (fun s197=>ur s68 v118 s197)))
def qdz (s199:List Bool)(s204:Election)  : Option (Election × (List Bool) × Bool):=(some (s204,s199,true))
def k8 (k:Nat)(logs_0:List (List Int))(l_1:List ElectStep) : Option (Election × (List Bool) × Bool):=((wk logs_0).bind fun v5=>(if
  ((!v5.2)||(decide ((80:Int)<(List.length l_1:Int))))=true then (some ((Election.mk [] [] []),[],
  false)) else (jn (kc (fun i86 x87 s198=>w8 k i86 x87 s198.1 s198.2) l_1 (([] : List Bool),v5.1)) (fun s226=>qdz s226.1 s226.2))))

def u0 (i19:Nat)(x20:List Int)(s14:Election) : Option (Oc Election (Election × Bool)):=((xu x20).bind fun v43=>((if (!v43)=true then
  (some true) else ((w6 x20).bind fun v49=>(some (decide ((10:Int)<v49))))).bind fun v49=>(if v49=true then (some (.ret ((Election.mk [] [] []),
  false))) else ((jo 8 ([] : List Int) x20).bind fun l81=>((jo 72 s14.Servers ([(Server.mk 10 (-1) false false [] l81)])).bind fun l98=>(some (.nxt
  (Election.mk l98 [] []))))))))
def u9 (logs_0:List (List Int))(s111:Election)  : Option (Election × Bool):=(if (!(kr (List.length logs_0:Int) 1 5))=true then (some
  ((Election.mk [] [] []),false)) else (some ((Election.mk s111.Servers [] []),true)))
def wh (logs_0:List (List Int)) : Option (Election × Bool):=(jn (kc (fun i19 x20 s110=>u0 i19 x20 s110) logs_0 (Election.mk [] [] []))
  (fun s128=>u9 logs_0 s128))

def qa9 (e_0:Election)(k_1:Int) : Bool:=((decide ((0:Int)≤k_1))&&(decide (k_1<(List.length e_0.Servers:Int))))

def qb2 (e_0:Election)(k_1:Int) : Option Election:=((zr e_0.Servers k_1).bind fun x9=>(if (x9.Stands&&(decide ((List.length e_0.Servers:Int) <
  (IntKind.wrap .i64 ((2:Int)*(List.length x9.Got:Int))))))=true then ((jo 16 e_0.Led [(Vote.mk x9.Term k_1)]).bind fun l61=>(some (Election.mk
  (List.set e_0.Servers k_1.toNat (Server.mk x9.Term x9.Voted false true x9.Got x9.Log)) e_0.Post l61))) else (some e_0)))

def um (v_0:Election)(v_1:Int)(x9:Server)(i92:Nat)(s87:Election) : Option (Oc Election (Election × Bool)):=(if (decide
  ((i92:Int)≠v_1))=true then ((w6 x9.Log).bind fun v117=>((jo 56 s87.Post [(Letter.mk (i92:Int) v_1 (IntKind.wrap .i64 (x9.Term+1)) true v117
  (List.length x9.Log:Int) false)]).bind fun l127=>(some (.nxt (Election.mk v_0.Servers l127 v_0.Led))))) else (some (.nxt (Election.mk v_0.Servers s87.Post v_0.Led))))
def qc8 (v_0:Election)(v_1:Int)(x9:Server)(s141:Election)  : Option (Election × Bool):=((qb2 (Election.mk (List.set v_0.Servers v_1.toNat
  (Server.mk (IntKind.wrap .i64 (x9.Term+1)) v_1 true x9.Leads [v_1] x9.Log)) s141.Post v_0.Led) v_1).bind fun v158=>(some (v158,true)))
def qbg (v_0:Election)(v_1:Int) : Option (Election × Bool):=((zr v_0.Servers v_1).bind fun x9=>(if ((x9.Leads||(decide (x9.Term=100)))||(decide
  ((20:Int)<(IntKind.wrap .i64 ((IntKind.wrap .i64 ((List.length v_0.Post:Int)+(List.length v_0.Servers:Int))) - 1)))))=true then (some (v_0,
  false)) else (jn (x4 (fun i92 s140=>um v_0 v_1 x9 i92 s140) (List.length v_0.Servers:Int) v_0) (fun s173=>qc8 v_0 v_1 x9 s173))))

def qfx (last_0:Int)(long_1:Int)(l_2:List Int) : Option Bool:=((w6 l_2).bind fun v1=>((if (decide (v1<last_0))=true then (some true) else
  ((w6 l_2).bind fun v7=>(some ((decide (last_0=v7))&&(decide ((List.length l_2:Int)≤long_1)))))).bind fun v7=>(some v7)))

def qde (l_0:List Int)(n_1:Int)(s2:Int) : Option (Oc Int (List Int)):=((if (decide (s2<(List.length l_0:Int)))=true then ((zr l_0 s2).bind fun x27 =>
  (some (decide (x27<n_1)))) else (some false)).bind fun v27=>(if v27=true then (some (.nxt (IntKind.wrap .i64 (s2+1)))) else (some (.brk s2))))
def qe5 (l_0:List Int)(n_1:Int)(s48:Int)  : Option (List Int):=((if (decide (s48<(List.length l_0:Int)))=true then ((zr l_0 s48).bind fun x58=>(some
  (decide (x58=n_1)))) else (some false)).bind fun v58=>(if v58=true then (some l_0) else ((sl l_0 0 s48).bind fun l76=>((jo 8 ([] : List Int) l76).bind fun l83 =>
  ((jo 8 l83 [n_1]).bind fun l98=>((sl l_0 s48 (List.length l_0)).bind fun l107=>((jo 8 l98 l107).bind fun l114=>(some l114))))))))
def qcx (k:Nat)(l_0:List Int)(n_1:Int) : Option (List Int):=(jn (wg (fun s47=>qde l_0 n_1 s47) k 0) (fun s123=>qe5 l_0 n_1 s123))

def qgl (v_0:Election)(s153:Election)(s158:List Server)  : Option Election:=(some (Election.mk s158 s153.Post v_0.Led))
def qc1 (v_0:Election)(v_1:Letter)(x15:Server)(s41:Server)(v100:Bool)(s128:Server)  : Option Election:=((if (decide
  ((List.length v_0.Post:Int)<20))=true then ((jo 56 v_0.Post [(Letter.mk v_1.From v_1.To s128.Term false 0 0 v100)]).bind fun l176=>(some ((Election.mk
  (List.set v_0.Servers v_1.To.toNat (Server.mk s128.Term s128.Voted s128.Stands s128.Leads s41.Got x15.Log)) l176 v_0.Led),
  (List.set v_0.Servers v_1.To.toNat (Server.mk s128.Term s128.Voted s128.Stands s128.Leads s41.Got x15.Log))))) else (some ((Election.mk (List.set v_0.Servers v_1.To.toNat
  (Server.mk s128.Term s128.Voted s128.Stands s128.Leads s41.Got x15.Log)) v_0.Post v_0.Led),
  (List.set v_0.Servers v_1.To.toNat (Server.mk s128.Term s128.Voted s128.Stands s128.Leads s41.Got x15.Log))))).bind (fun s206=>qgl v_0 s206.1 s206.2))
def qcw (v_0:Election)(v_1:Letter)(x15:Server)(s230:Server)  : Option Election:=((qb2 (Election.mk (List.set v_0.Servers v_1.To.toNat
  (Server.mk s230.Term s230.Voted s230.Stands s230.Leads s230.Got x15.Log)) v_0.Post v_0.Led) v_1.To).bind fun v272=>(some v272))
def qej (k:Nat)(v_0:Election)(v_1:Letter)(x15:Server)(s41:Server)  : Option Election:=(if v_1.Asks=true then ((if ((decide (v_1.Term=s41.Term)) &&
  ((decide (s41.Voted=(-1)))||(decide (s41.Voted=v_1.From))))=true then ((qfx v_1.Last v_1.Long x15.Log).bind fun v100=>(some v100)) else
  (some false)).bind fun v100=>((if (v100&&(decide ((List.length v_0.Post:Int)<20)))=true then (some
  (Server.mk s41.Term v_1.From s41.Stands s41.Leads s41.Got x15.Log)) else (some (Server.mk s41.Term s41.Voted s41.Stands s41.Leads s41.Got x15.Log))).bind
  (fun s207=>qc1 v_0 v_1 x15 s41 v100 s207))) else ((if ((v_1.Grant&&(decide (v_1.Term=s41.Term)))&&s41.Stands)=true then
  ((qcx k s41.Got v_1.From).bind fun v243=>(some (Server.mk s41.Term s41.Voted s41.Stands s41.Leads v243 x15.Log))) else (some
  (Server.mk s41.Term s41.Voted s41.Stands s41.Leads s41.Got x15.Log))).bind (fun s287=>qcw v_0 v_1 x15 s287)))
def qdb (k:Nat)(v_0:Election)(v_1:Letter) : Option Election:=((zr v_0.Servers v_1.To).bind fun x15=>((if (decide (x15.Term<v_1.Term))=true then (some
  (Server.mk v_1.Term (-1) false false [] x15.Log)) else (some x15)).bind (fun s288=>qej k v_0 v_1 x15 s288)))

def qda (k:Nat)(v_0:Election)(v_1:ElectStep) : Option (Election × Bool):=(if ((decide (v_1.Term=1))||(decide (v_1.Term=5)))=true then (if
  (!(qa9 v_0 v_1.Leader))=true then (some (v_0,false)) else (if (decide (v_1.Term=1))=true then ((qbg v_0 v_1.Leader).bind fun v30=>(some (v30.1,
  v30.2))) else ((zr v_0.Servers v_1.Leader).bind fun x47=>(some ((Election.mk (List.set v_0.Servers v_1.Leader.toNat
  (Server.mk x47.Term x47.Voted false false [] x47.Log)) v_0.Post v_0.Led),
  true))))) else (if (((!(kr v_1.Term 2 4))||(decide (v_1.Leader<0)))||(decide ((List.length v_0.Post:Int)≤v_1.Leader)))=true then (some (v_0,
  false)) else ((zr v_0.Post v_1.Leader).bind fun j0=>(if (decide (v_1.Term=4))=true then (if (decide ((List.length v_0.Post:Int)=20))=true then (some (v_0,
  false)) else ((jo 56 v_0.Post [j0]).bind fun l136=>(some ((Election.mk v_0.Servers l136 v_0.Led),
  true)))) else ((sl v_0.Post 0 v_1.Leader).bind fun l156=>((jo 56 ([] : List Letter) l156).bind fun l163=>((sl v_0.Post (IntKind.wrap .i64 (v_1.Leader+1))
  (List.length v_0.Post)).bind fun l174=>((jo 56 l163 l174).bind fun l181=>(if (decide (v_1.Term=2))=true then ((qdb k
  (Election.mk v_0.Servers l181 v_0.Led) j0).bind fun v193=>(some (v193,true))) else (some ((Election.mk v_0.Servers l181 v_0.Led),true)))))))))))

def qaj (l28:List Letter)(l38:List Vote)(i59:Nat)(x60:Server)(s54:Election) : Option (Oc Election Election):=((jo 8
  ([] : List Int) x60.Got).bind fun l94=>((jo 8 ([] : List Int) x60.Log).bind fun l111 =>
  ((jo 72 s54.Servers [(Server.mk x60.Term x60.Voted x60.Stands x60.Leads l94 l111)]).bind fun l128=>(some (.nxt (Election.mk l128 l28 l38))))))
def qhi (l28:List Letter)(l38:List Vote)(s141:Election)  : Option Election:=(some (Election.mk s141.Servers l28 l38))
def qcy (e_0:Election) : Option Election:=((jo 56 ([] : List Letter) e_0.Post).bind fun l28=>((jo 16 ([] : List Vote) e_0.Led).bind fun l38=>(jn (kc
  (fun i59 x60 s140=>qaj l28 l38 i59 x60 s140) e_0.Servers (Election.mk [] l28 l38)) (fun s154=>qhi l28 l38 s154))))

def qbm (s62:List Bool)(v136:Election × Bool)(s155:Election)  : Option (Oc ((List Bool) × Election) (Election × (List Bool) × Bool)) :=
  ((jo 1 s62 [v136.2]).bind fun l196=>(some (.nxt (l196,s155))))
def w9 (k:Nat)(i80:Nat)(x81:ElectStep)(s62:List Bool)(s67:Election) : Option (Oc ((List Bool) × Election) (Election × (List Bool) × Bool)) :=
  ((qcy s67).bind fun v116=>((qda k v116 x81).bind fun v136=>((if v136.2=true then (some v136.1) else (some s67)).bind
  (fun s206=>qbm s62 v136 s206))))
def qbs (s208:List Bool)(s213:Election)  : Option (Election × (List Bool) × Bool):=((qcy s213).bind fun v233=>(some (v233,s208,true)))
def k7 (k:Nat)(logs_0:List (List Int))(l_1:List ElectStep) : Option (Election × (List Bool) × Bool):=((wh logs_0).bind fun v5=>(if
  ((!v5.2)||(decide ((80:Int)<(List.length l_1:Int))))=true then (some ((Election.mk [] [] []),[],
  false)) else (jn (kc (fun i80 x81 s207=>w9 k i80 x81 s207.1 s207.2) l_1 (([],
  v5.1) : (List Bool) × Election)) (fun s255=>qbs s255.1 s255.2))))

def qa6 (b_1:List Bool)(i2:Nat)(x3:Bool) : Option (Oc Unit Bool):=((zr b_1 (i2:Int)).bind fun x24=>(if (!(x3 == x24))=true then (some
  (.ret false)) else (some (.nxt ()))))
def qfa  : Option Bool:=(some true)
def qa8 (a_0:List Bool)(b_1:List Bool) : Option Bool:=(if (decide ((List.length a_0:Int)≠(List.length b_1:Int)))=true then (some false) else (jn (kc
  (fun i2 x3 _=>qa6 b_1 i2 x3 ) a_0 ()) (fun _=>qfa )))

def qbk (b_1:List Int)(i2:Nat)(x3:Int) : Option (Oc Unit Bool):=((zr b_1 (i2:Int)).bind fun x24=>(if (decide (x3≠x24))=true then (some
  (.ret false)) else (some (.nxt ()))))
def qfo  : Option Bool:=(some true)
def qah (a_0:List Int)(b_1:List Int) : Option Bool:=(if (decide ((List.length a_0:Int)≠(List.length b_1:Int)))=true then (some false) else (jn (kc
  (fun i2 x3 _=>qbk b_1 i2 x3 ) a_0 ()) (fun _=>qfo )))

def ww (v_0:Election)(v_1:Election)(i32:Nat) : Option (Oc Unit Bool):=((zr v_0.Servers (i32:Int)).bind fun x54=>((zr v_1.Servers
  (i32:Int)).bind fun x65=>((if ((((decide (x54.Term≠x65.Term))||(decide (x54.Voted≠x65.Voted)))||(!(x54.Stands == x65.Stands))) ||
  (!(x54.Leads == x65.Leads)))=true then (some true) else ((qah x54.Got x65.Got).bind fun v118=>(some (!v118)))).bind fun v118=>((if v118=true then
  (some true) else ((qah x54.Log x65.Log).bind fun v139=>(some (!v139)))).bind fun v139=>(if v139=true then (some (.ret false)) else (some (.nxt ())))))))
def wm (v_0:Election)(v_1:Election)(i166:Nat) : Option (Oc Unit Bool):=((zr v_0.Post (i166:Int)).bind fun x188=>((zr v_1.Post
  (i166:Int)).bind fun x191=>(if (!((x188.To == x191.To)&&((x188.From == x191.From)&&((x188.Term == x191.Term)&&((x188.Asks == x191.Asks) &&
  ((x188.Last == x191.Last)&&((x188.Long == x191.Long)&&((x188.Grant == x191.Grant)&&true))))))))=true then (some (.ret false)) else (some (.nxt ())))))
def ws (v_0:Election)(v_1:Election)(i205:Nat) : Option (Oc Unit Bool):=((zr v_0.Led (i205:Int)).bind fun x227=>((zr v_1.Led
  (i205:Int)).bind fun x230=>(if (!((x227.Term == x230.Term)&&((x227.Leader == x230.Leader)&&true)))=true then (some (.ret false)) else (some (.nxt ())))))
def qdn  : Option Bool:=(some true)
def qa7 (v_0:Election)(v_1:Election)  : Option Bool:=(jn (x4 (fun i205 _=>ws v_0 v_1 i205 ) (List.length v_0.Led:Int) ())
  (fun _=>qdn ))
def qbh (v_0:Election)(v_1:Election)  : Option Bool:=(jn (x4 (fun i166 _=>wm v_0 v_1 i166 ) (List.length v_0.Post:Int) ())
  (fun _=>qa7 v_0 v_1 ))
def xx (v_0:Election)(v_1:Election) : Option Bool:=(if (((decide ((List.length v_0.Servers:Int)≠(List.length v_1.Servers:Int)))||(decide
  ((List.length v_0.Post:Int)≠(List.length v_1.Post:Int))))||(decide ((List.length v_0.Led:Int)≠(List.length v_1.Led:Int))))=true then (some false) else (jn
  (x4 (fun i32 _=>ww v_0 v_1 i32 ) (List.length v_0.Servers:Int) ()) (fun _=>qbh v_0 v_1 )))

def qa4 (e_0:Election) : Option Bool:=((kt e_0).bind fun v7=>(some v7))

def ue (v_0:Vote)(cap_0:Int) : Bool:=(decide (v_0.Term=cap_0))

def qak (e_0:Election)(term_1:Int) : Option (Int × Bool):=((yn e_0.Led (fun a0=>some (ue a0 term_1))).bind fun v13 =>
  ((kt e_0).bind fun v16=>(if ((!v16)||(decide (v13<0)))=true then (some (0,false)) else ((zr e_0.Led v13).bind fun x29=>(some (x29.Leader,true))))))

def qat (x20:Server)(i25:Nat)(x26:Server)(s24:Int) : Option (Oc Int (Bool × Bool)):=((xv x20.Log).bind fun v57=>((qag v57
  (List.length x20.Log:Int) x26.Log).bind fun v60=>(if v60=true then (some (.nxt (IntKind.wrap .i64 (s24+1)))) else (some (.nxt s24)))))
def qdv (e_0:Election)(s67:Int)  : Option (Bool × Bool):=(some ((decide ((List.length e_0.Servers:Int)<(IntKind.wrap .i64 ((2:Int)*s67)))),true))
def qcl (e_0:Election)(server_1:Int) : Option (Bool × Bool):=((kt e_0).bind fun v7=>(if ((!v7)||(!(zk server_1 0 (IntKind.wrap .i64
  ((List.length e_0.Servers:Int) - 1)))))=true then (some (false,
  false)) else ((zr e_0.Servers server_1).bind fun x20=>(jn (kc (fun i25 x26 s66=>qat x20 i25 x26 s66) e_0.Servers 0)
  (fun s75=>qdv e_0 s75)))))

def xm (x147:Vote)(l160:List Vote)(i167:Nat) : Option (Oc Unit (Oc Unit Bool)):=((zr l160 (i167:Int)).bind fun x193=>(if (decide
  (x193.Term=x147.Term))=true then (some (.ret (.ret false))) else (some (.nxt ()))))
def qb3 (v18:Election × (List Bool) × Bool)(x147:Vote)  : Option (Oc Unit Bool):=((qak v18.1 x147.Term).bind fun v223 =>
  ((qcl v18.1 x147.Leader).bind fun v226=>((if ((((!v223.2)||(decide (v223.1≠x147.Leader)))||(!v226.2))||(!v226.1))=true then (some true) else
  ((zr v18.1.Servers v223.1).bind fun x274=>(some (decide (x274.Term<x147.Term))))).bind fun v274=>(if v274=true then (some (.ret false)) else (some (.nxt ()))))))
def xl (v18:Election × (List Bool) × Bool)(i125:Nat) : Option (Oc Unit Bool):=((zr v18.1.Led (i125:Int)).bind fun x147=>((sl v18.1.Led 0
  (i125:Int)).bind fun l160=>(jn (x4 (fun i167 _=>xm x147 l160 i167 ) (List.length l160:Int) ()) (fun _=>qb3 v18 x147 ))))
def xk (v18:Election × (List Bool) × Bool)(i325:Nat)(s322:List Server) : Option (Oc (List Server) Bool):=((zr s322 (i325:Int)).bind fun x347 =>
  ((qak (Election.mk s322 v18.1.Post v18.1.Led) x347.Term).bind fun v379=>(if (x347.Leads&&((!v379.2)||(decide (v379.1≠(i325:Int)))))=true then (some
  (.ret false)) else (some (.nxt s322)))))
def qd9 (s415:List Server)  : Option Bool:=(some true)
def qb5 (v18:Election × (List Bool) × Bool)  : Option Bool:=(jn (x4 (fun i325 s414=>xk v18 i325 s414)
  (List.length v18.1.Servers:Int) v18.1.Servers) (fun s423=>qd9 s423))
def uy (k:Nat)(v_0:List Int) : Option Bool:=(if (decide ((1048576:Int)<(List.length v_0:Int)))=true then (some true) else
  ((wz k v_0).bind fun v2=>((k8 k v2.1 v2.2).bind fun v18=>((k7 k v2.1 v2.2).bind fun v50=>((if
  (!(v18.2.2 == v50.2.2))=true then (some true) else ((qa8 v18.2.1 v50.2.1).bind fun v85=>(some (!v85)))).bind fun v85=>((if v85=true then (some true) else
  ((xx v18.1 v50.1).bind fun v104=>(some (!v104)))).bind fun v104=>(if v104=true then (some false) else (if (!v18.2.2)=true then (some (decide
  ((List.length v18.2.1:Int)=0))) else ((qa4 v18.1).bind fun v121=>(if (!v121)=true then (some false) else (jn (x4
  (fun i125 _=>xl v18 i125 ) (List.length v18.1.Led:Int) ()) (fun _=>qb5 v18 ))))))))))))
end Go.Proofs.Ytpddolihbnfahaa.X
