/- The seat's types and functions, as plain Lean has them. -/
import Derived.Test.YtpddolihbnfahaaZIns
set_option linter.unusedVariables false
set_option linter.unusedSimpArgs false
set_option maxRecDepth 100000
namespace Go.Proofs.Ytpddolihbnfahaa.X
open Go
open Nat (reduceEqDiff)
structure BoundsError where
 x:Int
 y:Int
 signed:Bool
 code:Int
 deriving DecidableEq,Inhabited
def qyf (x:BoundsError) : List XV:=[.int .i64 x.x,.int .i64 x.y,.bool x.signed,.int .u8 x.code]
structure Server where
 Term:Int
 Voted:Int
 Stands:Bool
 Leads:Bool
 Got:List Int
 Log:List Int
 deriving DecidableEq,Inhabited
def qi (x:Server) : List XV:=[.int .i64 x.Term,.int .i64 x.Voted,.bool x.Stands,.bool x.Leads,lst cI x.Got,lst cI x.Log]
structure Letter where
 To:Int
 From:Int
 Term:Int
 Asks:Bool
 Last:Int
 Long:Int
 Grant:Bool
 deriving DecidableEq,Inhabited
def qe (x:Letter) : List XV:=[.int .i64 x.To,.int .i64 x.From,.int .i64 x.Term,.bool x.Asks,.int .i64 x.Last,.int .i64 x.Long,.bool x.Grant]
structure Vote where
 Term:Int
 Leader:Int
 deriving DecidableEq,Inhabited
def ql (x:Vote) : List XV:=[.int .i64 x.Term,.int .i64 x.Leader]
structure Election where
 Servers:List Server
 Post:List Letter
 Led:List Vote
 deriving DecidableEq,Inhabited
def q7r (x:Election) : List XV:=[lst qi x.Servers,lst qe x.Post,lst ql x.Led]
structure Vote48 where
 Kind:Int
 K:Int
 deriving DecidableEq,Inhabited
def q9i (x:Vote48) : List XV:=[.int .i64 x.Kind,.int .i64 x.K]
structure ElectStep where
 Term:Int
 Leader:Int
 deriving DecidableEq,Inhabited
def kj (x:ElectStep) : List XV:=[.int .i64 x.Term,.int .i64 x.Leader]
structure L1Cur where
 code:List Int
 at_:Int
 seed:Int
 deriving DecidableEq,Inhabited
def zag (x:L1Cur) : List XV:=[lst cU8 x.code,.int .i64 x.at_,.int .u64 x.seed]

def qco (s_0:List Int)(i_1:Int)(v_2:List Int) : Option (List Int × List Int):=qly s_0 i_1 v_2

def qc2 (b_1:List Int)(i2:Nat)(x3:Int) : Option (Oc Unit Bool):=((z8 b_1 (i2:Int)).bind fun x24=>(if (decide (x3≠x24))=true then (some
  (.ret false)) else (some (.nxt ()))))
def qhe  : Option Bool:=(some true)
def qar (a_0:List Int)(b_1:List Int) : Option Bool:=(if (decide ((List.length a_0:Int)≠(List.length b_1:Int)))=true then (some false) else (jn (ki
  (fun i2 x3 _=>qc2 b_1 i2 x3 ) a_0 ()) (fun _=>qhe )))

def xv (v_0:Election)(v_1:Election)(i32:Nat) : Option (Oc Unit Bool):=((z8 v_0.Servers (i32:Int)).bind fun x54=>((z8 v_1.Servers
  (i32:Int)).bind fun x65=>((if ((((decide (x54.Term≠x65.Term))||(decide (x54.Voted≠x65.Voted)))||(!(x54.Stands == x65.Stands))) ||
  (!(x54.Leads == x65.Leads)))=true then (some true) else ((qar x54.Got x65.Got).bind fun v118=>(some (!v118)))).bind fun v118=>((if v118=true then
  (some true) else ((qar x54.Log x65.Log).bind fun v139=>(some (!v139)))).bind fun v139=>(if v139=true then (some (.ret false)) else (some (.nxt ())))))))
def xz (v_0:Election)(v_1:Election)(i166:Nat) : Option (Oc Unit Bool):=((z8 v_0.Post (i166:Int)).bind fun x188=>((z8 v_1.Post
  (i166:Int)).bind fun x191=>(if (!((x188.To == x191.To)&&((x188.From == x191.From)&&((x188.Term == x191.Term)&&((x188.Asks == x191.Asks) &&
  ((x188.Last == x191.Last)&&((x188.Long == x191.Long)&&((x188.Grant == x191.Grant)&&true))))))))=true then (some (.ret false)) else (some (.nxt ())))))
def xy (v_0:Election)(v_1:Election)(i205:Nat) : Option (Oc Unit Bool):=((z8 v_0.Led (i205:Int)).bind fun x227=>((z8 v_1.Led
  (i205:Int)).bind fun x230=>(if (!((x227.Term == x230.Term)&&((x227.Leader == x230.Leader)&&true)))=true then (some (.ret false)) else (some (.nxt ())))))
def qe6  : Option Bool:=(some true)
def qcr (v_0:Election)(v_1:Election)  : Option Bool:=(jn (qbg (fun i205 _=>xy v_0 v_1 i205 ) (List.length v_0.Led:Int) ())
  (fun _=>qe6 ))
def qcz (v_0:Election)(v_1:Election)  : Option Bool:=(jn (qbg (fun i166 _=>xz v_0 v_1 i166 ) (List.length v_0.Post:Int) ())
  (fun _=>qcr v_0 v_1 ))
def xw (v_0:Election)(v_1:Election) : Option Bool:=(if (((decide ((List.length v_0.Servers:Int)≠(List.length v_1.Servers:Int)))||(decide
  ((List.length v_0.Post:Int)≠(List.length v_1.Post:Int))))||(decide ((List.length v_0.Led:Int)≠(List.length v_1.Led:Int))))=true then (some false) else (jn
  (qbg (fun i32 _=>xv v_0 v_1 i32 ) (List.length v_0.Servers:Int) ()) (fun _=>qcz v_0 v_1 )))

def zt (n_0:Int)(low_1:Int)(high_2:Int) : Bool:=((decide (low_1≤n_0))&&(decide (n_0≤high_2)))

def qb6 (l_0:List Int)(i1:Nat)(x2:Int) : Option (Oc Unit Bool):=((if (!(zt x2 0 100))=true then (some true) else ((if (decide ((0:Int) <
  (i1:Int)))=true then ((z8 l_0 (IntKind.wrap .i64 ((i1:Int) - 1))).bind fun x29=>(some (decide (x2<x29)))) else (some false)).bind fun v29 =>
  (some v29))).bind fun v26=>(if v26=true then (some (.ret false)) else (some (.nxt ()))))
def qgi (l_0:List Int)  : Option Bool:=(some (decide ((List.length l_0:Int)≤30)))
def w9 (l_0:List Int) : Option Bool:=(jn (ki (fun i1 x2 _=>qb6 l_0 i1 x2 ) l_0 ()) (fun _=>qgi l_0 ))

def qbz (list_0:List Int)(many_1:Int)(i1:Nat)(x2:Int) : Option (Oc Unit Bool):=((if (!(zt x2 0 (IntKind.wrap .i64 (many_1 - 1))))=true then
  (some true) else ((if (decide ((0:Int)<(i1:Int)))=true then ((z8 list_0 (IntKind.wrap .i64 ((i1:Int) - 1))).bind fun x30=>(some (decide (x2≤x30)))) else
  (some false)).bind fun v30=>(some v30))).bind fun v27=>(if v27=true then (some (.ret false)) else (some (.nxt ()))))
def qgk  : Option Bool:=(some true)
def qb9 (list_0:List Int)(many_1:Int) : Option Bool:=(jn (ki (fun i1 x2 _=>qbz list_0 many_1 i1 x2 ) list_0 ())
  (fun _=>qgk ))

def ya (f_1:Vote→Option Bool)(i1:Nat)(x2:Vote) : Option (Oc Unit Int):=((f_1 x2).bind fun v23=>(if v23=true then (some (.ret
  (i1:Int))) else (some (.nxt ()))))
def qd8  : Option Int:=(some (-1))
def wm (s_0:List Vote)(f_1:Vote→Option Bool) : Option Int:=(jn (ki (fun i1 x2 _=>ya f_1 i1 x2 ) s_0 ())
  (fun _=>qd8 ))

def ug (s_0:List Vote)(f_1:Vote→Option Bool) : Option Bool:=((wm s_0 f_1).bind fun v1=>(some (decide ((0:Int)≤v1))))

def ul (v_0:Vote)(cap_0:Int) : Bool:=((!(zt v_0.Term 0 100))||(!(zt v_0.Leader 0 (IntKind.wrap .i64 (cap_0 - 1)))))

def qcb (v_0:Election)(i34:Nat)(x35:Server) : Option (Oc Unit Bool):=((if (((!(zt x35.Term 0 100))||(!(zt x35.Voted (-1) (IntKind.wrap .i64
  ((List.length v_0.Servers:Int) - 1)))))||(x35.Stands&&x35.Leads))=true then (some true) else ((qb9 x35.Got
  (List.length v_0.Servers:Int)).bind fun v108=>(some (!v108)))).bind fun v108=>((if (v108||(((!x35.Stands)&&(!x35.Leads))&&(decide ((0:Int) <
  (List.length x35.Got:Int)))))=true then (some true) else ((w9 x35.Log).bind fun v170=>(some (!v170)))).bind fun v170=>(if v170=true then (some
  (.ret false)) else (some (.nxt ())))))
def qb1 (v_0:Election)(i199:Nat)(x200:Letter) : Option (Oc Unit Bool):=(if (!(zt x200.To 0 (IntKind.wrap .i64
  ((List.length v_0.Servers:Int) - 1))))=true then (some (.ret false)) else (if ((!(zt x200.From 0 (IntKind.wrap .i64 ((List.length v_0.Servers:Int) - 1)))) ||
  (decide (x200.To=x200.From)))=true then (some (.ret false)) else ((z8 v_0.Servers x200.From).bind fun x251=>(if (!(zt x200.Term 0 x251.Term))=true then (some
  (.ret false)) else (if ((x200.Asks&&((x200.Grant||(!(zt x200.Last (-1) 100)))||(!(zt x200.Long 0 30))))||((!x200.Asks)&&((decide (x200.Last≠0)) ||
  (decide (x200.Long≠0)))))=true then (some (.ret false)) else (some (.nxt ())))))))
def qd3 (v_0:Election)  : Option Bool:=((ug v_0.Led (fun a0=>some (ul a0
  (List.length v_0.Servers:Int)))).bind fun v350=>(some (!v350)))
def qdt (v_0:Election)  : Option Bool:=(jn (ki (fun i199 x200 _=>qb1 v_0 i199 x200 ) v_0.Post ()) (fun _=>qd3 v_0 ))
def k9 (v_0:Election) : Option Bool:=(if (((!(zt (List.length v_0.Servers:Int) 1 5))||(decide ((20:Int)<(List.length v_0.Post:Int))))||(decide
  ((80:Int)<(List.length v_0.Led:Int))))=true then (some false) else (jn (ki (fun i34 x35 _=>qcb v_0 i34 x35 ) v_0.Servers ())
  (fun _=>qdt v_0 )))

def w5 (e_0:Election) : Option Bool:=((k9 e_0).bind fun v7=>(some v7))

def qae (v_0:Vote)(cap_0:Int) : Bool:=(decide (v_0.Term=cap_0))

def qbs (e_0:Election)(term_1:Int) : Option (Int × Bool):=((wm e_0.Led (fun a0=>some (qae a0 term_1))).bind fun v13 =>
  ((k9 e_0).bind fun v16=>(if ((!v16)||(decide (v13<0)))=true then (some (0,false)) else ((z8 e_0.Led v13).bind fun x29=>(some (x29.Leader,true))))))

def uc (l_0:List Int) : Option Int:=(if (decide ((List.length l_0:Int)=0))=true then (some (-1)) else ((z8 l_0 (IntKind.wrap .i64
  ((List.length l_0:Int) - 1))).bind fun x2=>(some x2)))

def qap (last_0:Int)(long_1:Int)(b_2:List Int) : Option Bool:=((uc b_2).bind fun v1=>((if (decide (v1<last_0))=true then (some true) else
  ((uc b_2).bind fun v7=>(some ((decide (last_0=v7))&&(decide ((List.length b_2:Int)≤long_1)))))).bind fun v7=>(some v7)))

def qb0 (x20:Server)(i25:Nat)(x26:Server)(s24:Int) : Option (Oc Int (Bool × Bool)):=((uc x20.Log).bind fun v57=>((qap v57
  (List.length x20.Log:Int) x26.Log).bind fun v60=>(if v60=true then (some (.nxt (IntKind.wrap .i64 (s24+1)))) else (some (.nxt s24)))))
def qfh (e_0:Election)(s67:Int)  : Option (Bool × Bool):=(some ((decide ((List.length e_0.Servers:Int)<(IntKind.wrap .i64 ((2:Int)*s67)))),true))
def qac (e_0:Election)(server_1:Int) : Option (Bool × Bool):=((k9 e_0).bind fun v7=>(if ((!v7)||(!(zt server_1 0 (IntKind.wrap .i64
  ((List.length e_0.Servers:Int) - 1)))))=true then (some (false,
  false)) else ((z8 e_0.Servers server_1).bind fun x20=>(jn (ki (fun i25 x26 s66=>qb0 x20 i25 x26 s66) e_0.Servers 0)
  (fun s75=>qfh e_0 s75)))))

def qe9 (c_0:L1Cur)(s1:Int)  : Option (Int × L1Cur):=(if (decide ((IntKind.wrap .i64 (c_0.at_+1))≤(List.length c_0.code:Int)))=true then (some (s1,
  (L1Cur.mk c_0.code (IntKind.wrap .i64 (c_0.at_+1)) (IntKind.wrap .u64 ((IntKind.wrap .u64 ((IntKind.wrap .u64 (c_0.seed*6364136223846793005)) +
  (IntKind.wrap .u64 s1)))+1442695040888963407))))) else (some ((IntKind.wrap .i64 (qmb .u64 (qi1 .u64 (IntKind.wrap .u64 ((IntKind.wrap .u64 ((IntKind.wrap .u64
  (c_0.seed*6364136223846793005))+(IntKind.wrap .u64 s1)))+1442695040888963407)) 40) 255)),
  (L1Cur.mk c_0.code (IntKind.wrap .i64 (c_0.at_+1)) (IntKind.wrap .u64 ((IntKind.wrap .u64 ((IntKind.wrap .u64 (c_0.seed*6364136223846793005)) +
  (IntKind.wrap .u64 s1)))+1442695040888963407))))))
def qe5 (c_0:L1Cur) : Option (Int × L1Cur):=((if (decide (c_0.at_<(List.length c_0.code:Int)))=true then ((z8 c_0.code c_0.at_).bind fun x10=>(some
  (IntKind.wrap .i64 x10))) else (some 0)).bind (fun s25=>qe9 c_0 s25))

def kx (c_0:L1Cur)(n_1:Int) : Option (Int × L1Cur):=(if (decide (n_1≤1))=true then (some (0,
  c_0)) else ((qe5 c_0).bind fun v2=>(if (decide ((200:Int)<n_1))=true then ((qe5 v2.2).bind fun v8=>(ck (n_1≠0) (some ((Int.tmod (IntKind.wrap .i64
  ((IntKind.wrap .i64 (v2.1*256))+v8.1)) n_1),v8.2)))) else (ck (n_1≠0) (some ((Int.tmod v2.1 n_1),v2.2))))))

def qcf (c_0:L1Cur)(n_1:Int) : Option (Bool × L1Cur):=((kx c_0 n_1).bind fun v1=>(some ((decide (v1.1=0)),v1.2)))

def qb2 (c_0:L1Cur)(list_1:List Int) : Option (Int × L1Cur × (List Int)):=((kx c_0 (List.length list_1:Int)).bind fun v1 =>
  ((z8 list_1 v1.1).bind fun x6=>(some (x6,v1.2,list_1))))

def qb4 (s42:List ElectStep)(s47:Int)(s100:L1Cur)(s101:ElectStep)  : Option (Oc ((List ElectStep) × Int × L1Cur) ((List ElectStep) × L1Cur)) :=
  ((kd 16 s42 [s101]).bind fun l138=>(some (.nxt (l138,(IntKind.wrap .i64 (s47 - 1)),s100))))
def wo (s42:List ElectStep)(s47:Int)(s48:L1Cur) : Option (Oc ((List ElectStep) × Int × L1Cur) ((List ElectStep) × L1Cur)):=(if (decide
  ((0:Int)<s47))=true then ((qb2 s48 [1,2,2,2,2,2,3,
  4]).bind fun v77=>((kx v77.2.1 5).bind fun v84=>((qcf v84.2 30).bind fun v95=>((if v95.1=true then ((kx v95.2 7).bind fun v111 =>
  ((kx v111.2 8).bind fun v116=>(some (v116.2,(ElectStep.mk v111.1 (IntKind.wrap .i64 (v116.1 - 1))))))) else (some (v95.2,
  (ElectStep.mk v77.1 v84.1)))).bind (fun s148=>qb4 s42 s47 s148.1 s148.2))))) else (some (.brk (s42,s47,s48))))
def qgn (s151:List ElectStep)(s156:Int)(s157:L1Cur)  : Option ((List ElectStep) × L1Cur):=(some (s151,s157))
def qby (k:Nat)(s11:Int)(s12:L1Cur)  : Option ((List ElectStep) × L1Cur):=(jn (w7 (fun s150=>wo s150.1 s150.2.1 s150.2.2) k (([],
  s11,s12) : (List ElectStep) × Int × L1Cur)) (fun s164=>qgn s164.1 s164.2.1 s164.2.2))
def qag (k:Nat)(c_0:L1Cur) : Option ((List ElectStep) × L1Cur):=((kx c_0 30).bind fun v1=>((qcf v1.2 12).bind fun v6=>((if v6.1=true then
  ((kx v6.2 12).bind fun v22=>(some ((IntKind.wrap .i64 ((70:Int)+v22.1)),v22.2))) else (some (v1.1,
  v6.2))).bind (fun s165=>qby k s165.1 s165.2))))

def jd (n_0:Int)(lo_1:Int)(hi_2:Int) : Bool:=((decide (lo_1≤n_0))&&(decide (n_0≤hi_2)))

def wt (l_0:List Int) : Option Int:=(if (decide ((List.length l_0:Int)=0))=true then (some (-1)) else ((z8 l_0 (IntKind.wrap .i64
  ((List.length l_0:Int) - 1))).bind fun x2=>(some x2)))

def qbp (l_0:List Int)(i1:Nat)(x2:Int) : Option (Oc Unit Bool):=((if (!(jd x2 0 100))=true then (some true) else ((if (decide ((0:Int) <
  (i1:Int)))=true then ((z8 l_0 (IntKind.wrap .i64 ((i1:Int) - 1))).bind fun x29=>(some (decide (x2<x29)))) else (some false)).bind fun v29 =>
  (some v29))).bind fun v26=>(if v26=true then (some (.ret false)) else (some (.nxt ()))))
def qfz (l_0:List Int)  : Option Bool:=(some (decide ((List.length l_0:Int)≤30)))
def ye (l_0:List Int) : Option Bool:=(jn (ki (fun i1 x2 _=>qbp l_0 i1 x2 ) l_0 ()) (fun _=>qfz l_0 ))

def ur (i19:Nat)(x20:List Int)(s14:Election) : Option (Oc Election (Election × Bool)):=((ye x20).bind fun v43=>((if (!v43)=true then
  (some true) else ((wt x20).bind fun v49=>(some (decide ((10:Int)<v49))))).bind fun v49=>(if v49=true then (some (.ret ((Election.mk [] [] []),
  false))) else ((kd 8 ([] : List Int) x20).bind fun l81=>((kd 72 s14.Servers ([(Server.mk 10 (-1) false false [] l81)])).bind fun l98=>(some (.nxt
  (Election.mk l98 [] []))))))))
def uw (logs_0:List (List Int))(s111:Election)  : Option (Election × Bool):=(if (!(jd (List.length logs_0:Int) 1 5))=true then (some
  ((Election.mk [] [] []),false)) else (some ((Election.mk s111.Servers [] []),true)))
def k6 (logs_0:List (List Int)) : Option (Election × Bool):=(jn (ki (fun i19 x20 s110=>ur i19 x20 s110) logs_0 (Election.mk [] [] []))
  (fun s128=>uw logs_0 s128))

def jp (e_0:Election)(k_1:Int) : Bool:=((decide ((0:Int)≤k_1))&&(decide (k_1<(List.length e_0.Servers:Int))))

def qdi (e_0:Election)(k_1:Int) : Option Election:=((z8 e_0.Servers k_1).bind fun x9=>(if (x9.Stands&&(decide ((List.length e_0.Servers:Int) <
  (IntKind.wrap .i64 ((2:Int)*(List.length x9.Got:Int))))))=true then ((kd 16 e_0.Led [(Vote.mk x9.Term k_1)]).bind fun l61=>(some (Election.mk
  (List.set e_0.Servers k_1.toNat (Server.mk x9.Term x9.Voted false true x9.Got x9.Log)) e_0.Post l61))) else (some e_0)))

def qaw (v_0:Election)(v_1:Int)(x9:Server)(i92:Nat)(s87:Election) : Option (Oc Election (Election × Bool)):=(if (decide
  ((i92:Int)≠v_1))=true then ((wt x9.Log).bind fun v117=>((kd 56 s87.Post [(Letter.mk (i92:Int) v_1 (IntKind.wrap .i64 (x9.Term+1)) true v117
  (List.length x9.Log:Int) false)]).bind fun l127=>(some (.nxt (Election.mk v_0.Servers l127 v_0.Led))))) else (some (.nxt (Election.mk v_0.Servers s87.Post v_0.Led))))
def qek (v_0:Election)(v_1:Int)(x9:Server)(s141:Election)  : Option (Election × Bool):=((qdi (Election.mk (List.set v_0.Servers v_1.toNat
  (Server.mk (IntKind.wrap .i64 (x9.Term+1)) v_1 true x9.Leads [v_1] x9.Log)) s141.Post v_0.Led) v_1).bind fun v158=>(some (v158,true)))
def qcs (v_0:Election)(v_1:Int) : Option (Election × Bool):=((z8 v_0.Servers v_1).bind fun x9=>(if ((x9.Leads||(decide (x9.Term=100)))||(decide
  ((20:Int)<(IntKind.wrap .i64 ((IntKind.wrap .i64 ((List.length v_0.Post:Int)+(List.length v_0.Servers:Int))) - 1)))))=true then (some (v_0,
  false)) else (jn (qbg (fun i92 s140=>qaw v_0 v_1 x9 i92 s140) (List.length v_0.Servers:Int) v_0) (fun s173=>qek v_0 v_1 x9 s173))))

def qe0 (last_0:Int)(long_1:Int)(l_2:List Int) : Option Bool:=((wt l_2).bind fun v1=>((if (decide (v1<last_0))=true then (some true) else
  ((wt l_2).bind fun v7=>(some ((decide (last_0=v7))&&(decide ((List.length l_2:Int)≤long_1)))))).bind fun v7=>(some v7)))

def qeu (l_0:List Int)(n_1:Int)(s2:Int) : Option (Oc Int (List Int)):=((if (decide (s2<(List.length l_0:Int)))=true then ((z8 l_0 s2).bind fun x27 =>
  (some (decide (x27<n_1)))) else (some false)).bind fun v27=>(if v27=true then (some (.nxt (IntKind.wrap .i64 (s2+1)))) else (some (.brk s2))))
def qgv (l_0:List Int)(n_1:Int)(s48:Int)  : Option (List Int):=((if (decide (s48<(List.length l_0:Int)))=true then ((z8 l_0 s48).bind fun x58=>(some
  (decide (x58=n_1)))) else (some false)).bind fun v58=>(if v58=true then (some l_0) else ((sl l_0 0 s48).bind fun l76=>((kd 8 ([] : List Int) l76).bind fun l83 =>
  ((kd 8 l83 [n_1]).bind fun l98=>((sl l_0 s48 (List.length l_0)).bind fun l107=>((kd 8 l98 l107).bind fun l114=>(some l114))))))))
def qd9 (k:Nat)(l_0:List Int)(n_1:Int) : Option (List Int):=(jn (w7 (fun s47=>qeu l_0 n_1 s47) k 0) (fun s123=>qgv l_0 n_1 s123))

def qim (v_0:Election)(s153:Election)(s158:List Server)  : Option Election:=(some (Election.mk s158 s153.Post v_0.Led))
def qeh (v_0:Election)(v_1:Letter)(x15:Server)(s41:Server)(v100:Bool)(s128:Server)  : Option Election:=((if (decide
  ((List.length v_0.Post:Int)<20))=true then ((kd 56 v_0.Post [(Letter.mk v_1.From v_1.To s128.Term false 0 0 v100)]).bind fun l176=>(some ((Election.mk
  (List.set v_0.Servers v_1.To.toNat (Server.mk s128.Term s128.Voted s128.Stands s128.Leads s41.Got x15.Log)) l176 v_0.Led),
  (List.set v_0.Servers v_1.To.toNat (Server.mk s128.Term s128.Voted s128.Stands s128.Leads s41.Got x15.Log))))) else (some ((Election.mk (List.set v_0.Servers v_1.To.toNat
  (Server.mk s128.Term s128.Voted s128.Stands s128.Leads s41.Got x15.Log)) v_0.Post v_0.Led),
  (List.set v_0.Servers v_1.To.toNat (Server.mk s128.Term s128.Voted s128.Stands s128.Leads s41.Got x15.Log))))).bind (fun s206=>qim v_0 s206.1 s206.2))
def qef (v_0:Election)(v_1:Letter)(x15:Server)(s230:Server)  : Option Election:=((qdi (Election.mk (List.set v_0.Servers v_1.To.toNat
  (Server.mk s230.Term s230.Voted s230.Stands s230.Leads s230.Got x15.Log)) v_0.Post v_0.Led) v_1.To).bind fun v272=>(some v272))
def qf6 (k:Nat)(v_0:Election)(v_1:Letter)(x15:Server)(s41:Server)  : Option Election:=(if v_1.Asks=true then ((if ((decide (v_1.Term=s41.Term)) &&
  ((decide (s41.Voted=(-1)))||(decide (s41.Voted=v_1.From))))=true then ((qe0 v_1.Last v_1.Long x15.Log).bind fun v100=>(some v100)) else
  (some false)).bind fun v100=>((if (v100&&(decide ((List.length v_0.Post:Int)<20)))=true then (some
  (Server.mk s41.Term v_1.From s41.Stands s41.Leads s41.Got x15.Log)) else (some (Server.mk s41.Term s41.Voted s41.Stands s41.Leads s41.Got x15.Log))).bind
  (fun s207=>qeh v_0 v_1 x15 s41 v100 s207))) else ((if ((v_1.Grant&&(decide (v_1.Term=s41.Term)))&&s41.Stands)=true then
  ((qd9 k s41.Got v_1.From).bind fun v243=>(some (Server.mk s41.Term s41.Voted s41.Stands s41.Leads v243 x15.Log))) else (some
  (Server.mk s41.Term s41.Voted s41.Stands s41.Leads s41.Got x15.Log))).bind (fun s287=>qef v_0 v_1 x15 s287)))
def qel (k:Nat)(v_0:Election)(v_1:Letter) : Option Election:=((z8 v_0.Servers v_1.To).bind fun x15=>((if (decide (x15.Term<v_1.Term))=true then (some
  (Server.mk v_1.Term (-1) false false [] x15.Log)) else (some x15)).bind (fun s288=>qf6 k v_0 v_1 x15 s288)))

def qdh (k:Nat)(v_0:Election)(v_1:ElectStep) : Option (Election × Bool):=(if ((decide (v_1.Term=1))||(decide (v_1.Term=5)))=true then (if
  (!(jp v_0 v_1.Leader))=true then (some (v_0,false)) else (if (decide (v_1.Term=1))=true then ((qcs v_0 v_1.Leader).bind fun v30=>(some (v30.1,
  v30.2))) else ((z8 v_0.Servers v_1.Leader).bind fun x47=>(some ((Election.mk (List.set v_0.Servers v_1.Leader.toNat
  (Server.mk x47.Term x47.Voted false false [] x47.Log)) v_0.Post v_0.Led),
  true))))) else (if (((!(jd v_1.Term 2 4))||(decide (v_1.Leader<0)))||(decide ((List.length v_0.Post:Int)≤v_1.Leader)))=true then (some (v_0,
  false)) else ((z8 v_0.Post v_1.Leader).bind fun kp=>(if (decide (v_1.Term=4))=true then (if (decide ((List.length v_0.Post:Int)=20))=true then (some (v_0,
  false)) else ((kd 56 v_0.Post [kp]).bind fun l136=>(some ((Election.mk v_0.Servers l136 v_0.Led),
  true)))) else ((sl v_0.Post 0 v_1.Leader).bind fun l156=>((kd 56 ([] : List Letter) l156).bind fun l163=>((sl v_0.Post (IntKind.wrap .i64 (v_1.Leader+1))
  (List.length v_0.Post)).bind fun l174=>((kd 56 l163 l174).bind fun l181=>(if (decide (v_1.Term=2))=true then ((qel k
  (Election.mk v_0.Servers l181 v_0.Led) kp).bind fun v193=>(some (v193,true))) else (some ((Election.mk v_0.Servers l181 v_0.Led),true)))))))))))

def qbu (l28:List Letter)(l38:List Vote)(i59:Nat)(x60:Server)(s54:Election) : Option (Oc Election Election):=((kd 8
  ([] : List Int) x60.Got).bind fun l94=>((kd 8 ([] : List Int) x60.Log).bind fun l111 =>
  ((kd 72 s54.Servers [(Server.mk x60.Term x60.Voted x60.Stands x60.Leads l94 l111)]).bind fun l128=>(some (.nxt (Election.mk l128 l28 l38))))))
def qi7 (l28:List Letter)(l38:List Vote)(s141:Election)  : Option Election:=(some (Election.mk s141.Servers l28 l38))
def qce (e_0:Election) : Option Election:=((kd 56 ([] : List Letter) e_0.Post).bind fun l28=>((kd 16 ([] : List Vote) e_0.Led).bind fun l38=>(jn (ki
  (fun i59 x60 s140=>qbu l28 l38 i59 x60 s140) e_0.Servers (Election.mk [] l28 l38)) (fun s154=>qi7 l28 l38 s154))))

def qc3 (s62:List Bool)(v136:Election × Bool)(s155:Election)  : Option (Oc ((List Bool) × Election) (Election × (List Bool) × Bool)) :=
  ((kd 1 s62 [v136.2]).bind fun l196=>(some (.nxt (l196,s155))))
def uk (k:Nat)(i80:Nat)(x81:ElectStep)(s62:List Bool)(s67:Election) : Option (Oc ((List Bool) × Election) (Election × (List Bool) × Bool)) :=
  ((qce s67).bind fun v116=>((qdh k v116 x81).bind fun v136=>((if v136.2=true then (some v136.1) else (some s67)).bind
  (fun s206=>qc3 s62 v136 s206))))
def qc5 (s208:List Bool)(s213:Election)  : Option (Election × (List Bool) × Bool):=((qce s213).bind fun v233=>(some (v233,s208,true)))
def yo (k:Nat)(logs_0:List (List Int))(l_1:List ElectStep) : Option (Election × (List Bool) × Bool):=((k6 logs_0).bind fun v5=>(if
  ((!v5.2)||(decide ((80:Int)<(List.length l_1:Int))))=true then (some ((Election.mk [] [] []),[],
  false)) else (jn (ki (fun i80 x81 s207=>uk k i80 x81 s207.1 s207.2) l_1 (([],
  v5.1) : (List Bool) × Election)) (fun s255=>qc5 s255.1 s255.2))))

def qaf (s49:List Int)(s54:Int)(s55:Int)(s56:L1Cur) : Option (Oc ((List Int) × Int × Int × L1Cur) ((List Int) × L1Cur)):=(if (decide
  ((0:Int)<s55))=true then ((kd 8 s49 [s54]).bind fun l86=>((qb2 s56 [0,0,0,1,2]).bind fun v101=>(some (.nxt (l86,(IntKind.wrap .i64 (s54+v101.1)),
  (IntKind.wrap .i64 (s55 - 1)),v101.2.1))))) else (some (.brk (s49,s54,s55,s56))))
def qdm (s111:List Int)(s126:Bool)(s127:L1Cur)  : Option ((List Int) × L1Cur):=(if s126=true then ((kx s127
  (List.length s111:Int)).bind fun v151=>((qb2 v151.2 [(-1),0,100,
  101]).bind fun v162=>((z8 s111 v151.1).bind fun x169=>(some ((List.set s111 v151.1.toNat v162.1),v162.2.1))))) else (some (s111,s127)))
def qdn (s111:List Int)(s116:Int)(s117:Int)(s118:L1Cur)  : Option ((List Int) × L1Cur):=((if (decide ((0:Int)<(List.length s111:Int)))=true then
  ((qcf s118 20).bind fun v137=>(some (v137.1,v137.2))) else (some (false,s118))).bind (fun s179=>qdm s111 s179.1 s179.2))
def qdk (k:Nat)(v1:Int × L1Cur)(s16:Int)(s17:L1Cur)  : Option ((List Int) × L1Cur):=(jn (w7
  (fun s110=>qaf s110.1 s110.2.1 s110.2.2.1 s110.2.2.2) k (([],v1.1,s16,
  s17) : (List Int) × Int × Int × L1Cur)) (fun s180=>qdn s180.1 s180.2.1 s180.2.2.1 s180.2.2.2))
def qbe (k:Nat)(c_0:L1Cur) : Option ((List Int) × L1Cur):=((kx c_0 3).bind fun v1=>((kx v1.2 10).bind fun v6 =>
  ((qcf v6.2 20).bind fun v11=>((if v11.1=true then ((kx v11.2 2).bind fun v27=>(some ((IntKind.wrap .i64 ((30:Int)+v27.1)),v27.2))) else (some (v6.1,
  v11.2))).bind (fun s181=>qdk k v1 s181.1 s181.2)))))

def qde (s13:List (List Int))(s18:Int)(v42:(List Int) × L1Cur)(s73:List Int)  : Option (Oc ((List (List Int)) × Int × L1Cur) ((List (List Int)) × L1Cur)) :=
  ((kd 24 s13 [s73]).bind fun l107=>(some (.nxt (l107,(IntKind.wrap .i64 (s18 - 1)),v42.2))))
def qan (k:Nat)(s13:List (List Int))(s18:Int)(s19:L1Cur) : Option (Oc ((List (List Int)) × Int × L1Cur) ((List (List Int)) × L1Cur)):=(if (decide
  ((0:Int)<s18))=true then ((qbe k s19).bind fun v42=>((ye v42.1).bind fun v51=>((if (!v51)=true then (some true) else
  ((wt v42.1).bind fun v57=>(some (decide ((10:Int)<v57))))).bind fun v57=>((if v57=true then (some [1,
  2]) else (some v42.1)).bind (fun s117=>qde s13 s18 v42 s117))))) else (some (.brk (s13,s18,s19))))
def qdd (s120:List (List Int))(s125:Int)(s126:L1Cur)  : Option ((List (List Int)) × L1Cur):=((qcf s126 30).bind fun v133=>(if v133.1=true then
  ((z8 s120 (0:Int)).bind fun x145=>(some ((List.set s120 (0:Int).toNat [11]),v133.2))) else (some (s120,v133.2))))
def qc8 (k:Nat)(c_0:L1Cur) : Option ((List (List Int)) × L1Cur):=((kx c_0 5).bind fun v1=>(jn (w7
  (fun s119=>qan k s119.1 s119.2.1 s119.2.2) k (([],(IntKind.wrap .i64 ((1:Int)+v1.1)),
  v1.2) : (List (List Int)) × Int × L1Cur)) (fun s170=>qdd s170.1 s170.2.1 s170.2.2)))

def qc4 (v42:(List (List Int)) × L1Cur)(s81:Election)  : Option (Election × L1Cur):=((kx v42.2 30).bind fun v150=>(if (decide
  (v150.1=0))=true then ((qb2 v150.2 [(-1),100,
  101]).bind fun v163=>((z8 s81.Servers (0:Int)).bind fun x170=>(some ((Election.mk (List.set s81.Servers (0:Int).toNat
  (Server.mk v163.1 x170.Voted x170.Stands x170.Leads x170.Got x170.Log)) s81.Post s81.Led),
  v163.2.1)))) else (if (decide (v150.1=1))=true then ((kx v150.2 8).bind fun v202=>((z8 s81.Servers (0:Int)).bind fun x207=>(some ((Election.mk
  (List.set s81.Servers (0:Int).toNat (Server.mk x207.Term (IntKind.wrap .i64 (v202.1 - 2)) x207.Stands x207.Leads x207.Got x207.Log)) s81.Post s81.Led),
  v202.2)))) else (if (decide (v150.1=2))=true then ((z8 s81.Servers (0:Int)).bind fun x239=>(some ((Election.mk (List.set s81.Servers (0:Int).toNat
  (Server.mk x239.Term x239.Voted x239.Stands true x239.Got x239.Log)) s81.Post s81.Led),v150.2))) else (some (s81,v150.2))))))
def qc1 (k:Nat)(v5:(List ElectStep) × L1Cur)(s14:List ElectStep)  : Option (Election × L1Cur):=((qc8 k v5.2).bind fun v42 =>
  ((yo k v42.1 s14).bind fun v51=>((if (!v51.2.2)=true then ((k6 ([[1],
  [2]])).bind fun v120=>(some v120.1)) else (some v51.1)).bind (fun s272=>qc4 v42 s272))))
def qas (k:Nat)(c_0:L1Cur) : Option (Election × L1Cur):=((qag k c_0).bind fun v5=>((if (decide ((80:Int)<(List.length v5.1:Int)))=true then
  ((sl v5.1 0 80).bind fun l27=>(some l27)) else (some v5.1)).bind (fun s273=>qc1 k v5 s273)))

def xx (k:Nat)(code_0:List Int) : Option (Election × ElectStep):=((qas k (L1Cur.mk code_0 0 0)).bind fun v13 =>
  ((qag k v13.2).bind fun v38=>(if (decide ((List.length v38.1:Int)=0))=true then (some (v13.1,
  (ElectStep.mk 1 0))) else ((z8 v38.1 (0:Int)).bind fun x52=>(some (v13.1,x52))))))

def qa9 (l28:List Letter)(l38:List Vote)(i59:Nat)(x60:Server)(s54:Election) : Option (Oc Election Election):=((kd 8
  ([] : List Int) x60.Got).bind fun l94=>((kd 8 ([] : List Int) x60.Log).bind fun l111 =>
  ((kd 72 s54.Servers [(Server.mk x60.Term x60.Voted x60.Stands x60.Leads l94 l111)]).bind fun l128=>(some (.nxt (Election.mk l128 l28 l38))))))
def qfs (l28:List Letter)(l38:List Vote)(s141:Election)  : Option Election:=(some (Election.mk s141.Servers l28 l38))
def qau (e_0:Election) : Option Election:=((kd 56 ([] : List Letter) e_0.Post).bind fun l28=>((kd 16 ([] : List Vote) e_0.Led).bind fun l38=>(jn (ki
  (fun i59 x60 s140=>qa9 l28 l38 i59 x60 s140) e_0.Servers (Election.mk [] l28 l38)) (fun s154=>qfs l28 l38 s154))))

def xq (e_0:Election)(k_1:Int) : Option Election:=((z8 e_0.Servers k_1).bind fun x1=>(if (x1.Stands&&(decide ((List.length e_0.Servers:Int) <
  (IntKind.wrap .i64 ((2:Int)*(List.length x1.Got:Int))))))=true then ((kd 16 e_0.Led [(Vote.mk x1.Term k_1)]).bind fun l47=>(some (Election.mk
  (List.set e_0.Servers k_1.toNat (Server.mk x1.Term x1.Voted false true x1.Got x1.Log)) e_0.Post l47))) else (some e_0)))

def xg (v_0:Election)(v_1:Int)(i89:Nat)(s81:Election)(s86:List Server) : Option (Oc (Election × (List Server)) (Bool × Election)):=(if (decide
  ((i89:Int)≠v_1))=true then ((z8 s86 v_1).bind fun kp=>((uc kp.Log).bind fun v131=>((kd 56 s81.Post [(Letter.mk (i89:Int) v_1 kp.Term true v131
  (List.length kp.Log:Int) false)]).bind fun l140=>(some (.nxt ((Election.mk s86 l140 v_0.Led),s86)))))) else (some (.nxt ((Election.mk s86 s81.Post v_0.Led),s86))))
def qcm (v_0:Election)(v_1:Int)(s158:Election)(s163:List Server)  : Option (Bool × Election):=((xq
  (Election.mk s163 s158.Post v_0.Led) v_1).bind fun v172=>(some (true,v172)))
def uu (v_0:Election)(v_1:Int) : Option (Bool × Election):=((z8 v_0.Servers v_1).bind fun x1=>(if ((x1.Leads||(decide (x1.Term=100)))||(decide
  ((20:Int)<(IntKind.wrap .i64 ((IntKind.wrap .i64 ((List.length v_0.Post:Int)+(List.length v_0.Servers:Int))) - 1)))))=true then (some (false,
  v_0)) else (jn (qbg (fun i89 s157=>xg v_0 v_1 i89 s157.1 s157.2) (List.length v_0.Servers:Int) ((Election.mk (List.set v_0.Servers v_1.toNat
  (Server.mk (IntKind.wrap .i64 (x1.Term+1)) v_1 true x1.Leads [v_1] x1.Log)) v_0.Post v_0.Led),
  (List.set v_0.Servers v_1.toNat (Server.mk (IntKind.wrap .i64 (x1.Term+1)) v_1 true x1.Leads [v_1] x1.Log)))) (fun s185=>qcm v_0 v_1 s185.1 s185.2))))

def qa7 (s_0:List Letter)(i_1:Int)(j_2:Int) : Option (List Letter):=qnx s_0 i_1 j_2

def yq (x_0:Int) : Bool:=(decide (x_0≠x_0))

def qct (x_0:Int)(y_1:Int) : Bool:=(((yq x_0)&&(!(yq y_1)))||(decide (x_0<y_1)))

def ws (x_0:Int) : Bool:=(decide (x_0≠x_0))

def we (x_0:List Int)(target_1:Int)(s3:Int)(s4:Int) : Option (Oc (Int × Int) (Int × Bool)):=(if (decide (s3<s4))=true then ((z8 x_0
  (IntKind.wrap .i64 (qi1 .u64 (IntKind.wrap .u64 (IntKind.wrap .i64 (s3+s4))) 1))).bind fun x29=>(if (qct x29 target_1)=true then (some (.nxt
  ((IntKind.wrap .i64 ((IntKind.wrap .i64 (qi1 .u64 (IntKind.wrap .u64 (IntKind.wrap .i64 (s3+s4))) 1))+1)),s4))) else (some (.nxt (s3,
  (IntKind.wrap .i64 (qi1 .u64 (IntKind.wrap .u64 (IntKind.wrap .i64 (s3+s4))) 1))))))) else (some (.brk (s3,s4))))
def qat (x_0:List Int)(target_1:Int)(s37:Int)(s38:Int)  : Option (Int × Bool):=((if (decide (s37<(List.length x_0:Int)))=true then
  ((z8 x_0 s37).bind fun x50=>((if (decide (x50=target_1))=true then (some true) else ((z8 x_0 s37).bind fun x56=>(some ((ws x56) &&
  (ws target_1))))).bind fun v56=>(some v56))) else (some false)).bind fun v50=>(some (s37,v50)))
def y8 (k:Nat)(x_0:List Int)(target_1:Int) : Option (Int × Bool):=(jn (w7 (fun s36=>we x_0 target_1 s36.1 s36.2) k (0,
  (List.length x_0:Int))) (fun s90=>qat x_0 target_1 s90.1 s90.2))

def qah (v_0:Election)(v_1:Letter)(v115:Bool)(s122:List Server)  : Option Election:=((z8 s122 v_1.To).bind fun x166 =>
  ((kd 56 v_0.Post [(Letter.mk v_1.From v_1.To x166.Term false 0 0 v115)]).bind fun l190=>(some (Election.mk s122 l190 v_0.Led))))
def qcy (k:Nat)(v_0:Election)(v_1:Letter)(s31:List Server)  : Option Election:=(if v_1.Asks=true then ((z8 s31 v_1.To).bind fun x75=>(if
  ((decide (v_1.Term=x75.Term))&&((decide (x75.Voted=(-1)))||(decide (x75.Voted=v_1.From))))=true then ((qap v_1.Last v_1.Long x75.Log).bind fun v115 =>
  ((if v115=true then (some (List.set s31 v_1.To.toNat (Server.mk x75.Term v_1.From x75.Stands x75.Leads x75.Got x75.Log))) else (some s31)).bind
  (fun s205=>qah v_0 v_1 v115 s205))) else ((kd 56 v_0.Post [(Letter.mk v_1.From v_1.To x75.Term false 0 0 false)]).bind fun l213=>(some
  (Election.mk s31 l213 v_0.Led))))) else ((if v_1.Grant=true then ((z8 s31 v_1.To).bind fun x231=>(some (decide (v_1.Term=x231.Term)))) else
  (some false)).bind fun v231=>((if v231=true then ((z8 s31 v_1.To).bind fun x264=>(some x264.Stands)) else (some false)).bind fun v264=>(if v264=true then
  ((z8 s31 v_1.To).bind fun x295=>((y8 k x295.Got v_1.From).bind fun v313=>(if (!v313.2)=true then
  ((qco x295.Got v313.1 [v_1.From]).bind fun v324=>((xq (Election.mk (List.set s31 v_1.To.toNat
  (Server.mk x295.Term x295.Voted x295.Stands x295.Leads v324.1 x295.Log)) v_0.Post v_0.Led) v_1.To).bind fun v344=>(some v344))) else ((xq
  (Election.mk s31 v_0.Post v_0.Led) v_1.To).bind fun v361=>(some v361))))) else (some (Election.mk s31 v_0.Post v_0.Led))))))
def qab (k:Nat)(v_0:Election)(v_1:Letter) : Option Election:=((z8 v_0.Servers v_1.To).bind fun x7=>((if (decide (x7.Term<v_1.Term))=true then
  (some (List.set v_0.Servers v_1.To.toNat (Server.mk v_1.Term (-1) false false [] x7.Log))) else (some v_0.Servers)).bind (fun s374=>qcy k v_0 v_1 s374)))

def kz (k:Nat)(v_0:Election)(v_1:ElectStep)(v17:Election)(s146:Bool)  : Option (Oc (Bool × Election × (List Server)) (Election × Bool)) :=
  (if s146=true then (if (!(zt v_1.Leader 0 (IntKind.wrap .i64 ((List.length v_0.Post:Int) - 1))))=true then (some (.ret ((Election.mk [] [] []),
  false))) else ((z8 v_0.Post v_1.Leader).bind fun x173=>(if (decide (v_1.Term=4))=true then ((kd 56 v17.Post [x173]).bind fun l191=>(some (.nxt ((decide
  ((List.length v_0.Post:Int)<20)),(Election.mk v17.Servers l191 v17.Led),
  v17.Servers)))) else ((qa7 v17.Post v_1.Leader (IntKind.wrap .i64 (v_1.Leader+1))).bind fun v203=>(if (decide (v_1.Term=2))=true then
  ((qab k (Election.mk v17.Servers v203 v17.Led) x173).bind fun v215=>(some (.nxt (true,v215,v215.Servers)))) else (some (.nxt (true,
  (Election.mk v17.Servers v203 v17.Led),v17.Servers)))))))) else (some (.nxt (false,v17,v17.Servers))))
def yc (k:Nat)(v_0:Election)(v_1:ElectStep)(v17:Election)(s63:Bool)  : Option (Oc (Bool × Election × (List Server)) (Election × Bool)) :=
  (if s63=true then (if (!(zt v_1.Leader 0 (IntKind.wrap .i64 ((List.length v_0.Servers:Int) - 1))))=true then (some (.ret ((Election.mk [] [] []),
  false))) else ((z8 v17.Servers v_1.Leader).bind fun x89=>(if (decide (v_1.Term=5))=true then (some (.ret ((Election.mk (List.set v17.Servers v_1.Leader.toNat
  (Server.mk x89.Term x89.Voted false false [] x89.Log)) v17.Post v17.Led),true))) else ((uu v17 v_1.Leader).bind fun v130=>(some (.nxt (v130.1,v130.2,
  v130.2.Servers))))))) else ((if (decide (v_1.Term=2))=true then (some (decide (v_1.Term=2))) else (if (decide (v_1.Term=3))=true then (some (decide
  (v_1.Term=3))) else (some (decide (v_1.Term=4))))).bind (fun s233=>kz k v_0 v_1 v17 s233)))
def wl (s43:Bool)(s44:Election)(s53:List Server)  : Option (Election × Bool):=((if (!s43)=true then (some true) else ((k9
  (Election.mk s53 s44.Post s44.Led)).bind fun v244=>(some (!v244)))).bind fun v244=>(if v244=true then (some ((Election.mk [] [] []),
  false)) else (some ((Election.mk s53 s44.Post s44.Led),true))))
def u9 (k:Nat)(v_0:Election)(v_1:ElectStep) : Option (Election × Bool):=((qau v_0).bind fun v17=>(jn ((if (decide
  (v_1.Term=1))=true then (some (decide (v_1.Term=1))) else (some (decide (v_1.Term=5)))).bind (fun s234=>yc k v_0 v_1 v17 s234))
  (fun s263=>wl s263.1 s263.2.1 s263.2.2)))

def qax (k:Nat)(e_0:Election)(x_1:ElectStep) : Option (Election × Bool):=((k9 e_0).bind fun v17=>(if (!v17)=true then (some
  ((Election.mk [] [] []),false)) else ((u9 k e_0 x_1).bind fun v23=>(some (v23.1,v23.2)))))

def qdo (l_0:List Int)(many_1:Int)(i1:Nat)(x2:Int) : Option (Oc Unit Bool):=((if ((decide (x2<0))||(decide (many_1≤x2)))=true then
  (some true) else ((if (decide ((0:Int)<(i1:Int)))=true then ((z8 l_0 (IntKind.wrap .i64 ((i1:Int) - 1))).bind fun x44=>(some (decide (x2≤x44)))) else
  (some false)).bind fun v44=>(some v44))).bind fun v41=>(if v41=true then (some (.ret false)) else (some (.nxt ()))))
def qhx  : Option Bool:=(some true)
def qdw (l_0:List Int)(many_1:Int) : Option Bool:=(jn (ki (fun i1 x2 _=>qdo l_0 many_1 i1 x2 ) l_0 ()) (fun _=>qhx ))

def qes (e_0:Election)(s_1:Server) : Option Bool:=((if (((!(jd s_1.Term 0 100))||((decide (s_1.Voted≠(-1)))&&(!(jp e_0 s_1.Voted)))) ||
  (s_1.Stands&&s_1.Leads))=true then (some true) else ((ye s_1.Log).bind fun v54=>(some (!v54)))).bind fun v54=>(if v54=true then (some false) else (if
  ((!s_1.Stands)&&(!s_1.Leads))=true then (some (decide ((List.length s_1.Got:Int)=0))) else ((qdw s_1.Got (List.length e_0.Servers:Int)).bind fun v79 =>
  (some v79)))))

def qeq (e_0:Election)(m_1:Letter) : Option Bool:=(if (!(jp e_0 m_1.To))=true then (some false) else (if ((!(jp e_0 m_1.From))||(decide
  (m_1.To=m_1.From)))=true then (some false) else ((z8 e_0.Servers m_1.From).bind fun x24=>(if (!(jd m_1.Term 0 x24.Term))=true then (some false) else
  (if m_1.Asks=true then (some (((!m_1.Grant)&&(jd m_1.Last (-1) 100))&&(jd m_1.Long 0 30))) else (some ((decide (m_1.Last=0))&&(decide
  (m_1.Long=0)))))))))

def qba (v_0:Election)(i7:Nat)(x8:Server) : Option (Oc Unit Bool):=((qes v_0 x8).bind fun v37=>(if (!v37)=true then (some
  (.ret false)) else (some (.nxt ()))))
def qa6 (v_0:Election)(i51:Nat)(x52:Letter) : Option (Oc Unit Bool):=((qeq v_0 x52).bind fun v81=>(if (!v81)=true then (some
  (.ret false)) else (some (.nxt ()))))
def qa8 (v_0:Election)(i95:Nat)(x96:Vote) : Option (Oc Unit Bool):=(if ((!(jd x96.Term 0 100))||(!(jp v_0 x96.Leader)))=true then
  (some (.ret false)) else (some (.nxt ())))
def qfm (v_0:Election)  : Option Bool:=(some (((jd (List.length v_0.Servers:Int) 1 5)&&(decide ((List.length v_0.Post:Int)≤20)))&&(decide
  ((List.length v_0.Led:Int)≤80))))
def qda (v_0:Election)  : Option Bool:=(jn (ki (fun i95 x96 _=>qa8 v_0 i95 x96 ) v_0.Led ()) (fun _=>qfm v_0 ))
def qc6 (v_0:Election)  : Option Bool:=(jn (ki (fun i51 x52 _=>qa6 v_0 i51 x52 ) v_0.Post ()) (fun _=>qda v_0 ))
def yp (v_0:Election) : Option Bool:=(jn (ki (fun i7 x8 _=>qba v_0 i7 x8 ) v_0.Servers ()) (fun _=>qc6 v_0 ))

def qav (k:Nat)(e_0:Election)(x_1:ElectStep) : Option (Election × Bool):=((yp e_0).bind fun v17=>(if (!v17)=true then (some
  ((Election.mk [] [] []),false)) else ((qce e_0).bind fun v27=>((qdh k v27 x_1).bind fun v47=>((if (!v47.2)=true then (some true) else
  ((yp v47.1).bind fun v69=>(some (!v69)))).bind fun v69=>(if v69=true then (some ((Election.mk [] [] []),
  false)) else ((qce v47.1).bind fun v86=>(some (v86,true)))))))))

def qaz (k:Nat)(code_0:List Int) : Option (Election × Int):=((qas k (L1Cur.mk code_0 0 0)).bind fun v9=>((kx v9.2 6).bind fun v26=>(some
  (v9.1,(IntKind.wrap .i64 ((10:Int)+v26.1))))))

def yg (term_1:Int)(i11:Nat)(x12:Vote) : Option (Oc Unit (Int × Bool)):=(if (decide (x12.Term=term_1))=true then (some (.ret (x12.Leader,
  true))) else (some (.nxt ())))
def qey  : Option (Int × Bool):=(some (0,false))
def qdf (e_0:Election)(term_1:Int) : Option (Int × Bool):=((yp e_0).bind fun v7=>(if (!v7)=true then (some (0,
  false)) else (jn (ki (fun i11 x12 _=>yg term_1 i11 x12 ) e_0.Led ()) (fun _=>qey ))))

def qbl (k:Nat)(code_0:List Int) : Option (Election × Int):=((qas k (L1Cur.mk code_0 0 0)).bind fun v9=>((kx v9.2 (IntKind.wrap .i64
  ((List.length v9.1.Servers:Int)+1))).bind fun v34=>(some (v9.1,v34.1))))

def qb3 (e_0:Election)(server_1:Int)(i22:Nat)(x23:Server)(s21:Int) : Option (Oc Int (Bool × Bool)):=((z8 e_0.Servers server_1).bind fun x54 =>
  ((wt x54.Log).bind fun v57=>((z8 e_0.Servers server_1).bind fun x60=>((qe0 v57 (List.length x60.Log:Int) x23.Log).bind fun v63=>(if v63=true then
  (some (.nxt (IntKind.wrap .i64 (s21+1)))) else (some (.nxt s21)))))))
def qfj (e_0:Election)(s70:Int)  : Option (Bool × Bool):=(some ((decide ((List.length e_0.Servers:Int)<(IntKind.wrap .i64 ((2:Int)*s70)))),true))
def qbk (e_0:Election)(server_1:Int) : Option (Bool × Bool):=((yp e_0).bind fun v7=>(if ((!v7)||(!(jp e_0 server_1)))=true then
  (some (false,false)) else (jn (ki (fun i22 x23 s69=>qb3 e_0 server_1 i22 x23 s69) e_0.Servers 0) (fun s78=>qfj e_0 s78))))

def qad (s110:List Int)(s115:Int)(s116:Int)(s117:L1Cur) : Option (Oc ((List Int) × Int × Int × L1Cur) ((List Int) × (List Int) × L1Cur)):=(if ((decide
  ((0:Int)<s116))&&(decide ((List.length s110:Int)<30)))=true then ((kx s117 3).bind fun v154=>((kd 8 s110 [(IntKind.wrap .i64
  (s115+v154.1))]).bind fun l165=>(some (.nxt (l165,(IntKind.wrap .i64 (s115+v154.1)),(IntKind.wrap .i64 (s116 - 1)),v154.2))))) else (some (.brk (s110,s115,s116,
  s117))))
def qhu (v1:(List Int) × L1Cur)(s177:List Int)(s182:Int)(s183:Int)(s184:L1Cur)  : Option ((List Int) × (List Int) × L1Cur):=(some (v1.1,s177,s184))
def qb8 (k:Nat)(v1:(List Int) × L1Cur)(v53:Int × L1Cur)(l65:List Int)(s74:Int)  : Option ((List Int) × (List Int) × L1Cur) :=
  ((kx v53.2 5).bind fun v97=>(jn (w7 (fun s176=>qad s176.1 s176.2.1 s176.2.2.1 s176.2.2.2) k (l65,s74,v97.1,
  v97.2)) (fun s193=>qhu v1 s193.1 s193.2.1 s193.2.2.1 s193.2.2.2)))
def w8 (k:Nat)(v1:(List Int) × L1Cur)(s13:Bool)(s14:L1Cur)  : Option ((List Int) × (List Int) × L1Cur):=(if s13=true then
  ((qbe k s14).bind fun v38=>(some (v1.1,v38.1,
  v38.2))) else ((kx s14 (IntKind.wrap .i64 ((List.length v1.1:Int)+1))).bind fun v53=>((sl v1.1 0 v53.1).bind fun l58=>((kd 8
  ([] : List Int) l58).bind fun l65=>((if (decide ((0:Int)<(List.length l65:Int)))=true then ((z8 l65 (IntKind.wrap .i64
  ((List.length l65:Int) - 1))).bind fun x83=>(some x83)) else (some 0)).bind (fun s194=>qb8 k v1 v53 l65 s194))))))
def qd6 (k:Nat)(c_0:L1Cur) : Option ((List Int) × (List Int) × L1Cur):=((qbe k c_0).bind fun v1=>((ye v1.1).bind fun v10=>((if
  (!v10)=true then (some (true,v1.2)) else ((qcf v1.2 6).bind fun v25=>(some (v25.1,v25.2)))).bind (fun s195=>w8 k v1 s195.1 s195.2))))

def qdl (k:Nat)(code_0:List Int) : Option ((List Int) × (List Int)):=((qd6 k (L1Cur.mk code_0 0 0)).bind fun v5=>(some (v5.1,v5.2.1)))

def qa1 (k:Nat)(code_0:List Int) : Option ((List Int) × (List Int)):=((qdl k code_0).bind fun v1=>(some (v1.1,v1.2)))

def qao (a_0:List Int)(b_1:List Int) : Option (Bool × Bool):=((w9 a_0).bind fun v1=>((if (!v1)=true then (some true) else
  ((w9 b_1).bind fun v7=>(some (!v7)))).bind fun v7=>(if v7=true then (some (false,
  false)) else ((uc a_0).bind fun v22=>((qap v22 (List.length a_0:Int) b_1).bind fun v25=>(some (v25,true)))))))

def qdg (a_0:List Int)(b_1:List Int) : Option (Bool × Bool):=((ye a_0).bind fun v1=>((if (!v1)=true then (some true) else
  ((ye b_1).bind fun v7=>(some (!v7)))).bind fun v7=>(if v7=true then (some (false,
  false)) else ((wt a_0).bind fun v22=>((qe0 v22 (List.length a_0:Int) b_1).bind fun v25=>(some (v25,true)))))))

def uj (k:Nat)(code_0:List Int) : Option (List (List Int)):=((qc8 k (L1Cur.mk code_0 0 0)).bind fun v5=>(some v5.1))

def qbo (i24:Nat)(x25:List Int)(s19:Election) : Option (Oc Election (Election × Bool)):=((w9 x25).bind fun v47=>((if (!v47)=true then
  (some true) else ((uc x25).bind fun v53=>(some (decide ((10:Int)<v53))))).bind fun v53=>(if v53=true then (some (.ret ((Election.mk [] [] []),
  false))) else ((kd 8 ([] : List Int) x25).bind fun l84=>((kd 72 s19.Servers ([(Server.mk 10 (-1) false false [] l84)])).bind fun l101=>(some (.nxt
  (Election.mk l101 [] []))))))))
def qfx (s114:Election)  : Option (Election × Bool):=(some ((Election.mk s114.Servers [] []),true))
def uy (logs_0:List (List Int)) : Option (Election × Bool):=(if (!(zt (List.length logs_0:Int) 1 5))=true then (some ((Election.mk [] [] []),
  false)) else (jn (ki (fun i24 x25 s113=>qbo i24 x25 s113) logs_0 (Election.mk [] [] [])) (fun s127=>qfx s127)))

def qbh (logs_0:List (List Int)) : Option (Election × Bool):=((uy logs_0).bind fun v5=>(some (v5.1,v5.2)))

def uh (i126:Nat)(s120:List Server)(s123:List Server) : Option (Oc ((List Server) × (List Server)) (Oc Unit Bool)):=((z8 s120
  (i126:Int)).bind fun x150=>((z8 s123 (i126:Int)).bind fun x178=>((if ((decide (x178.Term<x150.Term))||(((decide (x178.Term=x150.Term))&&(decide
  (x150.Voted≠(-1))))&&(decide (x178.Voted≠x150.Voted))))=true then (some true) else ((qar x178.Log x150.Log).bind fun v256=>(some
  (!v256)))).bind fun v256=>(if v256=true then (some (.ret (.ret false))) else (some (.nxt (s120,s123)))))))
def qc0 (v2:Election × ElectStep)(v38:Election × Bool)(s289:List Server)(s292:List Server)  : Option (Oc Unit Bool):=((w5
  (Election.mk s292 v38.1.Post v38.1.Led)).bind fun v302=>(if ((!v302)||(decide ((List.length v38.1.Led:Int)<(List.length v2.1.Led:Int))))=true then (some
  (.ret false)) else (some (.nxt ()))))
def qa5 (k:Nat)(v_1:List Int)  : Option Bool:=((qaz k v_1).bind fun v322=>((qbs v322.1 v322.2).bind fun v350 =>
  ((qdf v322.1 v322.2).bind fun v353=>((qbl k v_1).bind fun v356=>((qac v356.1 v356.2).bind fun v384 =>
  ((qbk v356.1 v356.2).bind fun v387=>((qa1 k v_1).bind fun v390=>((qao v390.1 v390.2).bind fun v406 =>
  ((qdg v390.1 v390.2).bind fun v409=>((uj k v_1).bind fun v412=>((qbh v412).bind fun v424 =>
  ((k6 v412).bind fun v435=>((if (((((((!(v350.2 == v353.2))||(decide (v350.1≠v353.1)))||(!(v384.2 == v387.2)))||(!(v384.1 == v387.1))) ||
  (!(v406.2 == v409.2)))||(!(v406.1 == v409.1)))||(!(v424.2 == v435.2)))=true then (some true) else ((xw v424.1 v435.1).bind fun v567=>(some
  (!v567)))).bind fun v567=>(if v567=true then (some false) else (if v406.2=true then ((qao v390.2 v390.1).bind fun v585=>(some (v585.2 &&
  (v406.1||v585.1)))) else (some true))))))))))))))))
def qa0 (k:Nat)(v_0:List Int)(v_1:List Int) : Option Bool:=(if (decide ((1048576:Int)<(IntKind.wrap .i64 ((List.length v_0:Int) +
  (List.length v_1:Int)))))=true then (some true) else ((xx k v_0).bind fun v2=>((qax k v2.1 v2.2).bind fun v38 =>
  ((qav k v2.1 v2.2).bind fun v66=>(if (!(v38.2 == v66.2))=true then (some false) else ((xw v38.1 v66.1).bind fun v95=>(if
  (!v95)=true then (some false) else ((w5 v2.1).bind fun v99=>((yp v2.1).bind fun v102=>(if (!(v99 == v102))=true then (some false) else
  (jn (if v38.2=true then (jn (qbg (fun i126 s288=>uh i126 s288.1 s288.2) (List.length v2.1.Servers:Int) (v2.1.Servers,
  v38.1.Servers)) (fun s316=>qc0 v2 v38 s316.1 s316.2)) else (some (.nxt ()))) (fun _=>qa5 k v_1 ))))))))))))
end Go.Proofs.Ytpddolihbnfahaa.X
