/- The seat's types and functions, as plain Lean has them. -/
import Derived.Test.YtpddolihbnfahaaZIns
set_option linter.unusedVariables false
set_option linter.unusedSimpArgs false
set_option maxRecDepth 100000
namespace Go.Proofs.Ytpddolihbnfahaa.X
open Go
open Nat (reduceEqDiff)
structure BoundsError where
 x:Int
 y:Int
 signed:Bool
 code:Int
 deriving DecidableEq,Inhabited
def BoundsError.cells (x:BoundsError) : List XV:=[.int .i64 x.x,.int .i64 x.y,.bool x.signed,.int .u8 x.code]
structure Server where
 Term:Int
 Voted:Int
 Stands:Bool
 Leads:Bool
 Got:List Int
 Log:List Int
 deriving DecidableEq,Inhabited
def Server.cells (x:Server) : List XV:=[.int .i64 x.Term,.int .i64 x.Voted,.bool x.Stands,.bool x.Leads,lst cI x.Got,lst cI x.Log]
structure Letter where
 To:Int
 From:Int
 Term:Int
 Asks:Bool
 Last:Int
 Long:Int
 Grant:Bool
 deriving DecidableEq,Inhabited
def Letter.cells (x:Letter) : List XV:=[.int .i64 x.To,.int .i64 x.From,.int .i64 x.Term,.bool x.Asks,.int .i64 x.Last,.int .i64 x.Long,.bool x.Grant]
structure Vote where
 Term:Int
 Leader:Int
 deriving DecidableEq,Inhabited
def Vote.cells (x:Vote) : List XV:=[.int .i64 x.Term,.int .i64 x.Leader]
structure Election where
 Servers:List Server
 Post:List Letter
 Led:List Vote
 deriving DecidableEq,Inhabited
def Election.cells (x:Election) : List XV:=[lst Server.cells x.Servers,lst Letter.cells x.Post,lst Vote.cells x.Led]
structure Vote48 where
 Kind:Int
 K:Int
 deriving DecidableEq,Inhabited
def Vote48.cells (x:Vote48) : List XV:=[.int .i64 x.Kind,.int .i64 x.K]
structure ElectStep where
 Term:Int
 Leader:Int
 deriving DecidableEq,Inhabited
def ElectStep.cells (x:ElectStep) : List XV:=[.int .i64 x.Term,.int .i64 x.Leader]
structure L1Cur where
 code:List Int
 at_:Int
 seed:Int
 deriving DecidableEq,Inhabited
def L1Cur.cells (x:L1Cur) : List XV:=[lst cU8 x.code,.int .i64 x.at_,.int .u64 x.seed]

def qfc (s_0:List Int)(i_1:Int)(v_2:List Int) : Option (List Int × List Int):=qnz s_0 i_1 v_2

def qcb (b_1:List Int)(i2:Nat)(x3:Int) : Option (Oc Unit Bool):=((jb b_1 (i2:Int)).bind fun x24=>(if (decide (x3≠x24))=true then (some
  (.ret false)) else (some (.nxt ()))))
def qf3  : Option Bool:=(some true)
def qal (a_0:List Int)(b_1:List Int) : Option Bool:=(if (decide ((List.length a_0:Int)≠(List.length b_1:Int)))=true then (some false) else (jn (kr
  (fun i2 x3 _=>qcb b_1 i2 x3 ) a_0 ()) (fun _=>qf3 )))

def u3 (v_0:Election)(v_1:Election)(i32:Nat) : Option (Oc Unit Bool):=((jb v_0.Servers (i32:Int)).bind fun x54=>((jb v_1.Servers
  (i32:Int)).bind fun x65=>((if ((((decide (x54.Term≠x65.Term))||(decide (x54.Voted≠x65.Voted)))||(!(x54.Stands == x65.Stands))) ||
  (!(x54.Leads == x65.Leads)))=true then (some true) else ((qal x54.Got x65.Got).bind fun v118=>(some (!v118)))).bind fun v118=>((if v118=true then
  (some true) else ((qal x54.Log x65.Log).bind fun v139=>(some (!v139)))).bind fun v139=>(if v139=true then (some (.ret false)) else (some (.nxt ())))))))
def u7 (v_0:Election)(v_1:Election)(i166:Nat) : Option (Oc Unit Bool):=((jb v_0.Post (i166:Int)).bind fun x188=>((jb v_1.Post
  (i166:Int)).bind fun x191=>(if (!((x188.To == x191.To)&&((x188.From == x191.From)&&((x188.Term == x191.Term)&&((x188.Asks == x191.Asks) &&
  ((x188.Last == x191.Last)&&((x188.Long == x191.Long)&&((x188.Grant == x191.Grant)&&true))))))))=true then (some (.ret false)) else (some (.nxt ())))))
def u6 (v_0:Election)(v_1:Election)(i205:Nat) : Option (Oc Unit Bool):=((jb v_0.Led (i205:Int)).bind fun x227=>((jb v_1.Led
  (i205:Int)).bind fun x230=>(if (!((x227.Term == x230.Term)&&((x227.Leader == x230.Leader)&&true)))=true then (some (.ret false)) else (some (.nxt ())))))
def qch  : Option Bool:=(some true)
def qck (v_0:Election)(v_1:Election)  : Option Bool:=(jn (qan (fun i205 _=>u6 v_0 v_1 i205 ) (List.length v_0.Led:Int) ())
  (fun _=>qch ))
def qcp (v_0:Election)(v_1:Election)  : Option Bool:=(jn (qan (fun i166 _=>u7 v_0 v_1 i166 ) (List.length v_0.Post:Int) ())
  (fun _=>qck v_0 v_1 ))
def ul (v_0:Election)(v_1:Election) : Option Bool:=(if (((decide ((List.length v_0.Servers:Int)≠(List.length v_1.Servers:Int)))||(decide
  ((List.length v_0.Post:Int)≠(List.length v_1.Post:Int))))||(decide ((List.length v_0.Led:Int)≠(List.length v_1.Led:Int))))=true then (some false) else (jn
  (qan (fun i32 _=>u3 v_0 v_1 i32 ) (List.length v_0.Servers:Int) ()) (fun _=>qcp v_0 v_1 )))

def zy (n_0:Int)(low_1:Int)(high_2:Int) : Bool:=((decide (low_1≤n_0))&&(decide (n_0≤high_2)))

def qa4 (l_0:List Int)(i1:Nat)(x2:Int) : Option (Oc Unit Bool):=((if (!(zy x2 0 100))=true then (some true) else ((if (decide ((0:Int) <
  (i1:Int)))=true then ((jb l_0 (IntKind.wrap .i64 ((i1:Int) - 1))).bind fun x29=>(some (decide (x2<x29)))) else (some false)).bind fun v29 =>
  (some v29))).bind fun v26=>(if v26=true then (some (.ret false)) else (some (.nxt ()))))
def qet (l_0:List Int)  : Option Bool:=(some (decide ((List.length l_0:Int)≤30)))
def xb (l_0:List Int) : Option Bool:=(jn (kr (fun i1 x2 _=>qa4 l_0 i1 x2 ) l_0 ()) (fun _=>qet l_0 ))

def qaz (list_0:List Int)(many_1:Int)(i1:Nat)(x2:Int) : Option (Oc Unit Bool):=((if (!(zy x2 0 (IntKind.wrap .i64 (many_1 - 1))))=true then
  (some true) else ((if (decide ((0:Int)<(i1:Int)))=true then ((jb list_0 (IntKind.wrap .i64 ((i1:Int) - 1))).bind fun x30=>(some (decide (x2≤x30)))) else
  (some false)).bind fun v30=>(some v30))).bind fun v27=>(if v27=true then (some (.ret false)) else (some (.nxt ()))))
def qes  : Option Bool:=(some true)
def qdi (list_0:List Int)(many_1:Int) : Option Bool:=(jn (kr (fun i1 x2 _=>qaz list_0 many_1 i1 x2 ) list_0 ())
  (fun _=>qes ))

def x5 (f_1:Vote→Option Bool)(i1:Nat)(x2:Vote) : Option (Oc Unit Int):=((f_1 x2).bind fun v23=>(if v23=true then (some (.ret
  (i1:Int))) else (some (.nxt ()))))
def qa8  : Option Int:=(some (-1))
def xe (s_0:List Vote)(f_1:Vote→Option Bool) : Option Int:=(jn (kr (fun i1 x2 _=>x5 f_1 i1 x2 ) s_0 ())
  (fun _=>qa8 ))

def xw (s_0:List Vote)(f_1:Vote→Option Bool) : Option Bool:=((xe s_0 f_1).bind fun v1=>(some (decide ((0:Int)≤v1))))

def ux (v_0:Vote)(cap_0:Int) : Bool:=((!(zy v_0.Term 0 100))||(!(zy v_0.Leader 0 (IntKind.wrap .i64 (cap_0 - 1)))))

def qay (v_0:Election)(i34:Nat)(x35:Server) : Option (Oc Unit Bool):=((if (((!(zy x35.Term 0 100))||(!(zy x35.Voted (-1) (IntKind.wrap .i64
  ((List.length v_0.Servers:Int) - 1)))))||(x35.Stands&&x35.Leads))=true then (some true) else ((qdi x35.Got
  (List.length v_0.Servers:Int)).bind fun v108=>(some (!v108)))).bind fun v108=>((if (v108||(((!x35.Stands)&&(!x35.Leads))&&(decide ((0:Int) <
  (List.length x35.Got:Int)))))=true then (some true) else ((xb x35.Log).bind fun v170=>(some (!v170)))).bind fun v170=>(if v170=true then (some
  (.ret false)) else (some (.nxt ())))))
def qbd (v_0:Election)(i199:Nat)(x200:Letter) : Option (Oc Unit Bool):=(if (!(zy x200.To 0 (IntKind.wrap .i64
  ((List.length v_0.Servers:Int) - 1))))=true then (some (.ret false)) else (if ((!(zy x200.From 0 (IntKind.wrap .i64 ((List.length v_0.Servers:Int) - 1)))) ||
  (decide (x200.To=x200.From)))=true then (some (.ret false)) else ((jb v_0.Servers x200.From).bind fun x251=>(if (!(zy x200.Term 0 x251.Term))=true then (some
  (.ret false)) else (if ((x200.Asks&&((x200.Grant||(!(zy x200.Last (-1) 100)))||(!(zy x200.Long 0 30))))||((!x200.Asks)&&((decide (x200.Last≠0)) ||
  (decide (x200.Long≠0)))))=true then (some (.ret false)) else (some (.nxt ())))))))
def qer (v_0:Election)  : Option Bool:=((xw v_0.Led (fun a0=>some (ux a0
  (List.length v_0.Servers:Int)))).bind fun v350=>(some (!v350)))
def qeo (v_0:Election)  : Option Bool:=(jn (kr (fun i199 x200 _=>qbd v_0 i199 x200 ) v_0.Post ()) (fun _=>qer v_0 ))
def wt (v_0:Election) : Option Bool:=(if (((!(zy (List.length v_0.Servers:Int) 1 5))||(decide ((20:Int)<(List.length v_0.Post:Int))))||(decide
  ((80:Int)<(List.length v_0.Led:Int))))=true then (some false) else (jn (kr (fun i34 x35 _=>qay v_0 i34 x35 ) v_0.Servers ())
  (fun _=>qeo v_0 )))

def uz (e_0:Election) : Option Bool:=((wt e_0).bind fun v7=>(some v7))

def qat (v_0:Vote)(cap_0:Int) : Bool:=(decide (v_0.Term=cap_0))

def qe2 (e_0:Election)(term_1:Int) : Option (Int × Bool):=((xe e_0.Led (fun a0=>some (qat a0 term_1))).bind fun v13 =>
  ((wt e_0).bind fun v16=>(if ((!v16)||(decide (v13<0)))=true then (some (0,false)) else ((jb e_0.Led v13).bind fun x29=>(some (x29.Leader,true))))))

def xq (l_0:List Int) : Option Int:=(if (decide ((List.length l_0:Int)=0))=true then (some (-1)) else ((jb l_0 (IntKind.wrap .i64
  ((List.length l_0:Int) - 1))).bind fun x2=>(some x2)))

def qaj (last_0:Int)(long_1:Int)(b_2:List Int) : Option Bool:=((xq b_2).bind fun v1=>((if (decide (v1<last_0))=true then (some true) else
  ((xq b_2).bind fun v7=>(some ((decide (last_0=v7))&&(decide ((List.length b_2:Int)≤long_1)))))).bind fun v7=>(some v7)))

def qc5 (x20:Server)(i25:Nat)(x26:Server)(s24:Int) : Option (Oc Int (Bool × Bool)):=((xq x20.Log).bind fun v57=>((qaj v57
  (List.length x20.Log:Int) x26.Log).bind fun v60=>(if v60=true then (some (.nxt (IntKind.wrap .i64 (s24+1)))) else (some (.nxt s24)))))
def qge (e_0:Election)(s67:Int)  : Option (Bool × Bool):=(some ((decide ((List.length e_0.Servers:Int)<(IntKind.wrap .i64 ((2:Int)*s67)))),true))
def qfw (e_0:Election)(server_1:Int) : Option (Bool × Bool):=((wt e_0).bind fun v7=>(if ((!v7)||(!(zy server_1 0 (IntKind.wrap .i64
  ((List.length e_0.Servers:Int) - 1)))))=true then (some (false,
  false)) else ((jb e_0.Servers server_1).bind fun x20=>(jn (kr (fun i25 x26 s66=>qc5 x20 i25 x26 s66) e_0.Servers 0)
  (fun s75=>qge e_0 s75)))))

def qih (c_0:L1Cur)(s1:Int)  : Option (Int × L1Cur):=(if (decide ((IntKind.wrap .i64 (c_0.at_+1))≤(List.length c_0.code:Int)))=true then (some (s1,
  (L1Cur.mk c_0.code (IntKind.wrap .i64 (c_0.at_+1)) (IntKind.wrap .u64 ((IntKind.wrap .u64 ((IntKind.wrap .u64 (c_0.seed*6364136223846793005)) +
  (IntKind.wrap .u64 s1)))+1442695040888963407))))) else (some ((IntKind.wrap .i64 (qv9 .u64 (qkg .u64 (IntKind.wrap .u64 ((IntKind.wrap .u64 ((IntKind.wrap .u64
  (c_0.seed*6364136223846793005))+(IntKind.wrap .u64 s1)))+1442695040888963407)) 40) 255)),
  (L1Cur.mk c_0.code (IntKind.wrap .i64 (c_0.at_+1)) (IntKind.wrap .u64 ((IntKind.wrap .u64 ((IntKind.wrap .u64 (c_0.seed*6364136223846793005)) +
  (IntKind.wrap .u64 s1)))+1442695040888963407))))))
def qgb (c_0:L1Cur) : Option (Int × L1Cur):=((if (decide (c_0.at_<(List.length c_0.code:Int)))=true then ((jb c_0.code c_0.at_).bind fun x10=>(some
  (IntKind.wrap .i64 x10))) else (some 0)).bind (fun s25=>qih c_0 s25))

def kq (c_0:L1Cur)(n_1:Int) : Option (Int × L1Cur):=(if (decide (n_1≤1))=true then (some (0,
  c_0)) else ((qgb c_0).bind fun v2=>(if (decide ((200:Int)<n_1))=true then ((qgb v2.2).bind fun v8=>(ck (n_1≠0) (some ((Int.tmod (IntKind.wrap .i64
  ((IntKind.wrap .i64 (v2.1*256))+v8.1)) n_1),v8.2)))) else (ck (n_1≠0) (some ((Int.tmod v2.1 n_1),v2.2))))))

def qa5 (c_0:L1Cur)(n_1:Int) : Option (Bool × L1Cur):=((kq c_0 n_1).bind fun v1=>(some ((decide (v1.1=0)),v1.2)))

def qbo (c_0:L1Cur)(list_1:List Int) : Option (Int × L1Cur × (List Int)):=((kq c_0 (List.length list_1:Int)).bind fun v1 =>
  ((jb list_1 v1.1).bind fun x6=>(some (x6,v1.2,list_1))))

def qek (s42:List ElectStep)(s47:Int)(s100:L1Cur)(s101:ElectStep)  : Option (Oc ((List ElectStep) × Int × L1Cur) ((List ElectStep) × L1Cur)) :=
  ((yc 16 s42 [s101]).bind fun l138=>(some (.nxt (l138,(IntKind.wrap .i64 (s47 - 1)),s100))))
def qa9 (s42:List ElectStep)(s47:Int)(s48:L1Cur) : Option (Oc ((List ElectStep) × Int × L1Cur) ((List ElectStep) × L1Cur)):=(if (decide
  ((0:Int)<s47))=true then ((qbo s48 [1,2,2,2,2,2,3,
  4]).bind fun v77=>((kq v77.2.1 5).bind fun v84=>((qa5 v84.2 30).bind fun v95=>((if v95.1=true then ((kq v95.2 7).bind fun v111 =>
  ((kq v111.2 8).bind fun v116=>(some (v116.2,(ElectStep.mk v111.1 (IntKind.wrap .i64 (v116.1 - 1))))))) else (some (v95.2,
  (ElectStep.mk v77.1 v84.1)))).bind (fun s148=>qek s42 s47 s148.1 s148.2))))) else (some (.brk (s42,s47,s48))))
def qej (s151:List ElectStep)(s156:Int)(s157:L1Cur)  : Option ((List ElectStep) × L1Cur):=(some (s151,s157))
def qen (k:Nat)(s11:Int)(s12:L1Cur)  : Option ((List ElectStep) × L1Cur):=(jn (uy (fun s150=>qa9 s150.1 s150.2.1 s150.2.2) k (([],
  s11,s12) : (List ElectStep) × Int × L1Cur)) (fun s164=>qej s164.1 s164.2.1 s164.2.2))
def qau (k:Nat)(c_0:L1Cur) : Option ((List ElectStep) × L1Cur):=((kq c_0 30).bind fun v1=>((qa5 v1.2 12).bind fun v6=>((if v6.1=true then
  ((kq v6.2 12).bind fun v22=>(some ((IntKind.wrap .i64 ((70:Int)+v22.1)),v22.2))) else (some (v1.1,
  v6.2))).bind (fun s165=>qen k s165.1 s165.2))))

def jh (n_0:Int)(lo_1:Int)(hi_2:Int) : Bool:=((decide (lo_1≤n_0))&&(decide (n_0≤hi_2)))

def w7 (l_0:List Int) : Option Int:=(if (decide ((List.length l_0:Int)=0))=true then (some (-1)) else ((jb l_0 (IntKind.wrap .i64
  ((List.length l_0:Int) - 1))).bind fun x2=>(some x2)))

def qas (l_0:List Int)(i1:Nat)(x2:Int) : Option (Oc Unit Bool):=((if (!(jh x2 0 100))=true then (some true) else ((if (decide ((0:Int) <
  (i1:Int)))=true then ((jb l_0 (IntKind.wrap .i64 ((i1:Int) - 1))).bind fun x29=>(some (decide (x2<x29)))) else (some false)).bind fun v29 =>
  (some v29))).bind fun v26=>(if v26=true then (some (.ret false)) else (some (.nxt ()))))
def qdx (l_0:List Int)  : Option Bool:=(some (decide ((List.length l_0:Int)≤30)))
def yu (l_0:List Int) : Option Bool:=(jn (kr (fun i1 x2 _=>qas l_0 i1 x2 ) l_0 ()) (fun _=>qdx l_0 ))

def qap (i19:Nat)(x20:List Int)(s14:Election) : Option (Oc Election (Election × Bool)):=((yu x20).bind fun v43=>((if (!v43)=true then
  (some true) else ((w7 x20).bind fun v49=>(some (decide ((10:Int)<v49))))).bind fun v49=>(if v49=true then (some (.ret ((Election.mk [] [] []),
  false))) else ((yc 8 ([] : List Int) x20).bind fun l81=>((yc 72 s14.Servers ([(Server.mk 10 (-1) false false [] l81)])).bind fun l98=>(some (.nxt
  (Election.mk l98 [] []))))))))
def qdz (logs_0:List (List Int))(s111:Election)  : Option (Election × Bool):=(if (!(jh (List.length logs_0:Int) 1 5))=true then (some
  ((Election.mk [] [] []),false)) else (some ((Election.mk s111.Servers [] []),true)))
def xz (logs_0:List (List Int)) : Option (Election × Bool):=(jn (kr (fun i19 x20 s110=>qap i19 x20 s110) logs_0 (Election.mk [] [] []))
  (fun s128=>qdz logs_0 s128))

def jy (e_0:Election)(k_1:Int) : Bool:=((decide ((0:Int)≤k_1))&&(decide (k_1<(List.length e_0.Servers:Int))))

def qeg (e_0:Election)(k_1:Int) : Option Election:=((jb e_0.Servers k_1).bind fun x9=>(if (x9.Stands&&(decide ((List.length e_0.Servers:Int) <
  (IntKind.wrap .i64 ((2:Int)*(List.length x9.Got:Int))))))=true then ((yc 16 e_0.Led [(Vote.mk x9.Term k_1)]).bind fun l61=>(some (Election.mk
  (List.set e_0.Servers k_1.toNat (Server.mk x9.Term x9.Voted false true x9.Got x9.Log)) e_0.Post l61))) else (some e_0)))

def qbu (v_0:Election)(v_1:Int)(x9:Server)(i92:Nat)(s87:Election) : Option (Oc Election (Election × Bool)):=(if (decide
  ((i92:Int)≠v_1))=true then ((w7 x9.Log).bind fun v117=>((yc 56 s87.Post [(Letter.mk (i92:Int) v_1 (IntKind.wrap .i64 (x9.Term+1)) true v117
  (List.length x9.Log:Int) false)]).bind fun l127=>(some (.nxt (Election.mk v_0.Servers l127 v_0.Led))))) else (some (.nxt (Election.mk v_0.Servers s87.Post v_0.Led))))
def qfa (v_0:Election)(v_1:Int)(x9:Server)(s141:Election)  : Option (Election × Bool):=((qeg (Election.mk (List.set v_0.Servers v_1.toNat
  (Server.mk (IntKind.wrap .i64 (x9.Term+1)) v_1 true x9.Leads [v_1] x9.Log)) s141.Post v_0.Led) v_1).bind fun v158=>(some (v158,true)))
def qeb (v_0:Election)(v_1:Int) : Option (Election × Bool):=((jb v_0.Servers v_1).bind fun x9=>(if ((x9.Leads||(decide (x9.Term=100)))||(decide
  ((20:Int)<(IntKind.wrap .i64 ((IntKind.wrap .i64 ((List.length v_0.Post:Int)+(List.length v_0.Servers:Int))) - 1)))))=true then (some (v_0,
  false)) else (jn (qan (fun i92 s140=>qbu v_0 v_1 x9 i92 s140) (List.length v_0.Servers:Int) v_0) (fun s173=>qfa v_0 v_1 x9 s173))))

def qei (last_0:Int)(long_1:Int)(l_2:List Int) : Option Bool:=((w7 l_2).bind fun v1=>((if (decide (v1<last_0))=true then (some true) else
  ((w7 l_2).bind fun v7=>(some ((decide (last_0=v7))&&(decide ((List.length l_2:Int)≤long_1)))))).bind fun v7=>(some v7)))

def qe6 (l_0:List Int)(n_1:Int)(s2:Int) : Option (Oc Int (List Int)):=((if (decide (s2<(List.length l_0:Int)))=true then ((jb l_0 s2).bind fun x27 =>
  (some (decide (x27<n_1)))) else (some false)).bind fun v27=>(if v27=true then (some (.nxt (IntKind.wrap .i64 (s2+1)))) else (some (.brk s2))))
def qhs (l_0:List Int)(n_1:Int)(s48:Int)  : Option (List Int):=((if (decide (s48<(List.length l_0:Int)))=true then ((jb l_0 s48).bind fun x58=>(some
  (decide (x58=n_1)))) else (some false)).bind fun v58=>(if v58=true then (some l_0) else ((sl l_0 0 s48).bind fun l76=>((yc 8 ([] : List Int) l76).bind fun l83 =>
  ((yc 8 l83 [n_1]).bind fun l98=>((sl l_0 s48 (List.length l_0)).bind fun l107=>((yc 8 l98 l107).bind fun l114=>(some l114))))))))
def qhn (k:Nat)(l_0:List Int)(n_1:Int) : Option (List Int):=(jn (uy (fun s47=>qe6 l_0 n_1 s47) k 0) (fun s123=>qhs l_0 n_1 s123))

def qg4 (v_0:Election)(s153:Election)(s158:List Server)  : Option Election:=(some (Election.mk s158 s153.Post v_0.Led))
def qg7 (v_0:Election)(v_1:Letter)(x15:Server)(s41:Server)(v100:Bool)(s128:Server)  : Option Election:=((if (decide
  ((List.length v_0.Post:Int)<20))=true then ((yc 56 v_0.Post [(Letter.mk v_1.From v_1.To s128.Term false 0 0 v100)]).bind fun l176=>(some ((Election.mk
  (List.set v_0.Servers v_1.To.toNat (Server.mk s128.Term s128.Voted s128.Stands s128.Leads s41.Got x15.Log)) l176 v_0.Led),
  (List.set v_0.Servers v_1.To.toNat (Server.mk s128.Term s128.Voted s128.Stands s128.Leads s41.Got x15.Log))))) else (some ((Election.mk (List.set v_0.Servers v_1.To.toNat
  (Server.mk s128.Term s128.Voted s128.Stands s128.Leads s41.Got x15.Log)) v_0.Post v_0.Led),
  (List.set v_0.Servers v_1.To.toNat (Server.mk s128.Term s128.Voted s128.Stands s128.Leads s41.Got x15.Log))))).bind (fun s206=>qg4 v_0 s206.1 s206.2))
def qgy (v_0:Election)(v_1:Letter)(x15:Server)(s230:Server)  : Option Election:=((qeg (Election.mk (List.set v_0.Servers v_1.To.toNat
  (Server.mk s230.Term s230.Voted s230.Stands s230.Leads s230.Got x15.Log)) v_0.Post v_0.Led) v_1.To).bind fun v272=>(some v272))
def qg1 (k:Nat)(v_0:Election)(v_1:Letter)(x15:Server)(s41:Server)  : Option Election:=(if v_1.Asks=true then ((if ((decide (v_1.Term=s41.Term)) &&
  ((decide (s41.Voted=(-1)))||(decide (s41.Voted=v_1.From))))=true then ((qei v_1.Last v_1.Long x15.Log).bind fun v100=>(some v100)) else
  (some false)).bind fun v100=>((if (v100&&(decide ((List.length v_0.Post:Int)<20)))=true then (some
  (Server.mk s41.Term v_1.From s41.Stands s41.Leads s41.Got x15.Log)) else (some (Server.mk s41.Term s41.Voted s41.Stands s41.Leads s41.Got x15.Log))).bind
  (fun s207=>qg7 v_0 v_1 x15 s41 v100 s207))) else ((if ((v_1.Grant&&(decide (v_1.Term=s41.Term)))&&s41.Stands)=true then
  ((qhn k s41.Got v_1.From).bind fun v243=>(some (Server.mk s41.Term s41.Voted s41.Stands s41.Leads v243 x15.Log))) else (some
  (Server.mk s41.Term s41.Voted s41.Stands s41.Leads s41.Got x15.Log))).bind (fun s287=>qgy v_0 v_1 x15 s287)))
def qgs (k:Nat)(v_0:Election)(v_1:Letter) : Option Election:=((jb v_0.Servers v_1.To).bind fun x15=>((if (decide (x15.Term<v_1.Term))=true then (some
  (Server.mk v_1.Term (-1) false false [] x15.Log)) else (some x15)).bind (fun s288=>qg1 k v_0 v_1 x15 s288)))

def qee (k:Nat)(v_0:Election)(v_1:ElectStep) : Option (Election × Bool):=(if ((decide (v_1.Term=1))||(decide (v_1.Term=5)))=true then (if
  (!(jy v_0 v_1.Leader))=true then (some (v_0,false)) else (if (decide (v_1.Term=1))=true then ((qeb v_0 v_1.Leader).bind fun v30=>(some (v30.1,
  v30.2))) else ((jb v_0.Servers v_1.Leader).bind fun x47=>(some ((Election.mk (List.set v_0.Servers v_1.Leader.toNat
  (Server.mk x47.Term x47.Voted false false [] x47.Log)) v_0.Post v_0.Led),
  true))))) else (if (((!(jh v_1.Term 2 4))||(decide (v_1.Leader<0)))||(decide ((List.length v_0.Post:Int)≤v_1.Leader)))=true then (some (v_0,
  false)) else ((jb v_0.Post v_1.Leader).bind fun kf=>(if (decide (v_1.Term=4))=true then (if (decide ((List.length v_0.Post:Int)=20))=true then (some (v_0,
  false)) else ((yc 56 v_0.Post [kf]).bind fun l136=>(some ((Election.mk v_0.Servers l136 v_0.Led),
  true)))) else ((sl v_0.Post 0 v_1.Leader).bind fun l156=>((yc 56 ([] : List Letter) l156).bind fun l163=>((sl v_0.Post (IntKind.wrap .i64 (v_1.Leader+1))
  (List.length v_0.Post)).bind fun l174=>((yc 56 l163 l174).bind fun l181=>(if (decide (v_1.Term=2))=true then ((qgs k
  (Election.mk v_0.Servers l181 v_0.Led) kf).bind fun v193=>(some (v193,true))) else (some ((Election.mk v_0.Servers l181 v_0.Led),true)))))))))))

def qe3 (l28:List Letter)(l38:List Vote)(i59:Nat)(x60:Server)(s54:Election) : Option (Oc Election Election):=((yc 8
  ([] : List Int) x60.Got).bind fun l94=>((yc 8 ([] : List Int) x60.Log).bind fun l111 =>
  ((yc 72 s54.Servers [(Server.mk x60.Term x60.Voted x60.Stands x60.Leads l94 l111)]).bind fun l128=>(some (.nxt (Election.mk l128 l28 l38))))))
def qhp (l28:List Letter)(l38:List Vote)(s141:Election)  : Option Election:=(some (Election.mk s141.Servers l28 l38))
def qbi (e_0:Election) : Option Election:=((yc 56 ([] : List Letter) e_0.Post).bind fun l28=>((yc 16 ([] : List Vote) e_0.Led).bind fun l38=>(jn (kr
  (fun i59 x60 s140=>qe3 l28 l38 i59 x60 s140) e_0.Servers (Election.mk [] l28 l38)) (fun s154=>qhp l28 l38 s154))))

def qdn (s62:List Bool)(v136:Election × Bool)(s155:Election)  : Option (Oc ((List Bool) × Election) (Election × (List Bool) × Bool)) :=
  ((yc 1 s62 [v136.2]).bind fun l196=>(some (.nxt (l196,s155))))
def qac (k:Nat)(i80:Nat)(x81:ElectStep)(s62:List Bool)(s67:Election) : Option (Oc ((List Bool) × Election) (Election × (List Bool) × Bool)) :=
  ((qbi s67).bind fun v116=>((qee k v116 x81).bind fun v136=>((if v136.2=true then (some v136.1) else (some s67)).bind
  (fun s206=>qdn s62 v136 s206))))
def qdu (s208:List Bool)(s213:Election)  : Option (Election × (List Bool) × Bool):=((qbi s213).bind fun v233=>(some (v233,s208,true)))
def qbr (k:Nat)(logs_0:List (List Int))(l_1:List ElectStep) : Option (Election × (List Bool) × Bool):=((xz logs_0).bind fun v5=>(if
  ((!v5.2)||(decide ((80:Int)<(List.length l_1:Int))))=true then (some ((Election.mk [] [] []),[],
  false)) else (jn (kr (fun i80 x81 s207=>qac k i80 x81 s207.1 s207.2) l_1 (([],
  v5.1) : (List Bool) × Election)) (fun s255=>qdu s255.1 s255.2))))

def qcy (s49:List Int)(s54:Int)(s55:Int)(s56:L1Cur) : Option (Oc ((List Int) × Int × Int × L1Cur) ((List Int) × L1Cur)):=(if (decide
  ((0:Int)<s55))=true then ((yc 8 s49 [s54]).bind fun l86=>((qbo s56 [0,0,0,1,2]).bind fun v101=>(some (.nxt (l86,(IntKind.wrap .i64 (s54+v101.1)),
  (IntKind.wrap .i64 (s55 - 1)),v101.2.1))))) else (some (.brk (s49,s54,s55,s56))))
def qgj (s111:List Int)(s126:Bool)(s127:L1Cur)  : Option ((List Int) × L1Cur):=(if s126=true then ((kq s127
  (List.length s111:Int)).bind fun v151=>((qbo v151.2 [(-1),0,100,
  101]).bind fun v162=>((jb s111 v151.1).bind fun x169=>(some ((List.set s111 v151.1.toNat v162.1),v162.2.1))))) else (some (s111,s127)))
def qf8 (s111:List Int)(s116:Int)(s117:Int)(s118:L1Cur)  : Option ((List Int) × L1Cur):=((if (decide ((0:Int)<(List.length s111:Int)))=true then
  ((qa5 s118 20).bind fun v137=>(some (v137.1,v137.2))) else (some (false,s118))).bind (fun s179=>qgj s111 s179.1 s179.2))
def qgc (k:Nat)(v1:Int × L1Cur)(s16:Int)(s17:L1Cur)  : Option ((List Int) × L1Cur):=(jn (uy
  (fun s110=>qcy s110.1 s110.2.1 s110.2.2.1 s110.2.2.2) k (([],v1.1,s16,
  s17) : (List Int) × Int × Int × L1Cur)) (fun s180=>qf8 s180.1 s180.2.1 s180.2.2.1 s180.2.2.2))
def qa2 (k:Nat)(c_0:L1Cur) : Option ((List Int) × L1Cur):=((kq c_0 3).bind fun v1=>((kq v1.2 10).bind fun v6 =>
  ((qa5 v6.2 20).bind fun v11=>((if v11.1=true then ((kq v11.2 2).bind fun v27=>(some ((IntKind.wrap .i64 ((30:Int)+v27.1)),v27.2))) else (some (v6.1,
  v11.2))).bind (fun s181=>qgc k v1 s181.1 s181.2)))))

def qhq (s13:List (List Int))(s18:Int)(v42:(List Int) × L1Cur)(s73:List Int)  : Option (Oc ((List (List Int)) × Int × L1Cur) ((List (List Int)) × L1Cur)) :=
  ((yc 24 s13 [s73]).bind fun l107=>(some (.nxt (l107,(IntKind.wrap .i64 (s18 - 1)),v42.2))))
def qe7 (k:Nat)(s13:List (List Int))(s18:Int)(s19:L1Cur) : Option (Oc ((List (List Int)) × Int × L1Cur) ((List (List Int)) × L1Cur)):=(if (decide
  ((0:Int)<s18))=true then ((qa2 k s19).bind fun v42=>((yu v42.1).bind fun v51=>((if (!v51)=true then (some true) else
  ((w7 v42.1).bind fun v57=>(some (decide ((10:Int)<v57))))).bind fun v57=>((if v57=true then (some [1,
  2]) else (some v42.1)).bind (fun s117=>qhq s13 s18 v42 s117))))) else (some (.brk (s13,s18,s19))))
def qhu (s120:List (List Int))(s125:Int)(s126:L1Cur)  : Option ((List (List Int)) × L1Cur):=((qa5 s126 30).bind fun v133=>(if v133.1=true then
  ((jb s120 (0:Int)).bind fun x145=>(some ((List.set s120 (0:Int).toNat [11]),v133.2))) else (some (s120,v133.2))))
def qfe (k:Nat)(c_0:L1Cur) : Option ((List (List Int)) × L1Cur):=((kq c_0 5).bind fun v1=>(jn (uy
  (fun s119=>qe7 k s119.1 s119.2.1 s119.2.2) k (([],(IntKind.wrap .i64 ((1:Int)+v1.1)),
  v1.2) : (List (List Int)) × Int × L1Cur)) (fun s170=>qhu s170.1 s170.2.1 s170.2.2)))

def qfz (v42:(List (List Int)) × L1Cur)(s81:Election)  : Option (Election × L1Cur):=((kq v42.2 30).bind fun v150=>(if (decide
  (v150.1=0))=true then ((qbo v150.2 [(-1),100,
  101]).bind fun v163=>((jb s81.Servers (0:Int)).bind fun x170=>(some ((Election.mk (List.set s81.Servers (0:Int).toNat
  (Server.mk v163.1 x170.Voted x170.Stands x170.Leads x170.Got x170.Log)) s81.Post s81.Led),
  v163.2.1)))) else (if (decide (v150.1=1))=true then ((kq v150.2 8).bind fun v202=>((jb s81.Servers (0:Int)).bind fun x207=>(some ((Election.mk
  (List.set s81.Servers (0:Int).toNat (Server.mk x207.Term (IntKind.wrap .i64 (v202.1 - 2)) x207.Stands x207.Leads x207.Got x207.Log)) s81.Post s81.Led),
  v202.2)))) else (if (decide (v150.1=2))=true then ((jb s81.Servers (0:Int)).bind fun x239=>(some ((Election.mk (List.set s81.Servers (0:Int).toNat
  (Server.mk x239.Term x239.Voted x239.Stands true x239.Got x239.Log)) s81.Post s81.Led),v150.2))) else (some (s81,v150.2))))))
def qfx (k:Nat)(v5:(List ElectStep) × L1Cur)(s14:List ElectStep)  : Option (Election × L1Cur):=((qfe k v5.2).bind fun v42 =>
  ((qbr k v42.1 s14).bind fun v51=>((if (!v51.2.2)=true then ((xz ([[1],
  [2]])).bind fun v120=>(some v120.1)) else (some v51.1)).bind (fun s272=>qfz v42 s272))))
def qam (k:Nat)(c_0:L1Cur) : Option (Election × L1Cur):=((qau k c_0).bind fun v5=>((if (decide ((80:Int)<(List.length v5.1:Int)))=true then
  ((sl v5.1 0 80).bind fun l27=>(some l27)) else (some v5.1)).bind (fun s273=>qfx k v5 s273)))

def u2 (k:Nat)(code_0:List Int) : Option (Election × ElectStep):=((qam k (L1Cur.mk code_0 0 0)).bind fun v13 =>
  ((qau k v13.2).bind fun v38=>(if (decide ((List.length v38.1:Int)=0))=true then (some (v13.1,
  (ElectStep.mk 1 0))) else ((jb v38.1 (0:Int)).bind fun x52=>(some (v13.1,x52))))))

def qag (l28:List Letter)(l38:List Vote)(i59:Nat)(x60:Server)(s54:Election) : Option (Oc Election Election):=((yc 8
  ([] : List Int) x60.Got).bind fun l94=>((yc 8 ([] : List Int) x60.Log).bind fun l111 =>
  ((yc 72 s54.Servers [(Server.mk x60.Term x60.Voted x60.Stands x60.Leads l94 l111)]).bind fun l128=>(some (.nxt (Election.mk l128 l28 l38))))))
def qdt (l28:List Letter)(l38:List Vote)(s141:Election)  : Option Election:=(some (Election.mk s141.Servers l28 l38))
def qbv (e_0:Election) : Option Election:=((yc 56 ([] : List Letter) e_0.Post).bind fun l28=>((yc 16 ([] : List Vote) e_0.Led).bind fun l38=>(jn (kr
  (fun i59 x60 s140=>qag l28 l38 i59 x60 s140) e_0.Servers (Election.mk [] l28 l38)) (fun s154=>qdt l28 l38 s154))))

def w9 (e_0:Election)(k_1:Int) : Option Election:=((jb e_0.Servers k_1).bind fun x1=>(if (x1.Stands&&(decide ((List.length e_0.Servers:Int) <
  (IntKind.wrap .i64 ((2:Int)*(List.length x1.Got:Int))))))=true then ((yc 16 e_0.Led [(Vote.mk x1.Term k_1)]).bind fun l47=>(some (Election.mk
  (List.set e_0.Servers k_1.toNat (Server.mk x1.Term x1.Voted false true x1.Got x1.Log)) e_0.Post l47))) else (some e_0)))

def uv (v_0:Election)(v_1:Int)(i89:Nat)(s81:Election)(s86:List Server) : Option (Oc (Election × (List Server)) (Bool × Election)):=(if (decide
  ((i89:Int)≠v_1))=true then ((jb s86 v_1).bind fun kf=>((xq kf.Log).bind fun v131=>((yc 56 s81.Post [(Letter.mk (i89:Int) v_1 kf.Term true v131
  (List.length kf.Log:Int) false)]).bind fun l140=>(some (.nxt ((Election.mk s86 l140 v_0.Led),s86)))))) else (some (.nxt ((Election.mk s86 s81.Post v_0.Led),s86))))
def qb1 (v_0:Election)(v_1:Int)(s158:Election)(s163:List Server)  : Option (Bool × Election):=((w9
  (Election.mk s163 s158.Post v_0.Led) v_1).bind fun v172=>(some (true,v172)))
def qar (v_0:Election)(v_1:Int) : Option (Bool × Election):=((jb v_0.Servers v_1).bind fun x1=>(if ((x1.Leads||(decide (x1.Term=100)))||(decide
  ((20:Int)<(IntKind.wrap .i64 ((IntKind.wrap .i64 ((List.length v_0.Post:Int)+(List.length v_0.Servers:Int))) - 1)))))=true then (some (false,
  v_0)) else (jn (qan (fun i89 s157=>uv v_0 v_1 i89 s157.1 s157.2) (List.length v_0.Servers:Int) ((Election.mk (List.set v_0.Servers v_1.toNat
  (Server.mk (IntKind.wrap .i64 (x1.Term+1)) v_1 true x1.Leads [v_1] x1.Log)) v_0.Post v_0.Led),
  (List.set v_0.Servers v_1.toNat (Server.mk (IntKind.wrap .i64 (x1.Term+1)) v_1 true x1.Leads [v_1] x1.Log)))) (fun s185=>qb1 v_0 v_1 s185.1 s185.2))))

def qc2 (s_0:List Letter)(i_1:Int)(j_2:Int) : Option (List Letter):=qny s_0 i_1 j_2

def yk (x_0:Int) : Bool:=(decide (x_0≠x_0))

def qdl (x_0:Int)(y_1:Int) : Bool:=(((yk x_0)&&(!(yk y_1)))||(decide (x_0<y_1)))

def wi (x_0:Int) : Bool:=(decide (x_0≠x_0))

def xj (x_0:List Int)(target_1:Int)(s3:Int)(s4:Int) : Option (Oc (Int × Int) (Int × Bool)):=(if (decide (s3<s4))=true then ((jb x_0
  (IntKind.wrap .i64 (qkg .u64 (IntKind.wrap .u64 (IntKind.wrap .i64 (s3+s4))) 1))).bind fun x29=>(if (qdl x29 target_1)=true then (some (.nxt
  ((IntKind.wrap .i64 ((IntKind.wrap .i64 (qkg .u64 (IntKind.wrap .u64 (IntKind.wrap .i64 (s3+s4))) 1))+1)),s4))) else (some (.nxt (s3,
  (IntKind.wrap .i64 (qkg .u64 (IntKind.wrap .u64 (IntKind.wrap .i64 (s3+s4))) 1))))))) else (some (.brk (s3,s4))))
def qai (x_0:List Int)(target_1:Int)(s37:Int)(s38:Int)  : Option (Int × Bool):=((if (decide (s37<(List.length x_0:Int)))=true then
  ((jb x_0 s37).bind fun x50=>((if (decide (x50=target_1))=true then (some true) else ((jb x_0 s37).bind fun x56=>(some ((wi x56) &&
  (wi target_1))))).bind fun v56=>(some v56))) else (some false)).bind fun v50=>(some (s37,v50)))
def ue (k:Nat)(x_0:List Int)(target_1:Int) : Option (Int × Bool):=(jn (uy (fun s36=>xj x_0 target_1 s36.1 s36.2) k (0,
  (List.length x_0:Int))) (fun s90=>qai x_0 target_1 s90.1 s90.2))

def qcl (v_0:Election)(v_1:Letter)(v115:Bool)(s122:List Server)  : Option Election:=((jb s122 v_1.To).bind fun x166 =>
  ((yc 56 v_0.Post [(Letter.mk v_1.From v_1.To x166.Term false 0 0 v115)]).bind fun l190=>(some (Election.mk s122 l190 v_0.Led))))
def qcn (k:Nat)(v_0:Election)(v_1:Letter)(s31:List Server)  : Option Election:=(if v_1.Asks=true then ((jb s31 v_1.To).bind fun x75=>(if
  ((decide (v_1.Term=x75.Term))&&((decide (x75.Voted=(-1)))||(decide (x75.Voted=v_1.From))))=true then ((qaj v_1.Last v_1.Long x75.Log).bind fun v115 =>
  ((if v115=true then (some (List.set s31 v_1.To.toNat (Server.mk x75.Term v_1.From x75.Stands x75.Leads x75.Got x75.Log))) else (some s31)).bind
  (fun s205=>qcl v_0 v_1 v115 s205))) else ((yc 56 v_0.Post [(Letter.mk v_1.From v_1.To x75.Term false 0 0 false)]).bind fun l213=>(some
  (Election.mk s31 l213 v_0.Led))))) else ((if v_1.Grant=true then ((jb s31 v_1.To).bind fun x231=>(some (decide (v_1.Term=x231.Term)))) else
  (some false)).bind fun v231=>((if v231=true then ((jb s31 v_1.To).bind fun x264=>(some x264.Stands)) else (some false)).bind fun v264=>(if v264=true then
  ((jb s31 v_1.To).bind fun x295=>((ue k x295.Got v_1.From).bind fun v313=>(if (!v313.2)=true then
  ((qfc x295.Got v313.1 [v_1.From]).bind fun v324=>((w9 (Election.mk (List.set s31 v_1.To.toNat
  (Server.mk x295.Term x295.Voted x295.Stands x295.Leads v324.1 x295.Log)) v_0.Post v_0.Led) v_1.To).bind fun v344=>(some v344))) else ((w9
  (Election.mk s31 v_0.Post v_0.Led) v_1.To).bind fun v361=>(some v361))))) else (some (Election.mk s31 v_0.Post v_0.Led))))))
def qbf (k:Nat)(v_0:Election)(v_1:Letter) : Option Election:=((jb v_0.Servers v_1.To).bind fun x7=>((if (decide (x7.Term<v_1.Term))=true then
  (some (List.set v_0.Servers v_1.To.toNat (Server.mk v_1.Term (-1) false false [] x7.Log))) else (some v_0.Servers)).bind (fun s374=>qcn k v_0 v_1 s374)))

def qcg (k:Nat)(v_0:Election)(v_1:ElectStep)(v17:Election)(s146:Bool)  : Option (Oc (Bool × Election × (List Server)) (Election × Bool)) :=
  (if s146=true then (if (!(zy v_1.Leader 0 (IntKind.wrap .i64 ((List.length v_0.Post:Int) - 1))))=true then (some (.ret ((Election.mk [] [] []),
  false))) else ((jb v_0.Post v_1.Leader).bind fun x173=>(if (decide (v_1.Term=4))=true then ((yc 56 v17.Post [x173]).bind fun l191=>(some (.nxt ((decide
  ((List.length v_0.Post:Int)<20)),(Election.mk v17.Servers l191 v17.Led),
  v17.Servers)))) else ((qc2 v17.Post v_1.Leader (IntKind.wrap .i64 (v_1.Leader+1))).bind fun v203=>(if (decide (v_1.Term=2))=true then
  ((qbf k (Election.mk v17.Servers v203 v17.Led) x173).bind fun v215=>(some (.nxt (true,v215,v215.Servers)))) else (some (.nxt (true,
  (Election.mk v17.Servers v203 v17.Led),v17.Servers)))))))) else (some (.nxt (false,v17,v17.Servers))))
def qco (k:Nat)(v_0:Election)(v_1:ElectStep)(v17:Election)(s63:Bool)  : Option (Oc (Bool × Election × (List Server)) (Election × Bool)) :=
  (if s63=true then (if (!(zy v_1.Leader 0 (IntKind.wrap .i64 ((List.length v_0.Servers:Int) - 1))))=true then (some (.ret ((Election.mk [] [] []),
  false))) else ((jb v17.Servers v_1.Leader).bind fun x89=>(if (decide (v_1.Term=5))=true then (some (.ret ((Election.mk (List.set v17.Servers v_1.Leader.toNat
  (Server.mk x89.Term x89.Voted false false [] x89.Log)) v17.Post v17.Led),true))) else ((qar v17 v_1.Leader).bind fun v130=>(some (.nxt (v130.1,v130.2,
  v130.2.Servers))))))) else ((if (decide (v_1.Term=2))=true then (some (decide (v_1.Term=2))) else (if (decide (v_1.Term=3))=true then (some (decide
  (v_1.Term=3))) else (some (decide (v_1.Term=4))))).bind (fun s233=>qcg k v_0 v_1 v17 s233)))
def qcr (s43:Bool)(s44:Election)(s53:List Server)  : Option (Election × Bool):=((if (!s43)=true then (some true) else ((wt
  (Election.mk s53 s44.Post s44.Led)).bind fun v244=>(some (!v244)))).bind fun v244=>(if v244=true then (some ((Election.mk [] [] []),
  false)) else (some ((Election.mk s53 s44.Post s44.Led),true))))
def qbe (k:Nat)(v_0:Election)(v_1:ElectStep) : Option (Election × Bool):=((qbv v_0).bind fun v17=>(jn ((if (decide
  (v_1.Term=1))=true then (some (decide (v_1.Term=1))) else (some (decide (v_1.Term=5)))).bind (fun s234=>qco k v_0 v_1 v17 s234))
  (fun s263=>qcr s263.1 s263.2.1 s263.2.2)))

def qbq (k:Nat)(e_0:Election)(x_1:ElectStep) : Option (Election × Bool):=((wt e_0).bind fun v17=>(if (!v17)=true then (some
  ((Election.mk [] [] []),false)) else ((qbe k e_0 x_1).bind fun v23=>(some (v23.1,v23.2)))))

def qdk (l_0:List Int)(many_1:Int)(i1:Nat)(x2:Int) : Option (Oc Unit Bool):=((if ((decide (x2<0))||(decide (many_1≤x2)))=true then
  (some true) else ((if (decide ((0:Int)<(i1:Int)))=true then ((jb l_0 (IntKind.wrap .i64 ((i1:Int) - 1))).bind fun x44=>(some (decide (x2≤x44)))) else
  (some false)).bind fun v44=>(some v44))).bind fun v41=>(if v41=true then (some (.ret false)) else (some (.nxt ()))))
def qf9  : Option Bool:=(some true)
def qfv (l_0:List Int)(many_1:Int) : Option Bool:=(jn (kr (fun i1 x2 _=>qdk l_0 many_1 i1 x2 ) l_0 ()) (fun _=>qf9 ))

def qe1 (e_0:Election)(s_1:Server) : Option Bool:=((if (((!(jh s_1.Term 0 100))||((decide (s_1.Voted≠(-1)))&&(!(jy e_0 s_1.Voted)))) ||
  (s_1.Stands&&s_1.Leads))=true then (some true) else ((yu s_1.Log).bind fun v54=>(some (!v54)))).bind fun v54=>(if v54=true then (some false) else (if
  ((!s_1.Stands)&&(!s_1.Leads))=true then (some (decide ((List.length s_1.Got:Int)=0))) else ((qfv s_1.Got (List.length e_0.Servers:Int)).bind fun v79 =>
  (some v79)))))

def qex (e_0:Election)(m_1:Letter) : Option Bool:=(if (!(jy e_0 m_1.To))=true then (some false) else (if ((!(jy e_0 m_1.From))||(decide
  (m_1.To=m_1.From)))=true then (some false) else ((jb e_0.Servers m_1.From).bind fun x24=>(if (!(jh m_1.Term 0 x24.Term))=true then (some false) else
  (if m_1.Asks=true then (some (((!m_1.Grant)&&(jh m_1.Last (-1) 100))&&(jh m_1.Long 0 30))) else (some ((decide (m_1.Last=0))&&(decide
  (m_1.Long=0)))))))))

def qad (v_0:Election)(i7:Nat)(x8:Server) : Option (Oc Unit Bool):=((qe1 v_0 x8).bind fun v37=>(if (!v37)=true then (some
  (.ret false)) else (some (.nxt ()))))
def qab (v_0:Election)(i51:Nat)(x52:Letter) : Option (Oc Unit Bool):=((qex v_0 x52).bind fun v81=>(if (!v81)=true then (some
  (.ret false)) else (some (.nxt ()))))
def qae (v_0:Election)(i95:Nat)(x96:Vote) : Option (Oc Unit Bool):=(if ((!(jh x96.Term 0 100))||(!(jy v_0 x96.Leader)))=true then
  (some (.ret false)) else (some (.nxt ())))
def qds (v_0:Election)  : Option Bool:=(some (((jh (List.length v_0.Servers:Int) 1 5)&&(decide ((List.length v_0.Post:Int)≤20)))&&(decide
  ((List.length v_0.Led:Int)≤80))))
def qdw (v_0:Election)  : Option Bool:=(jn (kr (fun i95 x96 _=>qae v_0 i95 x96 ) v_0.Led ()) (fun _=>qds v_0 ))
def qcv (v_0:Election)  : Option Bool:=(jn (kr (fun i51 x52 _=>qab v_0 i51 x52 ) v_0.Post ()) (fun _=>qdw v_0 ))
def y8 (v_0:Election) : Option Bool:=(jn (kr (fun i7 x8 _=>qad v_0 i7 x8 ) v_0.Servers ()) (fun _=>qcv v_0 ))

def qbw (k:Nat)(e_0:Election)(x_1:ElectStep) : Option (Election × Bool):=((y8 e_0).bind fun v17=>(if (!v17)=true then (some
  ((Election.mk [] [] []),false)) else ((qbi e_0).bind fun v27=>((qee k v27 x_1).bind fun v47=>((if (!v47.2)=true then (some true) else
  ((y8 v47.1).bind fun v69=>(some (!v69)))).bind fun v69=>(if v69=true then (some ((Election.mk [] [] []),
  false)) else ((qbi v47.1).bind fun v86=>(some (v86,true)))))))))

def qbs (k:Nat)(code_0:List Int) : Option (Election × Int):=((qam k (L1Cur.mk code_0 0 0)).bind fun v9=>((kq v9.2 6).bind fun v26=>(some
  (v9.1,(IntKind.wrap .i64 ((10:Int)+v26.1))))))

def qce (term_1:Int)(i11:Nat)(x12:Vote) : Option (Oc Unit (Int × Bool)):=(if (decide (x12.Term=term_1))=true then (some (.ret (x12.Leader,
  true))) else (some (.nxt ())))
def qf6  : Option (Int × Bool):=(some (0,false))
def qe5 (e_0:Election)(term_1:Int) : Option (Int × Bool):=((y8 e_0).bind fun v7=>(if (!v7)=true then (some (0,
  false)) else (jn (kr (fun i11 x12 _=>qce term_1 i11 x12 ) e_0.Led ()) (fun _=>qf6 ))))

def qb7 (k:Nat)(code_0:List Int) : Option (Election × Int):=((qam k (L1Cur.mk code_0 0 0)).bind fun v9=>((kq v9.2 (IntKind.wrap .i64
  ((List.length v9.1.Servers:Int)+1))).bind fun v34=>(some (v9.1,v34.1))))

def qcw (e_0:Election)(server_1:Int)(i22:Nat)(x23:Server)(s21:Int) : Option (Oc Int (Bool × Bool)):=((jb e_0.Servers server_1).bind fun x54 =>
  ((w7 x54.Log).bind fun v57=>((jb e_0.Servers server_1).bind fun x60=>((qei v57 (List.length x60.Log:Int) x23.Log).bind fun v63=>(if v63=true then
  (some (.nxt (IntKind.wrap .i64 (s21+1)))) else (some (.nxt s21)))))))
def qgd (e_0:Election)(s70:Int)  : Option (Bool × Bool):=(some ((decide ((List.length e_0.Servers:Int)<(IntKind.wrap .i64 ((2:Int)*s70)))),true))
def qf4 (e_0:Election)(server_1:Int) : Option (Bool × Bool):=((y8 e_0).bind fun v7=>(if ((!v7)||(!(jy e_0 server_1)))=true then
  (some (false,false)) else (jn (kr (fun i22 x23 s69=>qcw e_0 server_1 i22 x23 s69) e_0.Servers 0) (fun s78=>qgd e_0 s78))))

def qdd (s110:List Int)(s115:Int)(s116:Int)(s117:L1Cur) : Option (Oc ((List Int) × Int × Int × L1Cur) ((List Int) × (List Int) × L1Cur)):=(if ((decide
  ((0:Int)<s116))&&(decide ((List.length s110:Int)<30)))=true then ((kq s117 3).bind fun v154=>((yc 8 s110 [(IntKind.wrap .i64
  (s115+v154.1))]).bind fun l165=>(some (.nxt (l165,(IntKind.wrap .i64 (s115+v154.1)),(IntKind.wrap .i64 (s116 - 1)),v154.2))))) else (some (.brk (s110,s115,s116,
  s117))))
def qgn (v1:(List Int) × L1Cur)(s177:List Int)(s182:Int)(s183:Int)(s184:L1Cur)  : Option ((List Int) × (List Int) × L1Cur):=(some (v1.1,s177,s184))
def qga (k:Nat)(v1:(List Int) × L1Cur)(v53:Int × L1Cur)(l65:List Int)(s74:Int)  : Option ((List Int) × (List Int) × L1Cur) :=
  ((kq v53.2 5).bind fun v97=>(jn (uy (fun s176=>qdd s176.1 s176.2.1 s176.2.2.1 s176.2.2.2) k (l65,s74,v97.1,
  v97.2)) (fun s193=>qgn v1 s193.1 s193.2.1 s193.2.2.1 s193.2.2.2)))
def qgf (k:Nat)(v1:(List Int) × L1Cur)(s13:Bool)(s14:L1Cur)  : Option ((List Int) × (List Int) × L1Cur):=(if s13=true then
  ((qa2 k s14).bind fun v38=>(some (v1.1,v38.1,
  v38.2))) else ((kq s14 (IntKind.wrap .i64 ((List.length v1.1:Int)+1))).bind fun v53=>((sl v1.1 0 v53.1).bind fun l58=>((yc 8
  ([] : List Int) l58).bind fun l65=>((if (decide ((0:Int)<(List.length l65:Int)))=true then ((jb l65 (IntKind.wrap .i64
  ((List.length l65:Int) - 1))).bind fun x83=>(some x83)) else (some 0)).bind (fun s194=>qga k v1 v53 l65 s194))))))
def qf1 (k:Nat)(c_0:L1Cur) : Option ((List Int) × (List Int) × L1Cur):=((qa2 k c_0).bind fun v1=>((yu v1.1).bind fun v10=>((if
  (!v10)=true then (some (true,v1.2)) else ((qa5 v1.2 6).bind fun v25=>(some (v25.1,v25.2)))).bind (fun s195=>qgf k v1 s195.1 s195.2))))

def qdo (k:Nat)(code_0:List Int) : Option ((List Int) × (List Int)):=((qf1 k (L1Cur.mk code_0 0 0)).bind fun v5=>(some (v5.1,v5.2.1)))

def qbt (k:Nat)(code_0:List Int) : Option ((List Int) × (List Int)):=((qdo k code_0).bind fun v1=>(some (v1.1,v1.2)))

def qb3 (a_0:List Int)(b_1:List Int) : Option (Bool × Bool):=((xb a_0).bind fun v1=>((if (!v1)=true then (some true) else
  ((xb b_1).bind fun v7=>(some (!v7)))).bind fun v7=>(if v7=true then (some (false,
  false)) else ((xq a_0).bind fun v22=>((qaj v22 (List.length a_0:Int) b_1).bind fun v25=>(some (v25,true)))))))

def qe4 (a_0:List Int)(b_1:List Int) : Option (Bool × Bool):=((yu a_0).bind fun v1=>((if (!v1)=true then (some true) else
  ((yu b_1).bind fun v7=>(some (!v7)))).bind fun v7=>(if v7=true then (some (false,
  false)) else ((w7 a_0).bind fun v22=>((qei v22 (List.length a_0:Int) b_1).bind fun v25=>(some (v25,true)))))))

def qaa (k:Nat)(code_0:List Int) : Option (List (List Int)):=((qfe k (L1Cur.mk code_0 0 0)).bind fun v5=>(some v5.1))

def qao (i24:Nat)(x25:List Int)(s19:Election) : Option (Oc Election (Election × Bool)):=((xb x25).bind fun v47=>((if (!v47)=true then
  (some true) else ((xq x25).bind fun v53=>(some (decide ((10:Int)<v53))))).bind fun v53=>(if v53=true then (some (.ret ((Election.mk [] [] []),
  false))) else ((yc 8 ([] : List Int) x25).bind fun l84=>((yc 72 s19.Servers ([(Server.mk 10 (-1) false false [] l84)])).bind fun l101=>(some (.nxt
  (Election.mk l101 [] []))))))))
def qd0 (s114:Election)  : Option (Election × Bool):=(some ((Election.mk s114.Servers [] []),true))
def qcc (logs_0:List (List Int)) : Option (Election × Bool):=(if (!(zy (List.length logs_0:Int) 1 5))=true then (some ((Election.mk [] [] []),
  false)) else (jn (kr (fun i24 x25 s113=>qao i24 x25 s113) logs_0 (Election.mk [] [] [])) (fun s127=>qd0 s127)))

def qca (logs_0:List (List Int)) : Option (Election × Bool):=((qcc logs_0).bind fun v5=>(some (v5.1,v5.2)))

def qaf (i126:Nat)(s120:List Server)(s123:List Server) : Option (Oc ((List Server) × (List Server)) (Oc Unit Bool)):=((jb s120
  (i126:Int)).bind fun x150=>((jb s123 (i126:Int)).bind fun x178=>((if ((decide (x178.Term<x150.Term))||(((decide (x178.Term=x150.Term))&&(decide
  (x150.Voted≠(-1))))&&(decide (x178.Voted≠x150.Voted))))=true then (some true) else ((qal x178.Log x150.Log).bind fun v256=>(some
  (!v256)))).bind fun v256=>(if v256=true then (some (.ret (.ret false))) else (some (.nxt (s120,s123)))))))
def qcu (v2:Election × ElectStep)(v38:Election × Bool)(s289:List Server)(s292:List Server)  : Option (Oc Unit Bool):=((uz
  (Election.mk s292 v38.1.Post v38.1.Led)).bind fun v302=>(if ((!v302)||(decide ((List.length v38.1.Led:Int)<(List.length v2.1.Led:Int))))=true then (some
  (.ret false)) else (some (.nxt ()))))
def qdj (k:Nat)(v_1:List Int)  : Option Bool:=((qbs k v_1).bind fun v322=>((qe2 v322.1 v322.2).bind fun v350 =>
  ((qe5 v322.1 v322.2).bind fun v353=>((qb7 k v_1).bind fun v356=>((qfw v356.1 v356.2).bind fun v384 =>
  ((qf4 v356.1 v356.2).bind fun v387=>((qbt k v_1).bind fun v390=>((qb3 v390.1 v390.2).bind fun v406 =>
  ((qe4 v390.1 v390.2).bind fun v409=>((qaa k v_1).bind fun v412=>((qca v412).bind fun v424 =>
  ((xz v412).bind fun v435=>((if (((((((!(v350.2 == v353.2))||(decide (v350.1≠v353.1)))||(!(v384.2 == v387.2)))||(!(v384.1 == v387.1))) ||
  (!(v406.2 == v409.2)))||(!(v406.1 == v409.1)))||(!(v424.2 == v435.2)))=true then (some true) else ((ul v424.1 v435.1).bind fun v567=>(some
  (!v567)))).bind fun v567=>(if v567=true then (some false) else (if v406.2=true then ((qb3 v390.2 v390.1).bind fun v585=>(some (v585.2 &&
  (v406.1||v585.1)))) else (some true))))))))))))))))
def qfb (k:Nat)(v_0:List Int)(v_1:List Int) : Option Bool:=(if (decide ((1048576:Int)<(IntKind.wrap .i64 ((List.length v_0:Int) +
  (List.length v_1:Int)))))=true then (some true) else ((u2 k v_0).bind fun v2=>((qbq k v2.1 v2.2).bind fun v38 =>
  ((qbw k v2.1 v2.2).bind fun v66=>(if (!(v38.2 == v66.2))=true then (some false) else ((ul v38.1 v66.1).bind fun v95=>(if
  (!v95)=true then (some false) else ((uz v2.1).bind fun v99=>((y8 v2.1).bind fun v102=>(if (!(v99 == v102))=true then (some false) else
  (jn (if v38.2=true then (jn (qan (fun i126 s288=>qaf i126 s288.1 s288.2) (List.length v2.1.Servers:Int) (v2.1.Servers,
  v38.1.Servers)) (fun s316=>qcu v2 v38 s316.1 s316.2)) else (some (.nxt ()))) (fun _=>qdj k v_1 ))))))))))))
end Go.Proofs.Ytpddolihbnfahaa.X
