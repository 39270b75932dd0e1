/- The seat's types and functions, as plain Lean has them. -/
import Derived.Test.YtpddolihbnfahaaZIns
set_option linter.unusedVariables false
set_option linter.unusedSimpArgs false
set_option maxRecDepth 100000
namespace Go.Proofs.Ytpddolihbnfahaa.X
open Go
open Nat (reduceEqDiff)
structure BoundsError where
 x:Int
 y:Int
 signed:Bool
 code:Int
 deriving DecidableEq,Inhabited
def BoundsError.cells (x:BoundsError) : List XV:=[.int .i64 x.x,.int .i64 x.y,.bool x.signed,.int .u8 x.code]
structure Server where
 Term:Int
 Voted:Int
 Stands:Bool
 Leads:Bool
 Got:List Int
 Log:List Int
 deriving DecidableEq,Inhabited
def Server.cells (x:Server) : List XV:=[.int .i64 x.Term,.int .i64 x.Voted,.bool x.Stands,.bool x.Leads,lst cI x.Got,lst cI x.Log]
structure Letter where
 To:Int
 From:Int
 Term:Int
 Asks:Bool
 Last:Int
 Long:Int
 Grant:Bool
 deriving DecidableEq,Inhabited
def Letter.cells (x:Letter) : List XV:=[.int .i64 x.To,.int .i64 x.From,.int .i64 x.Term,.bool x.Asks,.int .i64 x.Last,.int .i64 x.Long,.bool x.Grant]
structure Vote where
 Term:Int
 Leader:Int
 deriving DecidableEq,Inhabited
def Vote.cells (x:Vote) : List XV:=[.int .i64 x.Term,.int .i64 x.Leader]
structure Election where
 Servers:List Server
 Post:List Letter
 Led:List Vote
 deriving DecidableEq,Inhabited
def Election.cells (x:Election) : List XV:=[lst Server.cells x.Servers,lst Letter.cells x.Post,lst Vote.cells x.Led]
structure Vote48 where
 Kind:Int
 K:Int
 deriving DecidableEq,Inhabited
def Vote48.cells (x:Vote48) : List XV:=[.int .i64 x.Kind,.int .i64 x.K]
structure ElectStep where
 Term:Int
 Leader:Int
 deriving DecidableEq,Inhabited
def ElectStep.cells (x:ElectStep) : List XV:=[.int .i64 x.Term,.int .i64 x.Leader]
structure L1Cur where
 code:List Int
 at_:Int
 seed:Int
 deriving DecidableEq,Inhabited
def L1Cur.cells (x:L1Cur) : List XV:=[lst cU8 x.code,.int .i64 x.at_,.int .u64 x.seed]

def qbp (s_0:List Int)(i_1:Int)(v_2:List Int) : Option (List Int × List Int):=qlx s_0 i_1 v_2

def zl (n_0:Int)(low_1:Int)(high_2:Int) : Bool:=((decide (low_1≤n_0))&&(decide (n_0≤high_2)))

def u7 (l_0:List Int) : Option Int:=(if (decide ((List.length l_0:Int)=0))=true then (some (-1)) else ((zm l_0 (IntKind.wrap .i64
  ((List.length l_0:Int) - 1))).bind fun x2=>(some x2)))

def qa4 (l_0:List Int)(i1:Nat)(x2:Int) : Option (Oc Unit Bool):=((if (!(zl x2 0 100))=true then (some true) else ((if (decide ((0:Int) <
  (i1:Int)))=true then ((zm l_0 (IntKind.wrap .i64 ((i1:Int) - 1))).bind fun x29=>(some (decide (x2<x29)))) else (some false)).bind fun v29 =>
  (some v29))).bind fun v26=>(if v26=true then (some (.ret false)) else (some (.nxt ()))))
def qfl (l_0:List Int)  : Option Bool:=(some (decide ((List.length l_0:Int)≤30)))
def uc (l_0:List Int) : Option Bool:=(jn (ya (fun i1 x2 _=>qa4 l_0 i1 x2 ) l_0 ()) (fun _=>qfl l_0 ))

def qas (i24:Nat)(x25:List Int)(s19:Election) : Option (Oc Election (Election × Bool)):=((uc x25).bind fun v47=>((if (!v47)=true then
  (some true) else ((u7 x25).bind fun v53=>(some (decide ((10:Int)<v53))))).bind fun v53=>(if v53=true then (some (.ret ((Election.mk [] [] []),
  false))) else ((ki 8 ([] : List Int) x25).bind fun l84=>((ki 72 s19.Servers ([(Server.mk 10 (-1) false false [] l84)])).bind fun l101=>(some (.nxt
  (Election.mk l101 [] []))))))))
def qe1 (s114:Election)  : Option (Election × Bool):=(some ((Election.mk s114.Servers [] []),true))
def wq (logs_0:List (List Int)) : Option (Election × Bool):=(if (!(zl (List.length logs_0:Int) 1 5))=true then (some ((Election.mk [] [] []),
  false)) else (jn (ya (fun i24 x25 s113=>qas i24 x25 s113) logs_0 (Election.mk [] [] [])) (fun s127=>qe1 s127)))

def qa9 (list_0:List Int)(many_1:Int)(i1:Nat)(x2:Int) : Option (Oc Unit Bool):=((if (!(zl x2 0 (IntKind.wrap .i64 (many_1 - 1))))=true then
  (some true) else ((if (decide ((0:Int)<(i1:Int)))=true then ((zm list_0 (IntKind.wrap .i64 ((i1:Int) - 1))).bind fun x30=>(some (decide (x2≤x30)))) else
  (some false)).bind fun v30=>(some v30))).bind fun v27=>(if v27=true then (some (.ret false)) else (some (.nxt ()))))
def qfs  : Option Bool:=(some true)
def qbg (list_0:List Int)(many_1:Int) : Option Bool:=(jn (ya (fun i1 x2 _=>qa9 list_0 many_1 i1 x2 ) list_0 ())
  (fun _=>qfs ))

def y9 (f_1:Vote→Option Bool)(i1:Nat)(x2:Vote) : Option (Oc Unit Int):=((f_1 x2).bind fun v23=>(if v23=true then (some (.ret
  (i1:Int))) else (some (.nxt ()))))
def qcx  : Option Int:=(some (-1))
def ue (s_0:List Vote)(f_1:Vote→Option Bool) : Option Int:=(jn (ya (fun i1 x2 _=>y9 f_1 i1 x2 ) s_0 ())
  (fun _=>qcx ))

def w8 (s_0:List Vote)(f_1:Vote→Option Bool) : Option Bool:=((ue s_0 f_1).bind fun v1=>(some (decide ((0:Int)≤v1))))

def xj (v_0:Vote)(cap_0:Int) : Bool:=((!(zl v_0.Term 0 100))||(!(zl v_0.Leader 0 (IntKind.wrap .i64 (cap_0 - 1)))))

def qbb (v_0:Election)(i34:Nat)(x35:Server) : Option (Oc Unit Bool):=((if (((!(zl x35.Term 0 100))||(!(zl x35.Voted (-1) (IntKind.wrap .i64
  ((List.length v_0.Servers:Int) - 1)))))||(x35.Stands&&x35.Leads))=true then (some true) else ((qbg x35.Got
  (List.length v_0.Servers:Int)).bind fun v108=>(some (!v108)))).bind fun v108=>((if (v108||(((!x35.Stands)&&(!x35.Leads))&&(decide ((0:Int) <
  (List.length x35.Got:Int)))))=true then (some true) else ((uc x35.Log).bind fun v170=>(some (!v170)))).bind fun v170=>(if v170=true then (some
  (.ret false)) else (some (.nxt ())))))
def qa6 (v_0:Election)(i199:Nat)(x200:Letter) : Option (Oc Unit Bool):=(if (!(zl x200.To 0 (IntKind.wrap .i64
  ((List.length v_0.Servers:Int) - 1))))=true then (some (.ret false)) else (if ((!(zl x200.From 0 (IntKind.wrap .i64 ((List.length v_0.Servers:Int) - 1)))) ||
  (decide (x200.To=x200.From)))=true then (some (.ret false)) else ((zm v_0.Servers x200.From).bind fun x251=>(if (!(zl x200.Term 0 x251.Term))=true then (some
  (.ret false)) else (if ((x200.Asks&&((x200.Grant||(!(zl x200.Last (-1) 100)))||(!(zl x200.Long 0 30))))||((!x200.Asks)&&((decide (x200.Last≠0)) ||
  (decide (x200.Long≠0)))))=true then (some (.ret false)) else (some (.nxt ())))))))
def qc2 (v_0:Election)  : Option Bool:=((w8 v_0.Led (fun a0=>some (xj a0
  (List.length v_0.Servers:Int)))).bind fun v350=>(some (!v350)))
def qc3 (v_0:Election)  : Option Bool:=(jn (ya (fun i199 x200 _=>qa6 v_0 i199 x200 ) v_0.Post ()) (fun _=>qc2 v_0 ))
def xe (v_0:Election) : Option Bool:=(if (((!(zl (List.length v_0.Servers:Int) 1 5))||(decide ((20:Int)<(List.length v_0.Post:Int))))||(decide
  ((80:Int)<(List.length v_0.Led:Int))))=true then (some false) else (jn (ya (fun i34 x35 _=>qbb v_0 i34 x35 ) v_0.Servers ())
  (fun _=>qc3 v_0 )))

def u6 (l28:List Letter)(l38:List Vote)(i59:Nat)(x60:Server)(s54:Election) : Option (Oc Election Election):=((ki 8
  ([] : List Int) x60.Got).bind fun l94=>((ki 8 ([] : List Int) x60.Log).bind fun l111 =>
  ((ki 72 s54.Servers [(Server.mk x60.Term x60.Voted x60.Stands x60.Leads l94 l111)]).bind fun l128=>(some (.nxt (Election.mk l128 l28 l38))))))
def qed (l28:List Letter)(l38:List Vote)(s141:Election)  : Option Election:=(some (Election.mk s141.Servers l28 l38))
def u1 (e_0:Election) : Option Election:=((ki 56 ([] : List Letter) e_0.Post).bind fun l28=>((ki 16 ([] : List Vote) e_0.Led).bind fun l38=>(jn (ya
  (fun i59 x60 s140=>u6 l28 l38 i59 x60 s140) e_0.Servers (Election.mk [] l28 l38)) (fun s154=>qed l28 l38 s154))))

def wx (e_0:Election)(k_1:Int) : Option Election:=((zm e_0.Servers k_1).bind fun x1=>(if (x1.Stands&&(decide ((List.length e_0.Servers:Int) <
  (IntKind.wrap .i64 ((2:Int)*(List.length x1.Got:Int))))))=true then ((ki 16 e_0.Led [(Vote.mk x1.Term k_1)]).bind fun l47=>(some (Election.mk
  (List.set e_0.Servers k_1.toNat (Server.mk x1.Term x1.Voted false true x1.Got x1.Log)) e_0.Post l47))) else (some e_0)))

def wg (v_0:Election)(v_1:Int)(i89:Nat)(s81:Election)(s86:List Server) : Option (Oc (Election × (List Server)) (Bool × Election)):=(if (decide
  ((i89:Int)≠v_1))=true then ((zm s86 v_1).bind fun kc=>((u7 kc.Log).bind fun v131=>((ki 56 s81.Post [(Letter.mk (i89:Int) v_1 kc.Term true v131
  (List.length kc.Log:Int) false)]).bind fun l140=>(some (.nxt ((Election.mk s86 l140 v_0.Led),s86)))))) else (some (.nxt ((Election.mk s86 s81.Post v_0.Led),s86))))
def qbj (v_0:Election)(v_1:Int)(s158:Election)(s163:List Server)  : Option (Bool × Election):=((wx
  (Election.mk s163 s158.Post v_0.Led) v_1).bind fun v172=>(some (true,v172)))
def xn (v_0:Election)(v_1:Int) : Option (Bool × Election):=((zm v_0.Servers v_1).bind fun x1=>(if ((x1.Leads||(decide (x1.Term=100)))||(decide
  ((20:Int)<(IntKind.wrap .i64 ((IntKind.wrap .i64 ((List.length v_0.Post:Int)+(List.length v_0.Servers:Int))) - 1)))))=true then (some (false,
  v_0)) else (jn (qdy (fun i89 s157=>wg v_0 v_1 i89 s157.1 s157.2) (List.length v_0.Servers:Int) ((Election.mk (List.set v_0.Servers v_1.toNat
  (Server.mk (IntKind.wrap .i64 (x1.Term+1)) v_1 true x1.Leads [v_1] x1.Log)) v_0.Post v_0.Led),
  (List.set v_0.Servers v_1.toNat (Server.mk (IntKind.wrap .i64 (x1.Term+1)) v_1 true x1.Leads [v_1] x1.Log)))) (fun s185=>qbj v_0 v_1 s185.1 s185.2))))

def u5 (s_0:List Letter)(i_1:Int)(j_2:Int) : Option (List Letter):=qkd s_0 i_1 j_2

def qcg (last_0:Int)(long_1:Int)(b_2:List Int) : Option Bool:=((u7 b_2).bind fun v1=>((if (decide (v1<last_0))=true then (some true) else
  ((u7 b_2).bind fun v7=>(some ((decide (last_0=v7))&&(decide ((List.length b_2:Int)≤long_1)))))).bind fun v7=>(some v7)))

def yh (x_0:Int) : Bool:=(decide (x_0≠x_0))

def qbr (x_0:Int)(y_1:Int) : Bool:=(((yh x_0)&&(!(yh y_1)))||(decide (x_0<y_1)))

def y8 (x_0:Int) : Bool:=(decide (x_0≠x_0))

def yn (x_0:List Int)(target_1:Int)(s3:Int)(s4:Int) : Option (Oc (Int × Int) (Int × Bool)):=(if (decide (s3<s4))=true then ((zm x_0
  (IntKind.wrap .i64 (qkc .u64 (IntKind.wrap .u64 (IntKind.wrap .i64 (s3+s4))) 1))).bind fun x29=>(if (qbr x29 target_1)=true then (some (.nxt
  ((IntKind.wrap .i64 ((IntKind.wrap .i64 (qkc .u64 (IntKind.wrap .u64 (IntKind.wrap .i64 (s3+s4))) 1))+1)),s4))) else (some (.nxt (s3,
  (IntKind.wrap .i64 (qkc .u64 (IntKind.wrap .u64 (IntKind.wrap .i64 (s3+s4))) 1))))))) else (some (.brk (s3,s4))))
def uk (x_0:List Int)(target_1:Int)(s37:Int)(s38:Int)  : Option (Int × Bool):=((if (decide (s37<(List.length x_0:Int)))=true then
  ((zm x_0 s37).bind fun x50=>((if (decide (x50=target_1))=true then (some true) else ((zm x_0 s37).bind fun x56=>(some ((y8 x56) &&
  (y8 target_1))))).bind fun v56=>(some v56))) else (some false)).bind fun v50=>(some (s37,v50)))
def yk (k:Nat)(x_0:List Int)(target_1:Int) : Option (Int × Bool):=(jn (j6 (fun s36=>yn x_0 target_1 s36.1 s36.2) k (0,
  (List.length x_0:Int))) (fun s90=>uk x_0 target_1 s90.1 s90.2))

def ub (v_0:Election)(v_1:Letter)(v115:Bool)(s122:List Server)  : Option Election:=((zm s122 v_1.To).bind fun x166 =>
  ((ki 56 v_0.Post [(Letter.mk v_1.From v_1.To x166.Term false 0 0 v115)]).bind fun l190=>(some (Election.mk s122 l190 v_0.Led))))
def qb7 (k:Nat)(v_0:Election)(v_1:Letter)(s31:List Server)  : Option Election:=(if v_1.Asks=true then ((zm s31 v_1.To).bind fun x75=>(if
  ((decide (v_1.Term=x75.Term))&&((decide (x75.Voted=(-1)))||(decide (x75.Voted=v_1.From))))=true then ((qcg v_1.Last v_1.Long x75.Log).bind fun v115 =>
  ((if v115=true then (some (List.set s31 v_1.To.toNat (Server.mk x75.Term v_1.From x75.Stands x75.Leads x75.Got x75.Log))) else (some s31)).bind
  (fun s205=>ub v_0 v_1 v115 s205))) else ((ki 56 v_0.Post [(Letter.mk v_1.From v_1.To x75.Term false 0 0 false)]).bind fun l213=>(some
  (Election.mk s31 l213 v_0.Led))))) else ((if v_1.Grant=true then ((zm s31 v_1.To).bind fun x231=>(some (decide (v_1.Term=x231.Term)))) else
  (some false)).bind fun v231=>((if v231=true then ((zm s31 v_1.To).bind fun x264=>(some x264.Stands)) else (some false)).bind fun v264=>(if v264=true then
  ((zm s31 v_1.To).bind fun x295=>((yk k x295.Got v_1.From).bind fun v313=>(if (!v313.2)=true then
  ((qbp x295.Got v313.1 [v_1.From]).bind fun v324=>((wx (Election.mk (List.set s31 v_1.To.toNat
  (Server.mk x295.Term x295.Voted x295.Stands x295.Leads v324.1 x295.Log)) v_0.Post v_0.Led) v_1.To).bind fun v344=>(some v344))) else ((wx
  (Election.mk s31 v_0.Post v_0.Led) v_1.To).bind fun v361=>(some v361))))) else (some (Election.mk s31 v_0.Post v_0.Led))))))
def x4 (k:Nat)(v_0:Election)(v_1:Letter) : Option Election:=((zm v_0.Servers v_1.To).bind fun x7=>((if (decide (x7.Term<v_1.Term))=true then
  (some (List.set v_0.Servers v_1.To.toNat (Server.mk v_1.Term (-1) false false [] x7.Log))) else (some v_0.Servers)).bind (fun s374=>qb7 k v_0 v_1 s374)))

def kn (k:Nat)(v_0:Election)(v_1:ElectStep)(v17:Election)(s146:Bool)  : Option (Oc (Bool × Election × (List Server)) (Election × Bool)) :=
  (if s146=true then (if (!(zl v_1.Leader 0 (IntKind.wrap .i64 ((List.length v_0.Post:Int) - 1))))=true then (some (.ret ((Election.mk [] [] []),
  false))) else ((zm v_0.Post v_1.Leader).bind fun x173=>(if (decide (v_1.Term=4))=true then ((ki 56 v17.Post [x173]).bind fun l191=>(some (.nxt ((decide
  ((List.length v_0.Post:Int)<20)),(Election.mk v17.Servers l191 v17.Led),
  v17.Servers)))) else ((u5 v17.Post v_1.Leader (IntKind.wrap .i64 (v_1.Leader+1))).bind fun v203=>(if (decide (v_1.Term=2))=true then
  ((x4 k (Election.mk v17.Servers v203 v17.Led) x173).bind fun v215=>(some (.nxt (true,v215,v215.Servers)))) else (some (.nxt (true,
  (Election.mk v17.Servers v203 v17.Led),v17.Servers)))))))) else (some (.nxt (false,v17,v17.Servers))))
def k7 (k:Nat)(v_0:Election)(v_1:ElectStep)(v17:Election)(s63:Bool)  : Option (Oc (Bool × Election × (List Server)) (Election × Bool)) :=
  (if s63=true then (if (!(zl v_1.Leader 0 (IntKind.wrap .i64 ((List.length v_0.Servers:Int) - 1))))=true then (some (.ret ((Election.mk [] [] []),
  false))) else ((zm v17.Servers v_1.Leader).bind fun x89=>(if (decide (v_1.Term=5))=true then (some (.ret ((Election.mk (List.set v17.Servers v_1.Leader.toNat
  (Server.mk x89.Term x89.Voted false false [] x89.Log)) v17.Post v17.Led),true))) else ((xn v17 v_1.Leader).bind fun v130=>(some (.nxt (v130.1,v130.2,
  v130.2.Servers))))))) else ((if (decide (v_1.Term=2))=true then (some (decide (v_1.Term=2))) else (if (decide (v_1.Term=3))=true then (some (decide
  (v_1.Term=3))) else (some (decide (v_1.Term=4))))).bind (fun s233=>kn k v_0 v_1 v17 s233)))
def yv (s43:Bool)(s44:Election)(s53:List Server)  : Option (Election × Bool):=((if (!s43)=true then (some true) else ((xe
  (Election.mk s53 s44.Post s44.Led)).bind fun v244=>(some (!v244)))).bind fun v244=>(if v244=true then (some ((Election.mk [] [] []),
  false)) else (some ((Election.mk s53 s44.Post s44.Led),true))))
def wy (k:Nat)(v_0:Election)(v_1:ElectStep) : Option (Election × Bool):=((u1 v_0).bind fun v17=>(jn ((if (decide
  (v_1.Term=1))=true then (some (decide (v_1.Term=1))) else (some (decide (v_1.Term=5)))).bind (fun s234=>k7 k v_0 v_1 v17 s234))
  (fun s263=>yv s263.1 s263.2.1 s263.2.2)))

def u2 (s68:List Bool)(v118:Election × Bool)(s146:Election)  : Option (Oc ((List Bool) × Election) (Election × (List Bool) × Bool)) :=
  ((ki 1 s68 [v118.2]).bind fun l187=>(some (.nxt (l187,s146))))
def w6 (k:Nat)(i86:Nat)(x87:ElectStep)(s68:List Bool)(s73:Election) : Option (Oc ((List Bool) × Election) (Election × (List Bool) × Bool)) :=
  ((wy k s73 x87).bind fun v118=>((if v118.2=true then (some v118.1) else (some s73)).bind (fun s197=>u2 s68 v118 s197)))
def qei (s199:List Bool)(s204:Election)  : Option (Election × (List Bool) × Bool):=(some (s204,s199,true))
def ku (k:Nat)(logs_0:List (List Int))(l_1:List ElectStep) : Option (Election × (List Bool) × Bool):=((wq logs_0).bind fun v5=>(if
  ((!v5.2)||(decide ((80:Int)<(List.length l_1:Int))))=true then (some ((Election.mk [] [] []),[],
  false)) else (jn (ya (fun i86 x87 s198=>w6 k i86 x87 s198.1 s198.2) l_1 (([] : List Bool),v5.1)) (fun s226=>qei s226.1 s226.2))))

def kw (n_0:Int)(lo_1:Int)(hi_2:Int) : Bool:=((decide (lo_1≤n_0))&&(decide (n_0≤hi_2)))

def qbi (l_0:List Int) : Option Int:=(if (decide ((List.length l_0:Int)=0))=true then (some (-1)) else ((zm l_0 (IntKind.wrap .i64
  ((List.length l_0:Int) - 1))).bind fun x2=>(some x2)))

def qat (l_0:List Int)(i1:Nat)(x2:Int) : Option (Oc Unit Bool):=((if (!(kw x2 0 100))=true then (some true) else ((if (decide ((0:Int) <
  (i1:Int)))=true then ((zm l_0 (IntKind.wrap .i64 ((i1:Int) - 1))).bind fun x29=>(some (decide (x2<x29)))) else (some false)).bind fun v29 =>
  (some v29))).bind fun v26=>(if v26=true then (some (.ret false)) else (some (.nxt ()))))
def qe0 (l_0:List Int)  : Option Bool:=(some (decide ((List.length l_0:Int)≤30)))
def qan (l_0:List Int) : Option Bool:=(jn (ya (fun i1 x2 _=>qat l_0 i1 x2 ) l_0 ()) (fun _=>qe0 l_0 ))

def qau (i19:Nat)(x20:List Int)(s14:Election) : Option (Oc Election (Election × Bool)):=((qan x20).bind fun v43=>((if (!v43)=true then
  (some true) else ((qbi x20).bind fun v49=>(some (decide ((10:Int)<v49))))).bind fun v49=>(if v49=true then (some (.ret ((Election.mk [] [] []),
  false))) else ((ki 8 ([] : List Int) x20).bind fun l81=>((ki 72 s14.Servers ([(Server.mk 10 (-1) false false [] l81)])).bind fun l98=>(some (.nxt
  (Election.mk l98 [] []))))))))
def qar (logs_0:List (List Int))(s111:Election)  : Option (Election × Bool):=(if (!(kw (List.length logs_0:Int) 1 5))=true then (some
  ((Election.mk [] [] []),false)) else (some ((Election.mk s111.Servers [] []),true)))
def wn (logs_0:List (List Int)) : Option (Election × Bool):=(jn (ya (fun i19 x20 s110=>qau i19 x20 s110) logs_0 (Election.mk [] [] []))
  (fun s128=>qar logs_0 s128))

def qbv (e_0:Election)(k_1:Int) : Bool:=((decide ((0:Int)≤k_1))&&(decide (k_1<(List.length e_0.Servers:Int))))

def qcl (e_0:Election)(k_1:Int) : Option Election:=((zm e_0.Servers k_1).bind fun x9=>(if (x9.Stands&&(decide ((List.length e_0.Servers:Int) <
  (IntKind.wrap .i64 ((2:Int)*(List.length x9.Got:Int))))))=true then ((ki 16 e_0.Led [(Vote.mk x9.Term k_1)]).bind fun l61=>(some (Election.mk
  (List.set e_0.Servers k_1.toNat (Server.mk x9.Term x9.Voted false true x9.Got x9.Log)) e_0.Post l61))) else (some e_0)))

def ut (v_0:Election)(v_1:Int)(x9:Server)(i92:Nat)(s87:Election) : Option (Oc Election (Election × Bool)):=(if (decide
  ((i92:Int)≠v_1))=true then ((qbi x9.Log).bind fun v117=>((ki 56 s87.Post [(Letter.mk (i92:Int) v_1 (IntKind.wrap .i64 (x9.Term+1)) true v117
  (List.length x9.Log:Int) false)]).bind fun l127=>(some (.nxt (Election.mk v_0.Servers l127 v_0.Led))))) else (some (.nxt (Election.mk v_0.Servers s87.Post v_0.Led))))
def qdn (v_0:Election)(v_1:Int)(x9:Server)(s141:Election)  : Option (Election × Bool):=((qcl (Election.mk (List.set v_0.Servers v_1.toNat
  (Server.mk (IntKind.wrap .i64 (x9.Term+1)) v_1 true x9.Leads [v_1] x9.Log)) s141.Post v_0.Led) v_1).bind fun v158=>(some (v158,true)))
def qbt (v_0:Election)(v_1:Int) : Option (Election × Bool):=((zm v_0.Servers v_1).bind fun x9=>(if ((x9.Leads||(decide (x9.Term=100)))||(decide
  ((20:Int)<(IntKind.wrap .i64 ((IntKind.wrap .i64 ((List.length v_0.Post:Int)+(List.length v_0.Servers:Int))) - 1)))))=true then (some (v_0,
  false)) else (jn (qdy (fun i92 s140=>ut v_0 v_1 x9 i92 s140) (List.length v_0.Servers:Int) v_0) (fun s173=>qdn v_0 v_1 x9 s173))))

def qg7 (last_0:Int)(long_1:Int)(l_2:List Int) : Option Bool:=((qbi l_2).bind fun v1=>((if (decide (v1<last_0))=true then (some true) else
  ((qbi l_2).bind fun v7=>(some ((decide (last_0=v7))&&(decide ((List.length l_2:Int)≤long_1)))))).bind fun v7=>(some v7)))

def qd5 (l_0:List Int)(n_1:Int)(s2:Int) : Option (Oc Int (List Int)):=((if (decide (s2<(List.length l_0:Int)))=true then ((zm l_0 s2).bind fun x27 =>
  (some (decide (x27<n_1)))) else (some false)).bind fun v27=>(if v27=true then (some (.nxt (IntKind.wrap .i64 (s2+1)))) else (some (.brk s2))))
def qf1 (l_0:List Int)(n_1:Int)(s48:Int)  : Option (List Int):=((if (decide (s48<(List.length l_0:Int)))=true then ((zm l_0 s48).bind fun x58=>(some
  (decide (x58=n_1)))) else (some false)).bind fun v58=>(if v58=true then (some l_0) else ((sl l_0 0 s48).bind fun l76=>((ki 8 ([] : List Int) l76).bind fun l83 =>
  ((ki 8 l83 [n_1]).bind fun l98=>((sl l_0 s48 (List.length l_0)).bind fun l107=>((ki 8 l98 l107).bind fun l114=>(some l114))))))))
def qdl (k:Nat)(l_0:List Int)(n_1:Int) : Option (List Int):=(jn (j6 (fun s47=>qd5 l_0 n_1 s47) k 0) (fun s123=>qf1 l_0 n_1 s123))

def qhr (v_0:Election)(s153:Election)(s158:List Server)  : Option Election:=(some (Election.mk s158 s153.Post v_0.Led))
def qdc (v_0:Election)(v_1:Letter)(x15:Server)(s41:Server)(v100:Bool)(s128:Server)  : Option Election:=((if (decide
  ((List.length v_0.Post:Int)<20))=true then ((ki 56 v_0.Post [(Letter.mk v_1.From v_1.To s128.Term false 0 0 v100)]).bind fun l176=>(some ((Election.mk
  (List.set v_0.Servers v_1.To.toNat (Server.mk s128.Term s128.Voted s128.Stands s128.Leads s41.Got x15.Log)) l176 v_0.Led),
  (List.set v_0.Servers v_1.To.toNat (Server.mk s128.Term s128.Voted s128.Stands s128.Leads s41.Got x15.Log))))) else (some ((Election.mk (List.set v_0.Servers v_1.To.toNat
  (Server.mk s128.Term s128.Voted s128.Stands s128.Leads s41.Got x15.Log)) v_0.Post v_0.Led),
  (List.set v_0.Servers v_1.To.toNat (Server.mk s128.Term s128.Voted s128.Stands s128.Leads s41.Got x15.Log))))).bind (fun s206=>qhr v_0 s206.1 s206.2))
def qdj (v_0:Election)(v_1:Letter)(x15:Server)(s230:Server)  : Option Election:=((qcl (Election.mk (List.set v_0.Servers v_1.To.toNat
  (Server.mk s230.Term s230.Voted s230.Stands s230.Leads s230.Got x15.Log)) v_0.Post v_0.Led) v_1.To).bind fun v272=>(some v272))
def qfc (k:Nat)(v_0:Election)(v_1:Letter)(x15:Server)(s41:Server)  : Option Election:=(if v_1.Asks=true then ((if ((decide (v_1.Term=s41.Term)) &&
  ((decide (s41.Voted=(-1)))||(decide (s41.Voted=v_1.From))))=true then ((qg7 v_1.Last v_1.Long x15.Log).bind fun v100=>(some v100)) else
  (some false)).bind fun v100=>((if (v100&&(decide ((List.length v_0.Post:Int)<20)))=true then (some
  (Server.mk s41.Term v_1.From s41.Stands s41.Leads s41.Got x15.Log)) else (some (Server.mk s41.Term s41.Voted s41.Stands s41.Leads s41.Got x15.Log))).bind
  (fun s207=>qdc v_0 v_1 x15 s41 v100 s207))) else ((if ((v_1.Grant&&(decide (v_1.Term=s41.Term)))&&s41.Stands)=true then
  ((qdl k s41.Got v_1.From).bind fun v243=>(some (Server.mk s41.Term s41.Voted s41.Stands s41.Leads v243 x15.Log))) else (some
  (Server.mk s41.Term s41.Voted s41.Stands s41.Leads s41.Got x15.Log))).bind (fun s287=>qdj v_0 v_1 x15 s287)))
def qdw (k:Nat)(v_0:Election)(v_1:Letter) : Option Election:=((zm v_0.Servers v_1.To).bind fun x15=>((if (decide (x15.Term<v_1.Term))=true then (some
  (Server.mk v_1.Term (-1) false false [] x15.Log)) else (some x15)).bind (fun s288=>qfc k v_0 v_1 x15 s288)))

def qdx (k:Nat)(v_0:Election)(v_1:ElectStep) : Option (Election × Bool):=(if ((decide (v_1.Term=1))||(decide (v_1.Term=5)))=true then (if
  (!(qbv v_0 v_1.Leader))=true then (some (v_0,false)) else (if (decide (v_1.Term=1))=true then ((qbt v_0 v_1.Leader).bind fun v30=>(some (v30.1,
  v30.2))) else ((zm v_0.Servers v_1.Leader).bind fun x47=>(some ((Election.mk (List.set v_0.Servers v_1.Leader.toNat
  (Server.mk x47.Term x47.Voted false false [] x47.Log)) v_0.Post v_0.Led),
  true))))) else (if (((!(kw v_1.Term 2 4))||(decide (v_1.Leader<0)))||(decide ((List.length v_0.Post:Int)≤v_1.Leader)))=true then (some (v_0,
  false)) else ((zm v_0.Post v_1.Leader).bind fun kc=>(if (decide (v_1.Term=4))=true then (if (decide ((List.length v_0.Post:Int)=20))=true then (some (v_0,
  false)) else ((ki 56 v_0.Post [kc]).bind fun l136=>(some ((Election.mk v_0.Servers l136 v_0.Led),
  true)))) else ((sl v_0.Post 0 v_1.Leader).bind fun l156=>((ki 56 ([] : List Letter) l156).bind fun l163=>((sl v_0.Post (IntKind.wrap .i64 (v_1.Leader+1))
  (List.length v_0.Post)).bind fun l174=>((ki 56 l163 l174).bind fun l181=>(if (decide (v_1.Term=2))=true then ((qdw k
  (Election.mk v_0.Servers l181 v_0.Led) kc).bind fun v193=>(some (v193,true))) else (some ((Election.mk v_0.Servers l181 v_0.Led),true)))))))))))

def qax (l28:List Letter)(l38:List Vote)(i59:Nat)(x60:Server)(s54:Election) : Option (Oc Election Election):=((ki 8
  ([] : List Int) x60.Got).bind fun l94=>((ki 8 ([] : List Int) x60.Log).bind fun l111 =>
  ((ki 72 s54.Servers [(Server.mk x60.Term x60.Voted x60.Stands x60.Leads l94 l111)]).bind fun l128=>(some (.nxt (Election.mk l128 l28 l38))))))
def qin (l28:List Letter)(l38:List Vote)(s141:Election)  : Option Election:=(some (Election.mk s141.Servers l28 l38))
def qdi (e_0:Election) : Option Election:=((ki 56 ([] : List Letter) e_0.Post).bind fun l28=>((ki 16 ([] : List Vote) e_0.Led).bind fun l38=>(jn (ya
  (fun i59 x60 s140=>qax l28 l38 i59 x60 s140) e_0.Servers (Election.mk [] l28 l38)) (fun s154=>qin l28 l38 s154))))

def qca (s62:List Bool)(v136:Election × Bool)(s155:Election)  : Option (Oc ((List Bool) × Election) (Election × (List Bool) × Bool)) :=
  ((ki 1 s62 [v136.2]).bind fun l196=>(some (.nxt (l196,s155))))
def xd (k:Nat)(i80:Nat)(x81:ElectStep)(s62:List Bool)(s67:Election) : Option (Oc ((List Bool) × Election) (Election × (List Bool) × Bool)) :=
  ((qdi s67).bind fun v116=>((qdx k v116 x81).bind fun v136=>((if v136.2=true then (some v136.1) else (some s67)).bind
  (fun s206=>qca s62 v136 s206))))
def qb9 (s208:List Bool)(s213:Election)  : Option (Election × (List Bool) × Bool):=((qdi s213).bind fun v233=>(some (v233,s208,true)))
def k9 (k:Nat)(logs_0:List (List Int))(l_1:List ElectStep) : Option (Election × (List Bool) × Bool):=((wn logs_0).bind fun v5=>(if
  ((!v5.2)||(decide ((80:Int)<(List.length l_1:Int))))=true then (some ((Election.mk [] [] []),[],
  false)) else (jn (ya (fun i80 x81 s207=>xd k i80 x81 s207.1 s207.2) l_1 (([],
  v5.1) : (List Bool) × Election)) (fun s255=>qb9 s255.1 s255.2))))

def qdz (a_0:List Int)(left_1:Int) : Option Int:=(if (decide ((IntKind.wrap .i64 (left_1 - (List.length a_0:Int)))<0))=true then (some (-1)) else (some
  (IntKind.wrap .i64 (left_1 - (List.length a_0:Int)))))

def qbd (a_0:List (List Int))(s4:Int)(s5:Int) : Option (Oc (Int × Int) Int):=(if (decide (s5<(List.length a_0:Int)))=true then
  ((zm a_0 s5).bind fun x28=>((qdz x28 s4).bind fun v31=>(if (decide (v31<0))=true then (some (.ret (-1))) else (some (.nxt (v31,
  (IntKind.wrap .i64 (s5+1)))))))) else (some (.brk (s4,s5))))
def qhe (s41:Int)(s42:Int)  : Option Int:=(some s41)
def qcu (k:Nat)(a_0:List (List Int))(left_1:Int) : Option Int:=(if (decide ((IntKind.wrap .i64 (left_1 - (List.length a_0:Int)))<0))=true then (some
  (-1)) else (jn (j6 (fun s40=>qbd a_0 s40.1 s40.2) k ((IntKind.wrap .i64 (left_1 - (List.length a_0:Int))),0)) (fun s49=>qhe s49.1 s49.2)))

def ux (a_0:List ElectStep)(left_1:Int) : Option Int:=(if (decide ((IntKind.wrap .i64 (left_1 - (List.length a_0:Int)))<0))=true then (some (-1)) else
  (some (IntKind.wrap .i64 (left_1 - (List.length a_0:Int)))))

def qb5 (a_0:List Int)(s14:Int)(s15:List Int) : Option (Oc (Int × (List Int)) (List Int)):=(if (decide (s14<(List.length a_0:Int)))=true then
  ((zm a_0 s14).bind fun x40=>((zm s15 s14).bind fun x43=>(some (.nxt ((IntKind.wrap .i64 (s14+1)),(List.set s15 s14.toNat x40)))))) else (some (.brk (s14,s15))))
def qhq (s56:Int)(s57:List Int)  : Option (List Int):=(some s57)
def qdq (k:Nat)(a_0:List Int) : Option (List Int):=((mkN 8 (List.length a_0:Int) (0:Int)).bind fun l1=>(jn (j6
  (fun s55=>qb5 a_0 s55.1 s55.2) k (0,l1)) (fun s66=>qhq s66.1 s66.2)))

def qbe (k:Nat)(a_0:List (List Int))(s14:Int)(s15:List (List Int)) : Option (Oc (Int × (List (List Int))) (List (List Int))):=(if (decide (s14 <
  (List.length a_0:Int)))=true then ((zm a_0 s14).bind fun x40=>((qdq k x40).bind fun v43=>((zm s15 s14).bind fun x55=>(some (.nxt ((IntKind.wrap .i64
  (s14+1)),(List.set s15 s14.toNat v43))))))) else (some (.brk (s14,s15))))
def qg5 (s83:Int)(s84:List (List Int))  : Option (List (List Int)):=(some s84)
def x6 (k:Nat)(a_0:List (List Int)) : Option (List (List Int)):=((mkN 24 (List.length a_0:Int) []).bind fun l1=>(jn (j6
  (fun s82=>qbe k a_0 s82.1 s82.2) k (0,l1)) (fun s93=>qg5 s93.1 s93.2)))

def qac (a_0:ElectStep) : ElectStep:=a_0

def xg (a_0:List ElectStep)(s14:Int)(s15:List ElectStep) : Option (Oc (Int × (List ElectStep)) (List ElectStep)):=(if (decide (s14 <
  (List.length a_0:Int)))=true then ((zm a_0 s14).bind fun x40=>((zm s15 s14).bind fun x43=>(some (.nxt ((IntKind.wrap .i64 (s14+1)),
  (List.set s15 s14.toNat (qac x40))))))) else (some (.brk (s14,s15))))
def qeq (s56:Int)(s57:List ElectStep)  : Option (List ElectStep):=(some s57)
def yp (k:Nat)(a_0:List ElectStep) : Option (List ElectStep):=((mkN 16 (List.length a_0:Int) (ElectStep.mk (0:Int) (0:Int))).bind fun l1=>(jn (j6
  (fun s55=>xg a_0 s55.1 s55.2) k (0,l1)) (fun s66=>qeq s66.1 s66.2)))

def qb3 (a_0:List Int)(b_1:List Int)(s3:Int) : Option (Oc Int Bool):=(if (decide (s3<(List.length a_0:Int)))=true then ((zm a_0 s3).bind fun x26 =>
  ((zm b_1 s3).bind fun x29=>(if (decide (x26≠x29))=true then (some (.ret false)) else (some (.nxt (IntKind.wrap .i64 (s3+1))))))) else (some (.brk s3)))
def qho (s39:Int)  : Option Bool:=(some true)
def qbn (k:Nat)(a_0:List Int)(b_1:List Int) : Option Bool:=(if (decide ((List.length a_0:Int)≠(List.length b_1:Int)))=true then (some false) else (jn
  (j6 (fun s38=>qb3 a_0 b_1 s38) k 0) (fun s46=>qho s46)))

def qci (k:Nat)(a_0:Server)(b_1:Server) : Option Bool:=(if (decide (a_0.Term≠b_1.Term))=true then (some false) else (if (decide
  (a_0.Voted≠b_1.Voted))=true then (some false) else (if (!(a_0.Stands == b_1.Stands))=true then (some false) else (if (!(a_0.Leads == b_1.Leads))=true then
  (some false) else ((qbn k a_0.Got b_1.Got).bind fun v17=>(if (!v17)=true then (some false) else ((qbn k a_0.Log b_1.Log).bind fun v21=>(if
  (!v21)=true then (some false) else (some true)))))))))

def uo (k:Nat)(a_0:List Server)(b_1:List Server)(s3:Int) : Option (Oc Int Bool):=(if (decide (s3<(List.length a_0:Int)))=true then
  ((zm a_0 s3).bind fun x26=>((zm b_1 s3).bind fun x29=>((qci k x26 x29).bind fun v32=>(if (!v32)=true then (some (.ret false)) else (some (.nxt
  (IntKind.wrap .i64 (s3+1)))))))) else (some (.brk s3)))
def qf7 (s42:Int)  : Option Bool:=(some true)
def qb0 (k:Nat)(a_0:List Server)(b_1:List Server) : Option Bool:=(if (decide ((List.length a_0:Int)≠(List.length b_1:Int)))=true then
  (some false) else (jn (j6 (fun s41=>uo k a_0 b_1 s41) k 0) (fun s49=>qf7 s49)))

def qch (a_0:Letter)(b_1:Letter) : Option Bool:=(if (decide (a_0.To≠b_1.To))=true then (some false) else (if (decide (a_0.From≠b_1.From))=true then
  (some false) else (if (decide (a_0.Term≠b_1.Term))=true then (some false) else (if (!(a_0.Asks == b_1.Asks))=true then (some false) else (if (decide
  (a_0.Last≠b_1.Last))=true then (some false) else (if (decide (a_0.Long≠b_1.Long))=true then (some false) else (if (!(a_0.Grant == b_1.Grant))=true then
  (some false) else (some true))))))))

def uq (a_0:List Letter)(b_1:List Letter)(s3:Int) : Option (Oc Int Bool):=(if (decide (s3<(List.length a_0:Int)))=true then
  ((zm a_0 s3).bind fun x26=>((zm b_1 s3).bind fun x29=>((qch x26 x29).bind fun v32=>(if (!v32)=true then (some (.ret false)) else (some (.nxt
  (IntKind.wrap .i64 (s3+1)))))))) else (some (.brk s3)))
def qf3 (s42:Int)  : Option Bool:=(some true)
def qbx (k:Nat)(a_0:List Letter)(b_1:List Letter) : Option Bool:=(if (decide ((List.length a_0:Int)≠(List.length b_1:Int)))=true then
  (some false) else (jn (j6 (fun s41=>uq a_0 b_1 s41) k 0) (fun s49=>qf3 s49)))

def qdt (a_0:Vote)(b_1:Vote) : Option Bool:=(if (decide (a_0.Term≠b_1.Term))=true then (some false) else (if (decide (a_0.Leader≠b_1.Leader))=true then
  (some false) else (some true)))

def qbc (a_0:List Vote)(b_1:List Vote)(s3:Int) : Option (Oc Int Bool):=(if (decide (s3<(List.length a_0:Int)))=true then
  ((zm a_0 s3).bind fun x26=>((zm b_1 s3).bind fun x29=>((qdt x26 x29).bind fun v32=>(if (!v32)=true then (some (.ret false)) else (some (.nxt
  (IntKind.wrap .i64 (s3+1)))))))) else (some (.brk s3)))
def qg0 (s42:Int)  : Option Bool:=(some true)
def qcr (k:Nat)(a_0:List Vote)(b_1:List Vote) : Option Bool:=(if (decide ((List.length a_0:Int)≠(List.length b_1:Int)))=true then (some false) else (jn
  (j6 (fun s41=>qbc a_0 b_1 s41) k 0) (fun s49=>qg0 s49)))

def w7 (k:Nat)(a_0:Election)(b_1:Election) : Option Bool:=((qb0 k a_0.Servers b_1.Servers).bind fun v13=>(if (!v13)=true then
  (some false) else ((qbx k a_0.Post b_1.Post).bind fun v17=>(if (!v17)=true then (some false) else ((qcr k a_0.Led b_1.Led).bind fun v21=>(if
  (!v21)=true then (some false) else (some true)))))))

def qbf (a_0:List Bool)(b_1:List Bool)(s3:Int) : Option (Oc Int Bool):=(if (decide (s3<(List.length a_0:Int)))=true then
  ((zm a_0 s3).bind fun x26=>((zm b_1 s3).bind fun x29=>(if (!(x26 == x29))=true then (some (.ret false)) else (some (.nxt (IntKind.wrap .i64 (s3+1))))))) else
  (some (.brk s3)))
def qg4 (s39:Int)  : Option Bool:=(some true)
def qak (k:Nat)(a_0:List Bool)(b_1:List Bool) : Option Bool:=(if (decide ((List.length a_0:Int)≠(List.length b_1:Int)))=true then (some false) else (jn
  (j6 (fun s38=>qbf a_0 b_1 s38) k 0) (fun s46=>qg4 s46)))

def qa3 (k:Nat)(a_0:List (List Int))(b_1:List (List Int))(s3:Int) : Option (Oc Int Bool):=(if (decide (s3<(List.length a_0:Int)))=true then
  ((zm a_0 s3).bind fun x26=>((zm b_1 s3).bind fun x29=>((qbn k x26 x29).bind fun v32=>(if (!v32)=true then (some (.ret false)) else (some (.nxt
  (IntKind.wrap .i64 (s3+1)))))))) else (some (.brk s3)))
def qg6 (s42:Int)  : Option Bool:=(some true)
def qcq (k:Nat)(a_0:List (List Int))(b_1:List (List Int)) : Option Bool:=(if (decide ((List.length a_0:Int)≠(List.length b_1:Int)))=true then
  (some false) else (jn (j6 (fun s41=>qa3 k a_0 b_1 s41) k 0) (fun s49=>qg6 s49)))

def qad (a_0:ElectStep)(b_1:ElectStep) : Option Bool:=(if (decide (a_0.Term≠b_1.Term))=true then (some false) else (if (decide
  (a_0.Leader≠b_1.Leader))=true then (some false) else (some true)))

def w5 (a_0:List ElectStep)(b_1:List ElectStep)(s3:Int) : Option (Oc Int Bool):=(if (decide (s3<(List.length a_0:Int)))=true then
  ((zm a_0 s3).bind fun x26=>((zm b_1 s3).bind fun x29=>((qad x26 x29).bind fun v32=>(if (!v32)=true then (some (.ret false)) else (some (.nxt
  (IntKind.wrap .i64 (s3+1)))))))) else (some (.brk s3)))
def qeh (s42:Int)  : Option Bool:=(some true)
def ul (k:Nat)(a_0:List ElectStep)(b_1:List ElectStep) : Option Bool:=(if (decide ((List.length a_0:Int)≠(List.length b_1:Int)))=true then
  (some false) else (jn (j6 (fun s41=>w5 a_0 b_1 s41) k 0) (fun s49=>qeh s49)))

def qae (s6:Int)(s7:Int)(s8:List Int) : Option (Oc (Int × Int × (List Int)) (Int × (List Int))):=(if (decide (s7<(List.length s8:Int)))=true then
  ((zm s8 s7).bind fun x33=>(some (.nxt ((IntKind.wrap .i64 (s6+1)),(IntKind.wrap .i64 (s7+1)),(List.set s8 s7.toNat s6))))) else (some (.brk (s6,s7,s8))))
def qgs (s46:Int)(s47:Int)(s48:List Int)  : Option (Int × (List Int)):=(some (s46,s48))
def uj (k:Nat)(a_0:List Int)(k_1:Int) : Option (Int × (List Int)):=(jn (j6 (fun s45=>qae s45.1 s45.2.1 s45.2.2) k (k_1,0,
  a_0)) (fun s57=>qgs s57.1 s57.2.1 s57.2.2))

def ur (k:Nat)(s6:Int)(s7:Int)(s8:List (List Int)) : Option (Oc (Int × Int × (List (List Int))) (Int × (List (List Int)))):=(if (decide (s7 <
  (List.length s8:Int)))=true then ((zm s8 s7).bind fun x33=>((uj k x33 s6).bind fun v49=>(some (.nxt (v49.1,(IntKind.wrap .i64 (s7+1)),
  (List.set s8 s7.toNat v49.2)))))) else (some (.brk (s6,s7,s8))))
def qf5 (s64:Int)(s65:Int)(s66:List (List Int))  : Option (Int × (List (List Int))):=(some (s64,s66))
def qb2 (k:Nat)(a_0:List (List Int))(k_1:Int) : Option (Int × (List (List Int))):=(jn (j6 (fun s63=>ur k s63.1 s63.2.1 s63.2.2) k (k_1,0,
  a_0)) (fun s75=>qf5 s75.1 s75.2.1 s75.2.2))

def wi (s6:Int)(s7:Int)(s8:List ElectStep) : Option (Oc (Int × Int × (List ElectStep)) (Int × (List ElectStep))):=(if (decide (s7 <
  (List.length s8:Int)))=true then ((zm s8 s7).bind fun x33=>(some (.nxt ((IntKind.wrap .i64 ((IntKind.wrap .i64 (s6+1))+1)),(IntKind.wrap .i64 (s7+1)),
  (List.set s8 s7.toNat (ElectStep.mk s6 (IntKind.wrap .i64 (s6+1)))))))) else (some (.brk (s6,s7,s8))))
def qdv (s51:Int)(s52:Int)(s53:List ElectStep)  : Option (Int × (List ElectStep)):=(some (s51,s53))
def xm (k:Nat)(a_0:List ElectStep)(k_1:Int) : Option (Int × (List ElectStep)):=(jn (j6 (fun s50=>wi s50.1 s50.2.1 s50.2.2) k
  (k_1,0,a_0)) (fun s62=>qdv s62.1 s62.2.1 s62.2.2))

def xp (k:Nat)(s6:Int)(s7:Int)(s8:List Server) : Option (Oc (Int × Int × (List Server)) (Int × (List Server))):=(if (decide (s7 <
  (List.length s8:Int)))=true then ((zm s8 s7).bind fun x33=>((uj k x33.Got (IntKind.wrap .i64 ((IntKind.wrap .i64 ((IntKind.wrap .i64 ((IntKind.wrap .i64
  (s6+1))+1))+1))+1))).bind fun v69=>((uj k x33.Log v69.1).bind fun v76=>(some (.nxt (v76.1,(IntKind.wrap .i64 (s7+1)),
  (List.set s8 s7.toNat (Server.mk s6 (IntKind.wrap .i64 (s6+1)) (decide ((Int.tmod (IntKind.wrap .i64 ((IntKind.wrap .i64 (s6+1))+1)) 3)=0)) (decide ((Int.tmod
  (IntKind.wrap .i64 ((IntKind.wrap .i64 ((IntKind.wrap .i64 (s6+1))+1))+1)) 3)=0)) v69.2 v76.2)))))))) else (some (.brk (s6,s7,s8))))
def qew (s91:Int)(s92:Int)(s93:List Server)  : Option (Int × (List Server)):=(some (s91,s93))
def qaj (k:Nat)(a_0:List Server)(k_1:Int) : Option (Int × (List Server)):=(jn (j6 (fun s90=>xp k s90.1 s90.2.1 s90.2.2) k (k_1,0,
  a_0)) (fun s102=>qew s102.1 s102.2.1 s102.2.2))

def xq (s6:Int)(s7:Int)(s8:List Letter) : Option (Oc (Int × Int × (List Letter)) (Int × (List Letter))):=(if (decide (s7 <
  (List.length s8:Int)))=true then ((zm s8 s7).bind fun x33=>(some (.nxt ((IntKind.wrap .i64 ((IntKind.wrap .i64 ((IntKind.wrap .i64 ((IntKind.wrap .i64
  ((IntKind.wrap .i64 ((IntKind.wrap .i64 ((IntKind.wrap .i64 (s6+1))+1))+1))+1))+1))+1))+1)),(IntKind.wrap .i64 (s7+1)),
  (List.set s8 s7.toNat (Letter.mk s6 (IntKind.wrap .i64 (s6+1)) (IntKind.wrap .i64 ((IntKind.wrap .i64 (s6+1))+1)) (decide ((Int.tmod (IntKind.wrap .i64
  ((IntKind.wrap .i64 ((IntKind.wrap .i64 (s6+1))+1))+1)) 3)=0)) (IntKind.wrap .i64 ((IntKind.wrap .i64 ((IntKind.wrap .i64 ((IntKind.wrap .i64
  (s6+1))+1))+1))+1)) (IntKind.wrap .i64 ((IntKind.wrap .i64 ((IntKind.wrap .i64 ((IntKind.wrap .i64 ((IntKind.wrap .i64 (s6+1))+1))+1))+1))+1)) (decide
  ((Int.tmod (IntKind.wrap .i64 ((IntKind.wrap .i64 ((IntKind.wrap .i64 ((IntKind.wrap .i64 ((IntKind.wrap .i64 ((IntKind.wrap .i64
  (s6+1))+1))+1))+1))+1))+1)) 3)=0)))))))) else (some (.brk (s6,s7,s8))))
def qez (s76:Int)(s77:Int)(s78:List Letter)  : Option (Int × (List Letter)):=(some (s76,s78))
def qal (k:Nat)(v_0:List Letter)(v_1:Int) : Option (Int × (List Letter)):=(jn (j6 (fun s75=>xq s75.1 s75.2.1 s75.2.2) k (v_1,0,
  v_0)) (fun s87=>qez s87.1 s87.2.1 s87.2.2))

def uu (s6:Int)(s7:Int)(s8:List Vote) : Option (Oc (Int × Int × (List Vote)) (Int × (List Vote))):=(if (decide (s7<(List.length s8:Int)))=true then
  ((zm s8 s7).bind fun x33=>(some (.nxt ((IntKind.wrap .i64 ((IntKind.wrap .i64 (s6+1))+1)),(IntKind.wrap .i64 (s7+1)),
  (List.set s8 s7.toNat (Vote.mk s6 (IntKind.wrap .i64 (s6+1)))))))) else (some (.brk (s6,s7,s8))))
def qf8 (s51:Int)(s52:Int)(s53:List Vote)  : Option (Int × (List Vote)):=(some (s51,s53))
def qb6 (k:Nat)(a_0:List Vote)(k_1:Int) : Option (Int × (List Vote)):=(jn (j6 (fun s50=>uu s50.1 s50.2.1 s50.2.2) k (k_1,0,
  a_0)) (fun s62=>qf8 s62.1 s62.2.1 s62.2.2))

def um (k:Nat)(a_0:Election)(k_1:Int) : Option (Int × Election):=((qaj k a_0.Servers k_1).bind fun v7 =>
  ((qal k a_0.Post v7.1).bind fun v14=>((qb6 k a_0.Led v14.1).bind fun v21=>(some (v21.1,(Election.mk v7.2 v14.2 v21.2))))))

def uz (s6:Int)(s7:Int)(s8:List Bool) : Option (Oc (Int × Int × (List Bool)) (Int × (List Bool))):=(if (decide (s7<(List.length s8:Int)))=true then
  ((zm s8 s7).bind fun x33=>(some (.nxt ((IntKind.wrap .i64 (s6+1)),(IntKind.wrap .i64 (s7+1)),
  (List.set s8 s7.toNat (decide ((Int.tmod s6 3)=0))))))) else (some (.brk (s6,s7,s8))))
def qf9 (s46:Int)(s47:Int)(s48:List Bool)  : Option (Int × (List Bool)):=(some (s46,s48))
def qbu (k:Nat)(a_0:List Bool)(k_1:Int) : Option (Int × (List Bool)):=(jn (j6 (fun s45=>uz s45.1 s45.2.1 s45.2.2) k (k_1,0,
  a_0)) (fun s57=>qf9 s57.1 s57.2.1 s57.2.2))

def qam (a_0:List Int)(s3:Int)(s4:Int) : Option (Oc (Int × Int) Int):=(if (decide (s4<(List.length a_0:Int)))=true then
  ((zm a_0 s4).bind fun x27=>(if (decide (x27≠s3))=true then (some (.ret (-1))) else (some (.nxt ((IntKind.wrap .i64 (s3+1)),
  (IntKind.wrap .i64 (s4+1))))))) else (some (.brk (s3,s4))))
def qgn (s37:Int)(s38:Int)  : Option Int:=(some s37)
def qa0 (k:Nat)(a_0:List Int)(k_1:Int) : Option Int:=(jn (j6 (fun s36=>qam a_0 s36.1 s36.2) k (k_1,
  0)) (fun s45=>qgn s45.1 s45.2))

def xl (k:Nat)(v_0:List Server)(s3:Int)(s4:Int) : Option (Oc (Int × Int) Int):=(if (decide (s4<(List.length v_0:Int)))=true then
  ((zm v_0 s4).bind fun x27=>(if (decide (x27.Term≠s3))=true then (some (.ret (-1))) else ((zm v_0 s4).bind fun x34=>(if (decide (x34.Voted≠(IntKind.wrap .i64
  (s3+1))))=true then (some (.ret (-1))) else ((zm v_0 s4).bind fun x41=>(if (!(x41.Stands == (decide ((Int.tmod (IntKind.wrap .i64 ((IntKind.wrap .i64
  (s3+1))+1)) 3)=0))))=true then (some (.ret (-1))) else ((zm v_0 s4).bind fun x48=>(if (!(x48.Leads == (decide ((Int.tmod (IntKind.wrap .i64 ((IntKind.wrap .i64
  ((IntKind.wrap .i64 (s3+1))+1))+1)) 3)=0))))=true then (some (.ret (-1))) else ((zm v_0 s4).bind fun x55=>((qa0 k x55.Got (IntKind.wrap .i64
  ((IntKind.wrap .i64 ((IntKind.wrap .i64 ((IntKind.wrap .i64 (s3+1))+1))+1))+1))).bind fun v58=>(if (decide (v58<0))=true then (some (.ret (-1))) else
  ((zm v_0 s4).bind fun x65=>((qa0 k x65.Log v58).bind fun v68=>(if (decide (v68<0))=true then (some (.ret (-1))) else (some (.nxt (v68,
  (IntKind.wrap .i64 (s4+1))))))))))))))))))) else (some (.brk (s3,s4))))
def qev (s78:Int)(s79:Int)  : Option Int:=(some s78)
def qaf (k:Nat)(v_0:List Server)(v_1:Int) : Option Int:=(jn (j6 (fun s77=>xl k v_0 s77.1 s77.2) k (v_1,
  0)) (fun s86=>qev s86.1 s86.2))

def xu (v_0:List Letter)(s3:Int)(s4:Int) : Option (Oc (Int × Int) Int):=(if (decide (s4<(List.length v_0:Int)))=true then
  ((zm v_0 s4).bind fun x27=>(if (decide (x27.To≠s3))=true then (some (.ret (-1))) else ((zm v_0 s4).bind fun x34=>(if (decide (x34.From≠(IntKind.wrap .i64
  (s3+1))))=true then (some (.ret (-1))) else ((zm v_0 s4).bind fun x41=>(if (decide (x41.Term≠(IntKind.wrap .i64 ((IntKind.wrap .i64 (s3+1))+1))))=true then
  (some (.ret (-1))) else ((zm v_0 s4).bind fun x48=>(if (!(x48.Asks == (decide ((Int.tmod (IntKind.wrap .i64 ((IntKind.wrap .i64 ((IntKind.wrap .i64
  (s3+1))+1))+1)) 3)=0))))=true then (some (.ret (-1))) else ((zm v_0 s4).bind fun x55=>(if (decide (x55.Last≠(IntKind.wrap .i64 ((IntKind.wrap .i64
  ((IntKind.wrap .i64 ((IntKind.wrap .i64 (s3+1))+1))+1))+1))))=true then (some (.ret (-1))) else ((zm v_0 s4).bind fun x62=>(if (decide (x62.Long ≠
  (IntKind.wrap .i64 ((IntKind.wrap .i64 ((IntKind.wrap .i64 ((IntKind.wrap .i64 ((IntKind.wrap .i64 (s3+1))+1))+1))+1))+1))))=true then (some (.ret (-1))) else
  ((zm v_0 s4).bind fun x69=>(if (!(x69.Grant == (decide ((Int.tmod (IntKind.wrap .i64 ((IntKind.wrap .i64 ((IntKind.wrap .i64 ((IntKind.wrap .i64 ((IntKind.wrap .i64
  ((IntKind.wrap .i64 (s3+1))+1))+1))+1))+1))+1)) 3)=0))))=true then (some (.ret (-1))) else (some (.nxt ((IntKind.wrap .i64 ((IntKind.wrap .i64
  ((IntKind.wrap .i64 ((IntKind.wrap .i64 ((IntKind.wrap .i64 ((IntKind.wrap .i64 ((IntKind.wrap .i64 (s3+1))+1))+1))+1))+1))+1))+1)),
  (IntKind.wrap .i64 (s4+1))))))))))))))))))) else (some (.brk (s3,s4))))
def qex (s79:Int)(s80:Int)  : Option Int:=(some s79)
def qai (k:Nat)(v_0:List Letter)(v_1:Int) : Option Int:=(jn (j6 (fun s78=>xu v_0 s78.1 s78.2) k (v_1,
  0)) (fun s87=>qex s87.1 s87.2))

def u0 (a_0:List Vote)(s3:Int)(s4:Int) : Option (Oc (Int × Int) Int):=(if (decide (s4<(List.length a_0:Int)))=true then
  ((zm a_0 s4).bind fun x27=>(if (decide (x27.Term≠s3))=true then (some (.ret (-1))) else ((zm a_0 s4).bind fun x34=>(if (decide (x34.Leader≠(IntKind.wrap .i64
  (s3+1))))=true then (some (.ret (-1))) else (some (.nxt ((IntKind.wrap .i64 ((IntKind.wrap .i64 (s3+1))+1)),(IntKind.wrap .i64 (s4+1))))))))) else (some (.brk (s3,
  s4))))
def qf2 (s44:Int)(s45:Int)  : Option Int:=(some s44)
def qbw (k:Nat)(a_0:List Vote)(k_1:Int) : Option Int:=(jn (j6 (fun s43=>u0 a_0 s43.1 s43.2) k (k_1,
  0)) (fun s52=>qf2 s52.1 s52.2))

def xk (k:Nat)(a_0:Election)(k_1:Int) : Option Int:=((qaf k a_0.Servers k_1).bind fun v7=>(if (decide (v7<0))=true then (some
  (-1)) else ((qai k a_0.Post v7).bind fun v11=>(if (decide (v11<0))=true then (some (-1)) else ((qbw k a_0.Led v11).bind fun v15=>(if (decide
  (v15<0))=true then (some (-1)) else (some v15)))))))

def uw (a_0:List Bool)(s3:Int)(s4:Int) : Option (Oc (Int × Int) Int):=(if (decide (s4<(List.length a_0:Int)))=true then
  ((zm a_0 s4).bind fun x27=>(if (!(x27 == (decide ((Int.tmod s3 3)=0))))=true then (some (.ret (-1))) else (some (.nxt ((IntKind.wrap .i64 (s3+1)),
  (IntKind.wrap .i64 (s4+1))))))) else (some (.brk (s3,s4))))
def qf4 (s37:Int)(s38:Int)  : Option Int:=(some s37)
def qaa (k:Nat)(a_0:List Bool)(k_1:Int) : Option Int:=(jn (j6 (fun s36=>uw a_0 s36.1 s36.2) k (k_1,
  0)) (fun s45=>qf4 s45.1 s45.2))

def yx (k:Nat)(v_0:List (List Int))(v_1:List ElectStep) : Option Bool:=((qcu k v_0 1048576).bind fun v1=>(if (decide
  (v1<0))=true then (some true) else ((ux v_1 v1).bind fun v5=>(if (decide (v5<0))=true then (some true) else ((x6 k v_0).bind fun v9 =>
  ((yp k v_1).bind fun v21=>((k9 k v9 v21).bind fun v33=>((x6 k v_0).bind fun v65=>((yp k v_1).bind fun v77 =>
  ((ku k v65 v77).bind fun v89=>((w7 k v89.1 v33.1).bind fun v121=>((if (!v121)=true then (some true) else
  ((qak k v89.2.1 v33.2.1).bind fun v127=>(some (!v127)))).bind fun v127=>(if (v127||(!(v89.2.2 == v33.2.2)))=true then (some false) else
  ((x6 k v_0).bind fun v167=>((qcq k v65 v167).bind fun v179=>(if (!v179)=true then (some false) else ((yp k v_1).bind fun v183 =>
  ((ul k v77 v183).bind fun v195=>(if (!v195)=true then (some false) else ((qb2 k v65 1).bind fun v199 =>
  ((xm k v77 v199.1).bind fun v206=>((if (decide (v206.1<0))=true then (some true) else ((w7 k v89.1 v33.1).bind fun v216=>(some
  (!v216)))).bind fun v216=>((if v216=true then (some true) else ((qak k v89.2.1 v33.2.1).bind fun v239=>(some (!v239)))).bind fun v239=>(if (v239 ||
  (!(v89.2.2 == v33.2.2)))=true then (some false) else ((um k v89.1 1).bind fun v274=>((qbu k v89.2.1 v274.1).bind fun v285 =>
  ((xk k v274.2 1).bind fun v292=>(if (decide (v292<0))=true then (some false) else ((qaa k v285.2 v292).bind fun v296=>(if (decide
  (v296<0))=true then (some false) else (if (decide (v296≠v285.1))=true then (some false) else ((x6 k v_0).bind fun v301 =>
  ((yp k v_1).bind fun v313=>((ku k v301 v313).bind fun v325=>((w7 k v325.1 v33.1).bind fun v357=>((if (!v357)=true then
  (some true) else ((qak k v325.2.1 v33.2.1).bind fun v363=>(some (!v363)))).bind fun v363=>(if (v363||(!(v325.2.2 == v33.2.2)))=true then (some false) else
  ((xk k v274.2 1).bind fun v391=>(if (decide (v391<0))=true then (some false) else ((qaa k v285.2 v391).bind fun v395=>(if (decide
  (v395<0))=true then (some false) else (if (decide (v395≠v285.1))=true then (some false) else (some true)))))))))))))))))))))))))))))))))))))))))))
end Go.Proofs.Ytpddolihbnfahaa.X
