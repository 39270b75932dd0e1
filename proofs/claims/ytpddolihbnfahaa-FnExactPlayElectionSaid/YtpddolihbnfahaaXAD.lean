/- The seat's types and functions, as plain Lean has them. -/
import Derived.Test.YtpddolihbnfahaaZIns
set_option linter.unusedVariables false
set_option linter.unusedSimpArgs false
set_option maxRecDepth 100000
namespace Go.Proofs.Ytpddolihbnfahaa.X
open Go
open Nat (reduceEqDiff)
structure BoundsError where
 x:Int
 y:Int
 signed:Bool
 code:Int
 deriving DecidableEq,Inhabited
def BoundsError.cells (x:BoundsError) : List XV:=[.int .i64 x.x,.int .i64 x.y,.bool x.signed,.int .u8 x.code]
structure Server where
 Term:Int
 Voted:Int
 Stands:Bool
 Leads:Bool
 Got:List Int
 Log:List Int
 deriving DecidableEq,Inhabited
def Server.cells (x:Server) : List XV:=[.int .i64 x.Term,.int .i64 x.Voted,.bool x.Stands,.bool x.Leads,lst cI x.Got,lst cI x.Log]
structure Letter where
 To:Int
 From:Int
 Term:Int
 Asks:Bool
 Last:Int
 Long:Int
 Grant:Bool
 deriving DecidableEq,Inhabited
def Letter.cells (x:Letter) : List XV:=[.int .i64 x.To,.int .i64 x.From,.int .i64 x.Term,.bool x.Asks,.int .i64 x.Last,.int .i64 x.Long,.bool x.Grant]
structure Vote where
 Term:Int
 Leader:Int
 deriving DecidableEq,Inhabited
def Vote.cells (x:Vote) : List XV:=[.int .i64 x.Term,.int .i64 x.Leader]
structure Election where
 Servers:List Server
 Post:List Letter
 Led:List Vote
 deriving DecidableEq,Inhabited
def Election.cells (x:Election) : List XV:=[lst Server.cells x.Servers,lst Letter.cells x.Post,lst Vote.cells x.Led]
structure Vote48 where
 Kind:Int
 K:Int
 deriving DecidableEq,Inhabited
def Vote48.cells (x:Vote48) : List XV:=[.int .i64 x.Kind,.int .i64 x.K]
structure ElectStep where
 Term:Int
 Leader:Int
 deriving DecidableEq,Inhabited
def ElectStep.cells (x:ElectStep) : List XV:=[.int .i64 x.Term,.int .i64 x.Leader]
structure L1Cur where
 code:List Int
 at_:Int
 seed:Int
 deriving DecidableEq,Inhabited
def L1Cur.cells (x:L1Cur) : List XV:=[lst cU8 x.code,.int .i64 x.at_,.int .u64 x.seed]

def qbq (s_0:List Int)(i_1:Int)(v_2:List Int) : Option (List Int × List Int):=qlo s_0 i_1 v_2

def zl (n_0:Int)(low_1:Int)(high_2:Int) : Bool:=((decide (low_1≤n_0))&&(decide (n_0≤high_2)))

def u6 (l_0:List Int) : Option Int:=(if (decide ((List.length l_0:Int)=0))=true then (some (-1)) else ((zm l_0 (IntKind.wrap .i64
  ((List.length l_0:Int) - 1))).bind fun x2=>(some x2)))

def qa9 (l_0:List Int)(i1:Nat)(x2:Int) : Option (Oc Unit Bool):=((if (!(zl x2 0 100))=true then (some true) else ((if (decide ((0:Int) <
  (i1:Int)))=true then ((zm l_0 (IntKind.wrap .i64 ((i1:Int) - 1))).bind fun x29=>(some (decide (x2<x29)))) else (some false)).bind fun v29 =>
  (some v29))).bind fun v26=>(if v26=true then (some (.ret false)) else (some (.nxt ()))))
def qfn (l_0:List Int)  : Option Bool:=(some (decide ((List.length l_0:Int)≤30)))
def ua (l_0:List Int) : Option Bool:=(jn (ya (fun i1 x2 _=>qa9 l_0 i1 x2 ) l_0 ()) (fun _=>qfn l_0 ))

def qap (i24:Nat)(x25:List Int)(s19:Election) : Option (Oc Election (Election × Bool)):=((ua x25).bind fun v47=>((if (!v47)=true then
  (some true) else ((u6 x25).bind fun v53=>(some (decide ((10:Int)<v53))))).bind fun v53=>(if v53=true then (some (.ret ((Election.mk [] [] []),
  false))) else ((kg 8 ([] : List Int) x25).bind fun l83=>((kg 72 s19.Servers ([(Server.mk 10 (-1) false false [] l83)])).bind fun l100=>(some (.nxt
  (Election.mk l100 [] []))))))))
def qez (s113:Election)  : Option (Election × Bool):=(some ((Election.mk s113.Servers [] []),true))
def wq (logs_0:List (List Int)) : Option (Election × Bool):=(if (!(zl (List.length logs_0:Int) 1 5))=true then (some ((Election.mk [] [] []),
  false)) else (jn (ya (fun i24 x25 s112=>qap i24 x25 s112) logs_0 (Election.mk [] [] [])) (fun s126=>qez s126)))

def qbf (list_0:List Int)(many_1:Int)(i1:Nat)(x2:Int) : Option (Oc Unit Bool):=((if (!(zl x2 0 (IntKind.wrap .i64 (many_1 - 1))))=true then
  (some true) else ((if (decide ((0:Int)<(i1:Int)))=true then ((zm list_0 (IntKind.wrap .i64 ((i1:Int) - 1))).bind fun x30=>(some (decide (x2≤x30)))) else
  (some false)).bind fun v30=>(some v30))).bind fun v27=>(if v27=true then (some (.ret false)) else (some (.nxt ()))))
def qfl  : Option Bool:=(some true)
def qa7 (list_0:List Int)(many_1:Int) : Option Bool:=(jn (ya (fun i1 x2 _=>qbf list_0 many_1 i1 x2 ) list_0 ())
  (fun _=>qfl ))

def y9 (f_1:Vote→Option Bool)(i1:Nat)(x2:Vote) : Option (Oc Unit Int):=((f_1 x2).bind fun v23=>(if v23=true then (some (.ret
  (i1:Int))) else (some (.nxt ()))))
def qcz  : Option Int:=(some (-1))
def ub (s_0:List Vote)(f_1:Vote→Option Bool) : Option Int:=(jn (ya (fun i1 x2 _=>y9 f_1 i1 x2 ) s_0 ())
  (fun _=>qcz ))

def xb (s_0:List Vote)(f_1:Vote→Option Bool) : Option Bool:=((ub s_0 f_1).bind fun v1=>(some (decide ((0:Int)≤v1))))

def xj (v_0:Vote)(cap_0:Int) : Bool:=((!(zl v_0.Term 0 100))||(!(zl v_0.Leader 0 (IntKind.wrap .i64 (cap_0 - 1)))))

def qa5 (v_0:Election)(i34:Nat)(x35:Server) : Option (Oc Unit Bool):=((if (((!(zl x35.Term 0 100))||(!(zl x35.Voted (-1) (IntKind.wrap .i64
  ((List.length v_0.Servers:Int) - 1)))))||(x35.Stands&&x35.Leads))=true then (some true) else ((qa7 x35.Got
  (List.length v_0.Servers:Int)).bind fun v108=>(some (!v108)))).bind fun v108=>((if (v108||(((!x35.Stands)&&(!x35.Leads))&&(decide ((0:Int) <
  (List.length x35.Got:Int)))))=true then (some true) else ((ua x35.Log).bind fun v170=>(some (!v170)))).bind fun v170=>(if v170=true then (some
  (.ret false)) else (some (.nxt ())))))
def qa3 (v_0:Election)(i199:Nat)(x200:Letter) : Option (Oc Unit Bool):=(if (!(zl x200.To 0 (IntKind.wrap .i64
  ((List.length v_0.Servers:Int) - 1))))=true then (some (.ret false)) else (if ((!(zl x200.From 0 (IntKind.wrap .i64 ((List.length v_0.Servers:Int) - 1)))) ||
  (decide (x200.To=x200.From)))=true then (some (.ret false)) else ((zm v_0.Servers x200.From).bind fun x251=>(if (!(zl x200.Term 0 x251.Term))=true then (some
  (.ret false)) else (if ((x200.Asks&&((x200.Grant||(!(zl x200.Last (-1) 100)))||(!(zl x200.Long 0 30))))||((!x200.Asks)&&((decide (x200.Last≠0)) ||
  (decide (x200.Long≠0)))))=true then (some (.ret false)) else (some (.nxt ())))))))
def qc2 (v_0:Election)  : Option Bool:=((xb v_0.Led (fun a0=>some (xj a0
  (List.length v_0.Servers:Int)))).bind fun v350=>(some (!v350)))
def qc5 (v_0:Election)  : Option Bool:=(jn (ya (fun i199 x200 _=>qa3 v_0 i199 x200 ) v_0.Post ()) (fun _=>qc2 v_0 ))
def xd (v_0:Election) : Option Bool:=(if (((!(zl (List.length v_0.Servers:Int) 1 5))||(decide ((20:Int)<(List.length v_0.Post:Int))))||(decide
  ((80:Int)<(List.length v_0.Led:Int))))=true then (some false) else (jn (ya (fun i34 x35 _=>qa5 v_0 i34 x35 ) v_0.Servers ())
  (fun _=>qc5 v_0 )))

def u3 (l27:List Letter)(l37:List Vote)(i58:Nat)(x59:Server)(s53:Election) : Option (Oc Election Election):=((kg 8
  ([] : List Int) x59.Got).bind fun l93=>((kg 8 ([] : List Int) x59.Log).bind fun l110 =>
  ((kg 72 s53.Servers [(Server.mk x59.Term x59.Voted x59.Stands x59.Leads l93 l110)]).bind fun l127=>(some (.nxt (Election.mk l127 l27 l37))))))
def qei (l27:List Letter)(l37:List Vote)(s140:Election)  : Option Election:=(some (Election.mk s140.Servers l27 l37))
def uk (e_0:Election) : Option Election:=((kg 56 ([] : List Letter) e_0.Post).bind fun l27=>((kg 16 ([] : List Vote) e_0.Led).bind fun l37=>(jn (ya
  (fun i58 x59 s139=>u3 l27 l37 i58 x59 s139) e_0.Servers (Election.mk [] l27 l37)) (fun s153=>qei l27 l37 s153))))

def wt (e_0:Election)(k_1:Int) : Option Election:=((zm e_0.Servers k_1).bind fun x1=>(if (x1.Stands&&(decide ((List.length e_0.Servers:Int) <
  (IntKind.wrap .i64 ((2:Int)*(List.length x1.Got:Int))))))=true then ((kg 16 e_0.Led [(Vote.mk x1.Term k_1)]).bind fun l46=>(some (Election.mk
  (List.set e_0.Servers k_1.toNat (Server.mk x1.Term x1.Voted false true x1.Got x1.Log)) e_0.Post l46))) else (some e_0)))

def wi (v_0:Election)(v_1:Int)(i89:Nat)(s81:Election)(s86:List Server) : Option (Oc (Election × (List Server)) (Bool × Election)):=(if (decide
  ((i89:Int)≠v_1))=true then ((zm s86 v_1).bind fun kc=>((u6 kc.Log).bind fun v131=>((kg 56 s81.Post [(Letter.mk (i89:Int) v_1 kc.Term true v131
  (List.length kc.Log:Int) false)]).bind fun l140=>(some (.nxt ((Election.mk s86 l140 v_0.Led),s86)))))) else (some (.nxt ((Election.mk s86 s81.Post v_0.Led),s86))))
def qbj (v_0:Election)(v_1:Int)(s158:Election)(s163:List Server)  : Option (Bool × Election):=((wt
  (Election.mk s163 s158.Post v_0.Led) v_1).bind fun v172=>(some (true,v172)))
def xk (v_0:Election)(v_1:Int) : Option (Bool × Election):=((zm v_0.Servers v_1).bind fun x1=>(if ((x1.Leads||(decide (x1.Term=100)))||(decide
  ((20:Int)<(IntKind.wrap .i64 ((IntKind.wrap .i64 ((List.length v_0.Post:Int)+(List.length v_0.Servers:Int))) - 1)))))=true then (some (false,
  v_0)) else (jn (qdr (fun i89 s157=>wi v_0 v_1 i89 s157.1 s157.2) (List.length v_0.Servers:Int) ((Election.mk (List.set v_0.Servers v_1.toNat
  (Server.mk (IntKind.wrap .i64 (x1.Term+1)) v_1 true x1.Leads [v_1] x1.Log)) v_0.Post v_0.Led),
  (List.set v_0.Servers v_1.toNat (Server.mk (IntKind.wrap .i64 (x1.Term+1)) v_1 true x1.Leads [v_1] x1.Log)))) (fun s185=>qbj v_0 v_1 s185.1 s185.2))))

def u2 (s_0:List Letter)(i_1:Int)(j_2:Int) : Option (List Letter):=qkh s_0 i_1 j_2

def qci (last_0:Int)(long_1:Int)(b_2:List Int) : Option Bool:=((u6 b_2).bind fun v1=>((if (decide (v1<last_0))=true then (some true) else
  ((u6 b_2).bind fun v7=>(some ((decide (last_0=v7))&&(decide ((List.length b_2:Int)≤long_1)))))).bind fun v7=>(some v7)))

def yi (x_0:Int) : Bool:=(decide (x_0≠x_0))

def qby (x_0:Int)(y_1:Int) : Bool:=(((yi x_0)&&(!(yi y_1)))||(decide (x_0<y_1)))

def wa (x_0:Int) : Bool:=(decide (x_0≠x_0))

def yo (x_0:List Int)(target_1:Int)(s3:Int)(s4:Int) : Option (Oc (Int × Int) (Int × Bool)):=(if (decide (s3<s4))=true then ((zm x_0
  (IntKind.wrap .i64 (qj3 .u64 (IntKind.wrap .u64 (IntKind.wrap .i64 (s3+s4))) 1))).bind fun x29=>(if (qby x29 target_1)=true then (some (.nxt
  ((IntKind.wrap .i64 ((IntKind.wrap .i64 (qj3 .u64 (IntKind.wrap .u64 (IntKind.wrap .i64 (s3+s4))) 1))+1)),s4))) else (some (.nxt (s3,
  (IntKind.wrap .i64 (qj3 .u64 (IntKind.wrap .u64 (IntKind.wrap .i64 (s3+s4))) 1))))))) else (some (.brk (s3,s4))))
def uh (x_0:List Int)(target_1:Int)(s37:Int)(s38:Int)  : Option (Int × Bool):=((if (decide (s37<(List.length x_0:Int)))=true then
  ((zm x_0 s37).bind fun x50=>((if (decide (x50=target_1))=true then (some true) else ((zm x_0 s37).bind fun x56=>(some ((wa x56) &&
  (wa target_1))))).bind fun v56=>(some v56))) else (some false)).bind fun v50=>(some (s37,v50)))
def yl (k:Nat)(x_0:List Int)(target_1:Int) : Option (Int × Bool):=(jn (j6 (fun s36=>yo x_0 target_1 s36.1 s36.2) k (0,
  (List.length x_0:Int))) (fun s90=>uh x_0 target_1 s90.1 s90.2))

def x6 (v_0:Election)(v_1:Letter)(v115:Bool)(s122:List Server)  : Option Election:=((zm s122 v_1.To).bind fun x166 =>
  ((kg 56 v_0.Post [(Letter.mk v_1.From v_1.To x166.Term false 0 0 v115)]).bind fun l190=>(some (Election.mk s122 l190 v_0.Led))))
def qb0 (k:Nat)(v_0:Election)(v_1:Letter)(s31:List Server)  : Option Election:=(if v_1.Asks=true then ((zm s31 v_1.To).bind fun x75=>(if
  ((decide (v_1.Term=x75.Term))&&((decide (x75.Voted=(-1)))||(decide (x75.Voted=v_1.From))))=true then ((qci v_1.Last v_1.Long x75.Log).bind fun v115 =>
  ((if v115=true then (some (List.set s31 v_1.To.toNat (Server.mk x75.Term v_1.From x75.Stands x75.Leads x75.Got x75.Log))) else (some s31)).bind
  (fun s205=>x6 v_0 v_1 v115 s205))) else ((kg 56 v_0.Post [(Letter.mk v_1.From v_1.To x75.Term false 0 0 false)]).bind fun l212=>(some
  (Election.mk s31 l212 v_0.Led))))) else ((if v_1.Grant=true then ((zm s31 v_1.To).bind fun x230=>(some (decide (v_1.Term=x230.Term)))) else
  (some false)).bind fun v230=>((if v230=true then ((zm s31 v_1.To).bind fun x263=>(some x263.Stands)) else (some false)).bind fun v263=>(if v263=true then
  ((zm s31 v_1.To).bind fun x294=>((yl k x294.Got v_1.From).bind fun v312=>(if (!v312.2)=true then
  ((qbq x294.Got v312.1 [v_1.From]).bind fun v322=>((wt (Election.mk (List.set s31 v_1.To.toNat
  (Server.mk x294.Term x294.Voted x294.Stands x294.Leads v322.1 x294.Log)) v_0.Post v_0.Led) v_1.To).bind fun v342=>(some v342))) else ((wt
  (Election.mk s31 v_0.Post v_0.Led) v_1.To).bind fun v359=>(some v359))))) else (some (Election.mk s31 v_0.Post v_0.Led))))))
def x3 (k:Nat)(v_0:Election)(v_1:Letter) : Option Election:=((zm v_0.Servers v_1.To).bind fun x7=>((if (decide (x7.Term<v_1.Term))=true then
  (some (List.set v_0.Servers v_1.To.toNat (Server.mk v_1.Term (-1) false false [] x7.Log))) else (some v_0.Servers)).bind (fun s372=>qb0 k v_0 v_1 s372)))

def ko (k:Nat)(v_0:Election)(v_1:ElectStep)(v17:Election)(s146:Bool)  : Option (Oc (Bool × Election × (List Server)) (Election × Bool)) :=
  (if s146=true then (if (!(zl v_1.Leader 0 (IntKind.wrap .i64 ((List.length v_0.Post:Int) - 1))))=true then (some (.ret ((Election.mk [] [] []),
  false))) else ((zm v_0.Post v_1.Leader).bind fun x173=>(if (decide (v_1.Term=4))=true then ((kg 56 v17.Post [x173]).bind fun l191=>(some (.nxt ((decide
  ((List.length v_0.Post:Int)<20)),(Election.mk v17.Servers l191 v17.Led),
  v17.Servers)))) else ((u2 v17.Post v_1.Leader (IntKind.wrap .i64 (v_1.Leader+1))).bind fun v203=>(if (decide (v_1.Term=2))=true then
  ((x3 k (Election.mk v17.Servers v203 v17.Led) x173).bind fun v215=>(some (.nxt (true,v215,v215.Servers)))) else (some (.nxt (true,
  (Election.mk v17.Servers v203 v17.Led),v17.Servers)))))))) else (some (.nxt (false,v17,v17.Servers))))
def k7 (k:Nat)(v_0:Election)(v_1:ElectStep)(v17:Election)(s63:Bool)  : Option (Oc (Bool × Election × (List Server)) (Election × Bool)) :=
  (if s63=true then (if (!(zl v_1.Leader 0 (IntKind.wrap .i64 ((List.length v_0.Servers:Int) - 1))))=true then (some (.ret ((Election.mk [] [] []),
  false))) else ((zm v17.Servers v_1.Leader).bind fun x89=>(if (decide (v_1.Term=5))=true then (some (.ret ((Election.mk (List.set v17.Servers v_1.Leader.toNat
  (Server.mk x89.Term x89.Voted false false [] x89.Log)) v17.Post v17.Led),true))) else ((xk v17 v_1.Leader).bind fun v130=>(some (.nxt (v130.1,v130.2,
  v130.2.Servers))))))) else ((if (decide (v_1.Term=2))=true then (some (decide (v_1.Term=2))) else (if (decide (v_1.Term=3))=true then (some (decide
  (v_1.Term=3))) else (some (decide (v_1.Term=4))))).bind (fun s233=>ko k v_0 v_1 v17 s233)))
def yw (s43:Bool)(s44:Election)(s53:List Server)  : Option (Election × Bool):=((if (!s43)=true then (some true) else ((xd
  (Election.mk s53 s44.Post s44.Led)).bind fun v244=>(some (!v244)))).bind fun v244=>(if v244=true then (some ((Election.mk [] [] []),
  false)) else (some ((Election.mk s53 s44.Post s44.Led),true))))
def wu (k:Nat)(v_0:Election)(v_1:ElectStep) : Option (Election × Bool):=((uk v_0).bind fun v17=>(jn ((if (decide
  (v_1.Term=1))=true then (some (decide (v_1.Term=1))) else (some (decide (v_1.Term=5)))).bind (fun s234=>k7 k v_0 v_1 v17 s234))
  (fun s263=>yw s263.1 s263.2.1 s263.2.2)))

def u1 (s68:List Bool)(v118:Election × Bool)(s146:Election)  : Option (Oc ((List Bool) × Election) (Election × (List Bool) × Bool)) :=
  ((kg 1 s68 [v118.2]).bind fun l187=>(some (.nxt (l187,s146))))
def xg (k:Nat)(i86:Nat)(x87:ElectStep)(s68:List Bool)(s73:Election) : Option (Oc ((List Bool) × Election) (Election × (List Bool) × Bool)) :=
  ((wu k s73 x87).bind fun v118=>((if v118.2=true then (some v118.1) else (some s73)).bind (fun s197=>u1 s68 v118 s197)))
def qem (s199:List Bool)(s204:Election)  : Option (Election × (List Bool) × Bool):=(some (s204,s199,true))
def ku (k:Nat)(logs_0:List (List Int))(l_1:List ElectStep) : Option (Election × (List Bool) × Bool):=((wq logs_0).bind fun v5=>(if
  ((!v5.2)||(decide ((80:Int)<(List.length l_1:Int))))=true then (some ((Election.mk [] [] []),[],
  false)) else (jn (ya (fun i86 x87 s198=>xg k i86 x87 s198.1 s198.2) l_1 (([] : List Bool),v5.1)) (fun s226=>qem s226.1 s226.2))))

def kw (n_0:Int)(lo_1:Int)(hi_2:Int) : Bool:=((decide (lo_1≤n_0))&&(decide (n_0≤hi_2)))

def qbk (l_0:List Int) : Option Int:=(if (decide ((List.length l_0:Int)=0))=true then (some (-1)) else ((zm l_0 (IntKind.wrap .i64
  ((List.length l_0:Int) - 1))).bind fun x2=>(some x2)))

def qar (l_0:List Int)(i1:Nat)(x2:Int) : Option (Oc Unit Bool):=((if (!(kw x2 0 100))=true then (some true) else ((if (decide ((0:Int) <
  (i1:Int)))=true then ((zm l_0 (IntKind.wrap .i64 ((i1:Int) - 1))).bind fun x29=>(some (decide (x2<x29)))) else (some false)).bind fun v29 =>
  (some v29))).bind fun v26=>(if v26=true then (some (.ret false)) else (some (.nxt ()))))
def qev (l_0:List Int)  : Option Bool:=(some (decide ((List.length l_0:Int)≤30)))
def qae (l_0:List Int) : Option Bool:=(jn (ya (fun i1 x2 _=>qar l_0 i1 x2 ) l_0 ()) (fun _=>qev l_0 ))

def qat (i19:Nat)(x20:List Int)(s14:Election) : Option (Oc Election (Election × Bool)):=((qae x20).bind fun v43=>((if (!v43)=true then
  (some true) else ((qbk x20).bind fun v49=>(some (decide ((10:Int)<v49))))).bind fun v49=>(if v49=true then (some (.ret ((Election.mk [] [] []),
  false))) else ((kg 8 ([] : List Int) x20).bind fun l80=>((kg 72 s14.Servers ([(Server.mk 10 (-1) false false [] l80)])).bind fun l97=>(some (.nxt
  (Election.mk l97 [] []))))))))
def qau (logs_0:List (List Int))(s110:Election)  : Option (Election × Bool):=(if (!(kw (List.length logs_0:Int) 1 5))=true then (some
  ((Election.mk [] [] []),false)) else (some ((Election.mk s110.Servers [] []),true)))
def ws (logs_0:List (List Int)) : Option (Election × Bool):=(jn (ya (fun i19 x20 s109=>qat i19 x20 s109) logs_0 (Election.mk [] [] []))
  (fun s127=>qau logs_0 s127))

def qb1 (e_0:Election)(k_1:Int) : Bool:=((decide ((0:Int)≤k_1))&&(decide (k_1<(List.length e_0.Servers:Int))))

def qcm (e_0:Election)(k_1:Int) : Option Election:=((zm e_0.Servers k_1).bind fun x9=>(if (x9.Stands&&(decide ((List.length e_0.Servers:Int) <
  (IntKind.wrap .i64 ((2:Int)*(List.length x9.Got:Int))))))=true then ((kg 16 e_0.Led [(Vote.mk x9.Term k_1)]).bind fun l61=>(some (Election.mk
  (List.set e_0.Servers k_1.toNat (Server.mk x9.Term x9.Voted false true x9.Got x9.Log)) e_0.Post l61))) else (some e_0)))

def ut (v_0:Election)(v_1:Int)(x9:Server)(i92:Nat)(s87:Election) : Option (Oc Election (Election × Bool)):=(if (decide
  ((i92:Int)≠v_1))=true then ((qbk x9.Log).bind fun v117=>((kg 56 s87.Post [(Letter.mk (i92:Int) v_1 (IntKind.wrap .i64 (x9.Term+1)) true v117
  (List.length x9.Log:Int) false)]).bind fun l126=>(some (.nxt (Election.mk v_0.Servers l126 v_0.Led))))) else (some (.nxt (Election.mk v_0.Servers s87.Post v_0.Led))))
def qdo (v_0:Election)(v_1:Int)(x9:Server)(s140:Election)  : Option (Election × Bool):=((qcm (Election.mk (List.set v_0.Servers v_1.toNat
  (Server.mk (IntKind.wrap .i64 (x9.Term+1)) v_1 true x9.Leads [v_1] x9.Log)) s140.Post v_0.Led) v_1).bind fun v157=>(some (v157,true)))
def qbz (v_0:Election)(v_1:Int) : Option (Election × Bool):=((zm v_0.Servers v_1).bind fun x9=>(if ((x9.Leads||(decide (x9.Term=100)))||(decide
  ((20:Int)<(IntKind.wrap .i64 ((IntKind.wrap .i64 ((List.length v_0.Post:Int)+(List.length v_0.Servers:Int))) - 1)))))=true then (some (v_0,
  false)) else (jn (qdr (fun i92 s139=>ut v_0 v_1 x9 i92 s139) (List.length v_0.Servers:Int) v_0) (fun s172=>qdo v_0 v_1 x9 s172))))

def qha (last_0:Int)(long_1:Int)(l_2:List Int) : Option Bool:=((qbk l_2).bind fun v1=>((if (decide (v1<last_0))=true then (some true) else
  ((qbk l_2).bind fun v7=>(some ((decide (last_0=v7))&&(decide ((List.length l_2:Int)≤long_1)))))).bind fun v7=>(some v7)))

def qd5 (l_0:List Int)(n_1:Int)(s2:Int) : Option (Oc Int (List Int)):=((if (decide (s2<(List.length l_0:Int)))=true then ((zm l_0 s2).bind fun x27 =>
  (some (decide (x27<n_1)))) else (some false)).bind fun v27=>(if v27=true then (some (.nxt (IntKind.wrap .i64 (s2+1)))) else (some (.brk s2))))
def qfz (l_0:List Int)(n_1:Int)(s48:Int)  : Option (List Int):=((if (decide (s48<(List.length l_0:Int)))=true then ((zm l_0 s48).bind fun x58=>(some
  (decide (x58=n_1)))) else (some false)).bind fun v58=>(if v58=true then (some l_0) else ((sl l_0 0 s48).bind fun l76=>((kg 8 ([] : List Int) l76).bind fun l83 =>
  ((kg 8 l83 [n_1]).bind fun l98=>((sl l_0 s48 (List.length l_0)).bind fun l107=>((kg 8 l98 l107).bind fun l114=>(some l114))))))))
def qda (k:Nat)(l_0:List Int)(n_1:Int) : Option (List Int):=(jn (j6 (fun s47=>qd5 l_0 n_1 s47) k 0) (fun s123=>qfz l_0 n_1 s123))

def qh1 (v_0:Election)(s153:Election)(s158:List Server)  : Option Election:=(some (Election.mk s158 s153.Post v_0.Led))
def qdk (v_0:Election)(v_1:Letter)(x15:Server)(s41:Server)(v100:Bool)(s128:Server)  : Option Election:=((if (decide
  ((List.length v_0.Post:Int)<20))=true then ((kg 56 v_0.Post [(Letter.mk v_1.From v_1.To s128.Term false 0 0 v100)]).bind fun l176=>(some ((Election.mk
  (List.set v_0.Servers v_1.To.toNat (Server.mk s128.Term s128.Voted s128.Stands s128.Leads s41.Got x15.Log)) l176 v_0.Led),
  (List.set v_0.Servers v_1.To.toNat (Server.mk s128.Term s128.Voted s128.Stands s128.Leads s41.Got x15.Log))))) else (some ((Election.mk (List.set v_0.Servers v_1.To.toNat
  (Server.mk s128.Term s128.Voted s128.Stands s128.Leads s41.Got x15.Log)) v_0.Post v_0.Led),
  (List.set v_0.Servers v_1.To.toNat (Server.mk s128.Term s128.Voted s128.Stands s128.Leads s41.Got x15.Log))))).bind (fun s206=>qh1 v_0 s206.1 s206.2))
def qdi (v_0:Election)(v_1:Letter)(x15:Server)(s230:Server)  : Option Election:=((qcm (Election.mk (List.set v_0.Servers v_1.To.toNat
  (Server.mk s230.Term s230.Voted s230.Stands s230.Leads s230.Got x15.Log)) v_0.Post v_0.Led) v_1.To).bind fun v272=>(some v272))
def qe8 (k:Nat)(v_0:Election)(v_1:Letter)(x15:Server)(s41:Server)  : Option Election:=(if v_1.Asks=true then ((if ((decide (v_1.Term=s41.Term)) &&
  ((decide (s41.Voted=(-1)))||(decide (s41.Voted=v_1.From))))=true then ((qha v_1.Last v_1.Long x15.Log).bind fun v100=>(some v100)) else
  (some false)).bind fun v100=>((if (v100&&(decide ((List.length v_0.Post:Int)<20)))=true then (some
  (Server.mk s41.Term v_1.From s41.Stands s41.Leads s41.Got x15.Log)) else (some (Server.mk s41.Term s41.Voted s41.Stands s41.Leads s41.Got x15.Log))).bind
  (fun s207=>qdk v_0 v_1 x15 s41 v100 s207))) else ((if ((v_1.Grant&&(decide (v_1.Term=s41.Term)))&&s41.Stands)=true then
  ((qda k s41.Got v_1.From).bind fun v243=>(some (Server.mk s41.Term s41.Voted s41.Stands s41.Leads v243 x15.Log))) else (some
  (Server.mk s41.Term s41.Voted s41.Stands s41.Leads s41.Got x15.Log))).bind (fun s287=>qdi v_0 v_1 x15 s287)))
def qdz (k:Nat)(v_0:Election)(v_1:Letter) : Option Election:=((zm v_0.Servers v_1.To).bind fun x15=>((if (decide (x15.Term<v_1.Term))=true then (some
  (Server.mk v_1.Term (-1) false false [] x15.Log)) else (some x15)).bind (fun s288=>qe8 k v_0 v_1 x15 s288)))

def qds (k:Nat)(v_0:Election)(v_1:ElectStep) : Option (Election × Bool):=(if ((decide (v_1.Term=1))||(decide (v_1.Term=5)))=true then (if
  (!(qb1 v_0 v_1.Leader))=true then (some (v_0,false)) else (if (decide (v_1.Term=1))=true then ((qbz v_0 v_1.Leader).bind fun v30=>(some (v30.1,
  v30.2))) else ((zm v_0.Servers v_1.Leader).bind fun x47=>(some ((Election.mk (List.set v_0.Servers v_1.Leader.toNat
  (Server.mk x47.Term x47.Voted false false [] x47.Log)) v_0.Post v_0.Led),
  true))))) else (if (((!(kw v_1.Term 2 4))||(decide (v_1.Leader<0)))||(decide ((List.length v_0.Post:Int)≤v_1.Leader)))=true then (some (v_0,
  false)) else ((zm v_0.Post v_1.Leader).bind fun kc=>(if (decide (v_1.Term=4))=true then (if (decide ((List.length v_0.Post:Int)=20))=true then (some (v_0,
  false)) else ((kg 56 v_0.Post [kc]).bind fun l136=>(some ((Election.mk v_0.Servers l136 v_0.Led),
  true)))) else ((sl v_0.Post 0 v_1.Leader).bind fun l155=>((kg 56 ([] : List Letter) l155).bind fun l162=>((sl v_0.Post (IntKind.wrap .i64 (v_1.Leader+1))
  (List.length v_0.Post)).bind fun l173=>((kg 56 l162 l173).bind fun l180=>(if (decide (v_1.Term=2))=true then ((qdz k
  (Election.mk v_0.Servers l180 v_0.Led) kc).bind fun v192=>(some (v192,true))) else (some ((Election.mk v_0.Servers l180 v_0.Led),true)))))))))))

def qay (l27:List Letter)(l37:List Vote)(i58:Nat)(x59:Server)(s53:Election) : Option (Oc Election Election):=((kg 8
  ([] : List Int) x59.Got).bind fun l93=>((kg 8 ([] : List Int) x59.Log).bind fun l110 =>
  ((kg 72 s53.Servers [(Server.mk x59.Term x59.Voted x59.Stands x59.Leads l93 l110)]).bind fun l127=>(some (.nxt (Election.mk l127 l27 l37))))))
def qin (l27:List Letter)(l37:List Vote)(s140:Election)  : Option Election:=(some (Election.mk s140.Servers l27 l37))
def qdb (e_0:Election) : Option Election:=((kg 56 ([] : List Letter) e_0.Post).bind fun l27=>((kg 16 ([] : List Vote) e_0.Led).bind fun l37=>(jn (ya
  (fun i58 x59 s139=>qay l27 l37 i58 x59 s139) e_0.Servers (Election.mk [] l27 l37)) (fun s153=>qin l27 l37 s153))))

def qcb (s62:List Bool)(v136:Election × Bool)(s155:Election)  : Option (Oc ((List Bool) × Election) (Election × (List Bool) × Bool)) :=
  ((kg 1 s62 [v136.2]).bind fun l196=>(some (.nxt (l196,s155))))
def w7 (k:Nat)(i80:Nat)(x81:ElectStep)(s62:List Bool)(s67:Election) : Option (Oc ((List Bool) × Election) (Election × (List Bool) × Bool)) :=
  ((qdb s67).bind fun v116=>((qds k v116 x81).bind fun v136=>((if v136.2=true then (some v136.1) else (some s67)).bind
  (fun s206=>qcb s62 v136 s206))))
def qcf (s208:List Bool)(s213:Election)  : Option (Election × (List Bool) × Bool):=((qdb s213).bind fun v233=>(some (v233,s208,true)))
def k9 (k:Nat)(logs_0:List (List Int))(l_1:List ElectStep) : Option (Election × (List Bool) × Bool):=((ws logs_0).bind fun v5=>(if
  ((!v5.2)||(decide ((80:Int)<(List.length l_1:Int))))=true then (some ((Election.mk [] [] []),[],
  false)) else (jn (ya (fun i80 x81 s207=>w7 k i80 x81 s207.1 s207.2) l_1 (([],
  v5.1) : (List Bool) × Election)) (fun s255=>qcf s255.1 s255.2))))

def qdw (a_0:List Int)(left_1:Int) : Option Int:=(if (decide ((IntKind.wrap .i64 (left_1 - (List.length a_0:Int)))<0))=true then (some (-1)) else (some
  (IntKind.wrap .i64 (left_1 - (List.length a_0:Int)))))

def qbe (a_0:List (List Int))(s4:Int)(s5:Int) : Option (Oc (Int × Int) Int):=(if (decide (s5<(List.length a_0:Int)))=true then
  ((zm a_0 s5).bind fun x28=>((qdw x28 s4).bind fun v31=>(if (decide (v31<0))=true then (some (.ret (-1))) else (some (.nxt (v31,
  (IntKind.wrap .i64 (s5+1)))))))) else (some (.brk (s4,s5))))
def qgy (s41:Int)(s42:Int)  : Option Int:=(some s41)
def qc8 (k:Nat)(a_0:List (List Int))(left_1:Int) : Option Int:=(if (decide ((IntKind.wrap .i64 (left_1 - (List.length a_0:Int)))<0))=true then (some
  (-1)) else (jn (j6 (fun s40=>qbe a_0 s40.1 s40.2) k ((IntKind.wrap .i64 (left_1 - (List.length a_0:Int))),0)) (fun s49=>qgy s49.1 s49.2)))

def ul (a_0:List ElectStep)(left_1:Int) : Option Int:=(if (decide ((IntKind.wrap .i64 (left_1 - (List.length a_0:Int)))<0))=true then (some (-1)) else
  (some (IntKind.wrap .i64 (left_1 - (List.length a_0:Int)))))

def qb6 (a_0:List Int)(s14:Int)(s15:List Int) : Option (Oc (Int × (List Int)) (List Int)):=(if (decide (s14<(List.length a_0:Int)))=true then
  ((zm a_0 s14).bind fun x40=>((zm s15 s14).bind fun x43=>(some (.nxt ((IntKind.wrap .i64 (s14+1)),(List.set s15 s14.toNat x40)))))) else (some (.brk (s14,s15))))
def qho (s56:Int)(s57:List Int)  : Option (List Int):=(some s57)
def qdx (k:Nat)(a_0:List Int) : Option (List Int):=((mkN 8 (List.length a_0:Int) (0:Int)).bind fun l1=>(jn (j6
  (fun s55=>qb6 a_0 s55.1 s55.2) k (0,l1)) (fun s66=>qho s66.1 s66.2)))

def qbc (k:Nat)(a_0:List (List Int))(s14:Int)(s15:List (List Int)) : Option (Oc (Int × (List (List Int))) (List (List Int))):=(if (decide (s14 <
  (List.length a_0:Int)))=true then ((zm a_0 s14).bind fun x40=>((qdx k x40).bind fun v43=>((zm s15 s14).bind fun x55=>(some (.nxt ((IntKind.wrap .i64
  (s14+1)),(List.set s15 s14.toNat v43))))))) else (some (.brk (s14,s15))))
def qgz (s83:Int)(s84:List (List Int))  : Option (List (List Int)):=(some s84)
def x4 (k:Nat)(a_0:List (List Int)) : Option (List (List Int)):=((mkN 24 (List.length a_0:Int) []).bind fun l1=>(jn (j6
  (fun s82=>qbc k a_0 s82.1 s82.2) k (0,l1)) (fun s93=>qgz s93.1 s93.2)))

def qah (a_0:ElectStep) : ElectStep:=a_0

def w6 (a_0:List ElectStep)(s14:Int)(s15:List ElectStep) : Option (Oc (Int × (List ElectStep)) (List ElectStep)):=(if (decide (s14 <
  (List.length a_0:Int)))=true then ((zm a_0 s14).bind fun x40=>((zm s15 s14).bind fun x43=>(some (.nxt ((IntKind.wrap .i64 (s14+1)),
  (List.set s15 s14.toNat (qah x40))))))) else (some (.brk (s14,s15))))
def qec (s56:Int)(s57:List ElectStep)  : Option (List ElectStep):=(some s57)
def yq (k:Nat)(a_0:List ElectStep) : Option (List ElectStep):=((mkN 16 (List.length a_0:Int) (ElectStep.mk (0:Int) (0:Int))).bind fun l1=>(jn (j6
  (fun s55=>w6 a_0 s55.1 s55.2) k (0,l1)) (fun s66=>qec s66.1 s66.2)))

def qb3 (a_0:List Int)(b_1:List Int)(s3:Int) : Option (Oc Int Bool):=(if (decide (s3<(List.length a_0:Int)))=true then ((zm a_0 s3).bind fun x26 =>
  ((zm b_1 s3).bind fun x29=>(if (decide (x26≠x29))=true then (some (.ret false)) else (some (.nxt (IntKind.wrap .i64 (s3+1))))))) else (some (.brk s3)))
def qhz (s39:Int)  : Option Bool:=(some true)
def qbl (k:Nat)(a_0:List Int)(b_1:List Int) : Option Bool:=(if (decide ((List.length a_0:Int)≠(List.length b_1:Int)))=true then (some false) else (jn
  (j6 (fun s38=>qb3 a_0 b_1 s38) k 0) (fun s46=>qhz s46)))

def qch (k:Nat)(a_0:Server)(b_1:Server) : Option Bool:=(if (decide (a_0.Term≠b_1.Term))=true then (some false) else (if (decide
  (a_0.Voted≠b_1.Voted))=true then (some false) else (if (!(a_0.Stands == b_1.Stands))=true then (some false) else (if (!(a_0.Leads == b_1.Leads))=true then
  (some false) else ((qbl k a_0.Got b_1.Got).bind fun v17=>(if (!v17)=true then (some false) else ((qbl k a_0.Log b_1.Log).bind fun v21=>(if
  (!v21)=true then (some false) else (some true)))))))))

def u0 (k:Nat)(a_0:List Server)(b_1:List Server)(s3:Int) : Option (Oc Int Bool):=(if (decide (s3<(List.length a_0:Int)))=true then
  ((zm a_0 s3).bind fun x26=>((zm b_1 s3).bind fun x29=>((qch k x26 x29).bind fun v32=>(if (!v32)=true then (some (.ret false)) else (some (.nxt
  (IntKind.wrap .i64 (s3+1)))))))) else (some (.brk s3)))
def qf1 (s42:Int)  : Option Bool:=(some true)
def qbu (k:Nat)(a_0:List Server)(b_1:List Server) : Option Bool:=(if (decide ((List.length a_0:Int)≠(List.length b_1:Int)))=true then
  (some false) else (jn (j6 (fun s41=>u0 k a_0 b_1 s41) k 0) (fun s49=>qf1 s49)))

def qcg (a_0:Letter)(b_1:Letter) : Option Bool:=(if (decide (a_0.To≠b_1.To))=true then (some false) else (if (decide (a_0.From≠b_1.From))=true then
  (some false) else (if (decide (a_0.Term≠b_1.Term))=true then (some false) else (if (!(a_0.Asks == b_1.Asks))=true then (some false) else (if (decide
  (a_0.Last≠b_1.Last))=true then (some false) else (if (decide (a_0.Long≠b_1.Long))=true then (some false) else (if (!(a_0.Grant == b_1.Grant))=true then
  (some false) else (some true))))))))

def um (a_0:List Letter)(b_1:List Letter)(s3:Int) : Option (Oc Int Bool):=(if (decide (s3<(List.length a_0:Int)))=true then
  ((zm a_0 s3).bind fun x26=>((zm b_1 s3).bind fun x29=>((qcg x26 x29).bind fun v32=>(if (!v32)=true then (some (.ret false)) else (some (.nxt
  (IntKind.wrap .i64 (s3+1)))))))) else (some (.brk s3)))
def qf8 (s42:Int)  : Option Bool:=(some true)
def qb5 (k:Nat)(a_0:List Letter)(b_1:List Letter) : Option Bool:=(if (decide ((List.length a_0:Int)≠(List.length b_1:Int)))=true then
  (some false) else (jn (j6 (fun s41=>um a_0 b_1 s41) k 0) (fun s49=>qf8 s49)))

def qdv (a_0:Vote)(b_1:Vote) : Option Bool:=(if (decide (a_0.Term≠b_1.Term))=true then (some false) else (if (decide (a_0.Leader≠b_1.Leader))=true then
  (some false) else (some true)))

def qa4 (a_0:List Vote)(b_1:List Vote)(s3:Int) : Option (Oc Int Bool):=(if (decide (s3<(List.length a_0:Int)))=true then
  ((zm a_0 s3).bind fun x26=>((zm b_1 s3).bind fun x29=>((qdv x26 x29).bind fun v32=>(if (!v32)=true then (some (.ret false)) else (some (.nxt
  (IntKind.wrap .i64 (s3+1)))))))) else (some (.brk s3)))
def qhb (s42:Int)  : Option Bool:=(some true)
def qcx (k:Nat)(a_0:List Vote)(b_1:List Vote) : Option Bool:=(if (decide ((List.length a_0:Int)≠(List.length b_1:Int)))=true then (some false) else (jn
  (j6 (fun s41=>qa4 a_0 b_1 s41) k 0) (fun s49=>qhb s49)))

def xa (k:Nat)(a_0:Election)(b_1:Election) : Option Bool:=((qbu k a_0.Servers b_1.Servers).bind fun v13=>(if (!v13)=true then
  (some false) else ((qb5 k a_0.Post b_1.Post).bind fun v17=>(if (!v17)=true then (some false) else ((qcx k a_0.Led b_1.Led).bind fun v21=>(if
  (!v21)=true then (some false) else (some true)))))))

def qa2 (a_0:List Bool)(b_1:List Bool)(s3:Int) : Option (Oc Int Bool):=(if (decide (s3<(List.length a_0:Int)))=true then
  ((zm a_0 s3).bind fun x26=>((zm b_1 s3).bind fun x29=>(if (!(x26 == x29))=true then (some (.ret false)) else (some (.nxt (IntKind.wrap .i64 (s3+1))))))) else
  (some (.brk s3)))
def qg7 (s39:Int)  : Option Bool:=(some true)
def qal (k:Nat)(a_0:List Bool)(b_1:List Bool) : Option Bool:=(if (decide ((List.length a_0:Int)≠(List.length b_1:Int)))=true then (some false) else (jn
  (j6 (fun s38=>qa2 a_0 b_1 s38) k 0) (fun s46=>qg7 s46)))

def qbd (k:Nat)(a_0:List (List Int))(b_1:List (List Int))(s3:Int) : Option (Oc Int Bool):=(if (decide (s3<(List.length a_0:Int)))=true then
  ((zm a_0 s3).bind fun x26=>((zm b_1 s3).bind fun x29=>((qbl k x26 x29).bind fun v32=>(if (!v32)=true then (some (.ret false)) else (some (.nxt
  (IntKind.wrap .i64 (s3+1)))))))) else (some (.brk s3)))
def qg3 (s42:Int)  : Option Bool:=(some true)
def qc6 (k:Nat)(a_0:List (List Int))(b_1:List (List Int)) : Option Bool:=(if (decide ((List.length a_0:Int)≠(List.length b_1:Int)))=true then
  (some false) else (jn (j6 (fun s41=>qbd k a_0 b_1 s41) k 0) (fun s49=>qg3 s49)))

def qan (a_0:ElectStep)(b_1:ElectStep) : Option Bool:=(if (decide (a_0.Term≠b_1.Term))=true then (some false) else (if (decide
  (a_0.Leader≠b_1.Leader))=true then (some false) else (some true)))

def xe (a_0:List ElectStep)(b_1:List ElectStep)(s3:Int) : Option (Oc Int Bool):=(if (decide (s3<(List.length a_0:Int)))=true then
  ((zm a_0 s3).bind fun x26=>((zm b_1 s3).bind fun x29=>((qan x26 x29).bind fun v32=>(if (!v32)=true then (some (.ret false)) else (some (.nxt
  (IntKind.wrap .i64 (s3+1)))))))) else (some (.brk s3)))
def qer (s42:Int)  : Option Bool:=(some true)
def uo (k:Nat)(a_0:List ElectStep)(b_1:List ElectStep) : Option Bool:=(if (decide ((List.length a_0:Int)≠(List.length b_1:Int)))=true then
  (some false) else (jn (j6 (fun s41=>xe a_0 b_1 s41) k 0) (fun s49=>qer s49)))

def qao (s6:Int)(s7:Int)(s8:List Int) : Option (Oc (Int × Int × (List Int)) (Int × (List Int))):=(if (decide (s7<(List.length s8:Int)))=true then
  ((zm s8 s7).bind fun x33=>(some (.nxt ((IntKind.wrap .i64 (s6+1)),(IntKind.wrap .i64 (s7+1)),(List.set s8 s7.toNat s6))))) else (some (.brk (s6,s7,s8))))
def qgj (s46:Int)(s47:Int)(s48:List Int)  : Option (Int × (List Int)):=(some (s46,s48))
def ug (k:Nat)(a_0:List Int)(k_1:Int) : Option (Int × (List Int)):=(jn (j6 (fun s45=>qao s45.1 s45.2.1 s45.2.2) k (k_1,0,
  a_0)) (fun s57=>qgj s57.1 s57.2.1 s57.2.2))

def ux (k:Nat)(s6:Int)(s7:Int)(s8:List (List Int)) : Option (Oc (Int × Int × (List (List Int))) (Int × (List (List Int)))):=(if (decide (s7 <
  (List.length s8:Int)))=true then ((zm s8 s7).bind fun x33=>((ug k x33 s6).bind fun v49=>(some (.nxt (v49.1,(IntKind.wrap .i64 (s7+1)),
  (List.set s8 s7.toNat v49.2)))))) else (some (.brk (s6,s7,s8))))
def qf6 (s64:Int)(s65:Int)(s66:List (List Int))  : Option (Int × (List (List Int))):=(some (s64,s66))
def qbw (k:Nat)(a_0:List (List Int))(k_1:Int) : Option (Int × (List (List Int))):=(jn (j6 (fun s63=>ux k s63.1 s63.2.1 s63.2.2) k (k_1,0,
  a_0)) (fun s75=>qf6 s75.1 s75.2.1 s75.2.2))

def wh (s6:Int)(s7:Int)(s8:List ElectStep) : Option (Oc (Int × Int × (List ElectStep)) (Int × (List ElectStep))):=(if (decide (s7 <
  (List.length s8:Int)))=true then ((zm s8 s7).bind fun x33=>(some (.nxt ((IntKind.wrap .i64 ((IntKind.wrap .i64 (s6+1))+1)),(IntKind.wrap .i64 (s7+1)),
  (List.set s8 s7.toNat (ElectStep.mk s6 (IntKind.wrap .i64 (s6+1)))))))) else (some (.brk (s6,s7,s8))))
def qdq (s51:Int)(s52:Int)(s53:List ElectStep)  : Option (Int × (List ElectStep)):=(some (s51,s53))
def xm (k:Nat)(a_0:List ElectStep)(k_1:Int) : Option (Int × (List ElectStep)):=(jn (j6 (fun s50=>wh s50.1 s50.2.1 s50.2.2) k
  (k_1,0,a_0)) (fun s62=>qdq s62.1 s62.2.1 s62.2.2))

def xq (k:Nat)(s6:Int)(s7:Int)(s8:List Server) : Option (Oc (Int × Int × (List Server)) (Int × (List Server))):=(if (decide (s7 <
  (List.length s8:Int)))=true then ((zm s8 s7).bind fun x33=>((ug k x33.Got (IntKind.wrap .i64 ((IntKind.wrap .i64 ((IntKind.wrap .i64 ((IntKind.wrap .i64
  (s6+1))+1))+1))+1))).bind fun v69=>((ug k x33.Log v69.1).bind fun v76=>(some (.nxt (v76.1,(IntKind.wrap .i64 (s7+1)),
  (List.set s8 s7.toNat (Server.mk s6 (IntKind.wrap .i64 (s6+1)) (decide ((Int.tmod (IntKind.wrap .i64 ((IntKind.wrap .i64 (s6+1))+1)) 3)=0)) (decide ((Int.tmod
  (IntKind.wrap .i64 ((IntKind.wrap .i64 ((IntKind.wrap .i64 (s6+1))+1))+1)) 3)=0)) v69.2 v76.2)))))))) else (some (.brk (s6,s7,s8))))
def qey (s91:Int)(s92:Int)(s93:List Server)  : Option (Int × (List Server)):=(some (s91,s93))
def qag (k:Nat)(a_0:List Server)(k_1:Int) : Option (Int × (List Server)):=(jn (j6 (fun s90=>xq k s90.1 s90.2.1 s90.2.2) k (k_1,0,
  a_0)) (fun s102=>qey s102.1 s102.2.1 s102.2.2))

def xl (s6:Int)(s7:Int)(s8:List Letter) : Option (Oc (Int × Int × (List Letter)) (Int × (List Letter))):=(if (decide (s7 <
  (List.length s8:Int)))=true then ((zm s8 s7).bind fun x33=>(some (.nxt ((IntKind.wrap .i64 ((IntKind.wrap .i64 ((IntKind.wrap .i64 ((IntKind.wrap .i64
  ((IntKind.wrap .i64 ((IntKind.wrap .i64 ((IntKind.wrap .i64 (s6+1))+1))+1))+1))+1))+1))+1)),(IntKind.wrap .i64 (s7+1)),
  (List.set s8 s7.toNat (Letter.mk s6 (IntKind.wrap .i64 (s6+1)) (IntKind.wrap .i64 ((IntKind.wrap .i64 (s6+1))+1)) (decide ((Int.tmod (IntKind.wrap .i64
  ((IntKind.wrap .i64 ((IntKind.wrap .i64 (s6+1))+1))+1)) 3)=0)) (IntKind.wrap .i64 ((IntKind.wrap .i64 ((IntKind.wrap .i64 ((IntKind.wrap .i64
  (s6+1))+1))+1))+1)) (IntKind.wrap .i64 ((IntKind.wrap .i64 ((IntKind.wrap .i64 ((IntKind.wrap .i64 ((IntKind.wrap .i64 (s6+1))+1))+1))+1))+1)) (decide
  ((Int.tmod (IntKind.wrap .i64 ((IntKind.wrap .i64 ((IntKind.wrap .i64 ((IntKind.wrap .i64 ((IntKind.wrap .i64 ((IntKind.wrap .i64
  (s6+1))+1))+1))+1))+1))+1)) 3)=0)))))))) else (some (.brk (s6,s7,s8))))
def qeu (s76:Int)(s77:Int)(s78:List Letter)  : Option (Int × (List Letter)):=(some (s76,s78))
def qai (k:Nat)(v_0:List Letter)(v_1:Int) : Option (Int × (List Letter)):=(jn (j6 (fun s75=>xl s75.1 s75.2.1 s75.2.2) k (v_1,0,
  v_0)) (fun s87=>qeu s87.1 s87.2.1 s87.2.2))

def uy (s6:Int)(s7:Int)(s8:List Vote) : Option (Oc (Int × Int × (List Vote)) (Int × (List Vote))):=(if (decide (s7<(List.length s8:Int)))=true then
  ((zm s8 s7).bind fun x33=>(some (.nxt ((IntKind.wrap .i64 ((IntKind.wrap .i64 (s6+1))+1)),(IntKind.wrap .i64 (s7+1)),
  (List.set s8 s7.toNat (Vote.mk s6 (IntKind.wrap .i64 (s6+1)))))))) else (some (.brk (s6,s7,s8))))
def qf4 (s51:Int)(s52:Int)(s53:List Vote)  : Option (Int × (List Vote)):=(some (s51,s53))
def qb4 (k:Nat)(a_0:List Vote)(k_1:Int) : Option (Int × (List Vote)):=(jn (j6 (fun s50=>uy s50.1 s50.2.1 s50.2.2) k (k_1,0,
  a_0)) (fun s62=>qf4 s62.1 s62.2.1 s62.2.2))

def uz (k:Nat)(a_0:Election)(k_1:Int) : Option (Int × Election):=((qag k a_0.Servers k_1).bind fun v7 =>
  ((qai k a_0.Post v7.1).bind fun v14=>((qb4 k a_0.Led v14.1).bind fun v21=>(some (v21.1,(Election.mk v7.2 v14.2 v21.2))))))

def uq (s6:Int)(s7:Int)(s8:List Bool) : Option (Oc (Int × Int × (List Bool)) (Int × (List Bool))):=(if (decide (s7<(List.length s8:Int)))=true then
  ((zm s8 s7).bind fun x33=>(some (.nxt ((IntKind.wrap .i64 (s6+1)),(IntKind.wrap .i64 (s7+1)),
  (List.set s8 s7.toNat (decide ((Int.tmod s6 3)=0))))))) else (some (.brk (s6,s7,s8))))
def qf3 (s46:Int)(s47:Int)(s48:List Bool)  : Option (Int × (List Bool)):=(some (s46,s48))
def qbx (k:Nat)(a_0:List Bool)(k_1:Int) : Option (Int × (List Bool)):=(jn (j6 (fun s45=>uq s45.1 s45.2.1 s45.2.2) k (k_1,0,
  a_0)) (fun s57=>qf3 s57.1 s57.2.1 s57.2.2))

def qak (a_0:List Int)(s3:Int)(s4:Int) : Option (Oc (Int × Int) Int):=(if (decide (s4<(List.length a_0:Int)))=true then
  ((zm a_0 s4).bind fun x27=>(if (decide (x27≠s3))=true then (some (.ret (-1))) else (some (.nxt ((IntKind.wrap .i64 (s3+1)),
  (IntKind.wrap .i64 (s4+1))))))) else (some (.brk (s3,s4))))
def qgp (s37:Int)(s38:Int)  : Option Int:=(some s37)
def qax (k:Nat)(a_0:List Int)(k_1:Int) : Option Int:=(jn (j6 (fun s36=>qak a_0 s36.1 s36.2) k (k_1,
  0)) (fun s45=>qgp s45.1 s45.2))

def xp (k:Nat)(v_0:List Server)(s3:Int)(s4:Int) : Option (Oc (Int × Int) Int):=(if (decide (s4<(List.length v_0:Int)))=true then
  ((zm v_0 s4).bind fun x27=>(if (decide (x27.Term≠s3))=true then (some (.ret (-1))) else ((zm v_0 s4).bind fun x34=>(if (decide (x34.Voted≠(IntKind.wrap .i64
  (s3+1))))=true then (some (.ret (-1))) else ((zm v_0 s4).bind fun x41=>(if (!(x41.Stands == (decide ((Int.tmod (IntKind.wrap .i64 ((IntKind.wrap .i64
  (s3+1))+1)) 3)=0))))=true then (some (.ret (-1))) else ((zm v_0 s4).bind fun x48=>(if (!(x48.Leads == (decide ((Int.tmod (IntKind.wrap .i64 ((IntKind.wrap .i64
  ((IntKind.wrap .i64 (s3+1))+1))+1)) 3)=0))))=true then (some (.ret (-1))) else ((zm v_0 s4).bind fun x55=>((qax k x55.Got (IntKind.wrap .i64
  ((IntKind.wrap .i64 ((IntKind.wrap .i64 ((IntKind.wrap .i64 (s3+1))+1))+1))+1))).bind fun v58=>(if (decide (v58<0))=true then (some (.ret (-1))) else
  ((zm v_0 s4).bind fun x65=>((qax k x65.Log v58).bind fun v68=>(if (decide (v68<0))=true then (some (.ret (-1))) else (some (.nxt (v68,
  (IntKind.wrap .i64 (s4+1))))))))))))))))))) else (some (.brk (s3,s4))))
def qew (s78:Int)(s79:Int)  : Option Int:=(some s78)
def qac (k:Nat)(v_0:List Server)(v_1:Int) : Option Int:=(jn (j6 (fun s77=>xp k v_0 s77.1 s77.2) k (v_1,
  0)) (fun s86=>qew s86.1 s86.2))

def xn (v_0:List Letter)(s3:Int)(s4:Int) : Option (Oc (Int × Int) Int):=(if (decide (s4<(List.length v_0:Int)))=true then
  ((zm v_0 s4).bind fun x27=>(if (decide (x27.To≠s3))=true then (some (.ret (-1))) else ((zm v_0 s4).bind fun x34=>(if (decide (x34.From≠(IntKind.wrap .i64
  (s3+1))))=true then (some (.ret (-1))) else ((zm v_0 s4).bind fun x41=>(if (decide (x41.Term≠(IntKind.wrap .i64 ((IntKind.wrap .i64 (s3+1))+1))))=true then
  (some (.ret (-1))) else ((zm v_0 s4).bind fun x48=>(if (!(x48.Asks == (decide ((Int.tmod (IntKind.wrap .i64 ((IntKind.wrap .i64 ((IntKind.wrap .i64
  (s3+1))+1))+1)) 3)=0))))=true then (some (.ret (-1))) else ((zm v_0 s4).bind fun x55=>(if (decide (x55.Last≠(IntKind.wrap .i64 ((IntKind.wrap .i64
  ((IntKind.wrap .i64 ((IntKind.wrap .i64 (s3+1))+1))+1))+1))))=true then (some (.ret (-1))) else ((zm v_0 s4).bind fun x62=>(if (decide (x62.Long ≠
  (IntKind.wrap .i64 ((IntKind.wrap .i64 ((IntKind.wrap .i64 ((IntKind.wrap .i64 ((IntKind.wrap .i64 (s3+1))+1))+1))+1))+1))))=true then (some (.ret (-1))) else
  ((zm v_0 s4).bind fun x69=>(if (!(x69.Grant == (decide ((Int.tmod (IntKind.wrap .i64 ((IntKind.wrap .i64 ((IntKind.wrap .i64 ((IntKind.wrap .i64 ((IntKind.wrap .i64
  ((IntKind.wrap .i64 (s3+1))+1))+1))+1))+1))+1)) 3)=0))))=true then (some (.ret (-1))) else (some (.nxt ((IntKind.wrap .i64 ((IntKind.wrap .i64
  ((IntKind.wrap .i64 ((IntKind.wrap .i64 ((IntKind.wrap .i64 ((IntKind.wrap .i64 ((IntKind.wrap .i64 (s3+1))+1))+1))+1))+1))+1))+1)),
  (IntKind.wrap .i64 (s4+1))))))))))))))))))) else (some (.brk (s3,s4))))
def qe0 (s79:Int)(s80:Int)  : Option Int:=(some s79)
def qaf (k:Nat)(v_0:List Letter)(v_1:Int) : Option Int:=(jn (j6 (fun s78=>xn v_0 s78.1 s78.2) k (v_1,
  0)) (fun s87=>qe0 s87.1 s87.2))

def uw (a_0:List Vote)(s3:Int)(s4:Int) : Option (Oc (Int × Int) Int):=(if (decide (s4<(List.length a_0:Int)))=true then
  ((zm a_0 s4).bind fun x27=>(if (decide (x27.Term≠s3))=true then (some (.ret (-1))) else ((zm a_0 s4).bind fun x34=>(if (decide (x34.Leader≠(IntKind.wrap .i64
  (s3+1))))=true then (some (.ret (-1))) else (some (.nxt ((IntKind.wrap .i64 ((IntKind.wrap .i64 (s3+1))+1)),(IntKind.wrap .i64 (s4+1))))))))) else (some (.brk (s3,
  s4))))
def qf5 (s44:Int)(s45:Int)  : Option Int:=(some s44)
def qb7 (k:Nat)(a_0:List Vote)(k_1:Int) : Option Int:=(jn (j6 (fun s43=>uw a_0 s43.1 s43.2) k (k_1,
  0)) (fun s52=>qf5 s52.1 s52.2))

def xh (k:Nat)(a_0:Election)(k_1:Int) : Option Int:=((qac k a_0.Servers k_1).bind fun v7=>(if (decide (v7<0))=true then (some
  (-1)) else ((qaf k a_0.Post v7).bind fun v11=>(if (decide (v11<0))=true then (some (-1)) else ((qb7 k a_0.Led v11).bind fun v15=>(if (decide
  (v15<0))=true then (some (-1)) else (some v15)))))))

def uu (a_0:List Bool)(s3:Int)(s4:Int) : Option (Oc (Int × Int) Int):=(if (decide (s4<(List.length a_0:Int)))=true then
  ((zm a_0 s4).bind fun x27=>(if (!(x27 == (decide ((Int.tmod s3 3)=0))))=true then (some (.ret (-1))) else (some (.nxt ((IntKind.wrap .i64 (s3+1)),
  (IntKind.wrap .i64 (s4+1))))))) else (some (.brk (s3,s4))))
def qf2 (s37:Int)(s38:Int)  : Option Int:=(some s37)
def u9 (k:Nat)(a_0:List Bool)(k_1:Int) : Option Int:=(jn (j6 (fun s36=>uu a_0 s36.1 s36.2) k (k_1,
  0)) (fun s45=>qf2 s45.1 s45.2))

def y7 (k:Nat)(v_0:List (List Int))(v_1:List ElectStep) : Option Bool:=((qc8 k v_0 1048576).bind fun v1=>(if (decide
  (v1<0))=true then (some true) else ((ul v_1 v1).bind fun v5=>(if (decide (v5<0))=true then (some true) else ((x4 k v_0).bind fun v9 =>
  ((yq k v_1).bind fun v21=>((k9 k v9 v21).bind fun v33=>((x4 k v_0).bind fun v65=>((yq k v_1).bind fun v77 =>
  ((ku k v65 v77).bind fun v89=>((xa k v89.1 v33.1).bind fun v121=>((if (!v121)=true then (some true) else
  ((qal k v89.2.1 v33.2.1).bind fun v127=>(some (!v127)))).bind fun v127=>(if (v127||(!(v89.2.2 == v33.2.2)))=true then (some false) else
  ((x4 k v_0).bind fun v167=>((qc6 k v65 v167).bind fun v179=>(if (!v179)=true then (some false) else ((yq k v_1).bind fun v183 =>
  ((uo k v77 v183).bind fun v195=>(if (!v195)=true then (some false) else ((qbw k v65 1).bind fun v199 =>
  ((xm k v77 v199.1).bind fun v206=>((if (decide (v206.1<0))=true then (some true) else ((xa k v89.1 v33.1).bind fun v216=>(some
  (!v216)))).bind fun v216=>((if v216=true then (some true) else ((qal k v89.2.1 v33.2.1).bind fun v239=>(some (!v239)))).bind fun v239=>(if (v239 ||
  (!(v89.2.2 == v33.2.2)))=true then (some false) else ((uz k v89.1 1).bind fun v274=>((qbx k v89.2.1 v274.1).bind fun v285 =>
  ((xh k v274.2 1).bind fun v292=>(if (decide (v292<0))=true then (some false) else ((u9 k v285.2 v292).bind fun v296=>(if (decide
  (v296<0))=true then (some false) else (if (decide (v296≠v285.1))=true then (some false) else ((x4 k v_0).bind fun v301 =>
  ((yq k v_1).bind fun v313=>((ku k v301 v313).bind fun v325=>((xa k v325.1 v33.1).bind fun v357=>((if (!v357)=true then
  (some true) else ((qal k v325.2.1 v33.2.1).bind fun v363=>(some (!v363)))).bind fun v363=>(if (v363||(!(v325.2.2 == v33.2.2)))=true then (some false) else
  ((xh k v274.2 1).bind fun v391=>(if (decide (v391<0))=true then (some false) else ((u9 k v285.2 v391).bind fun v395=>(if (decide
  (v395<0))=true then (some false) else (if (decide (v395≠v285.1))=true then (some false) else (some true)))))))))))))))))))))))))))))))))))))))))))
end Go.Proofs.Ytpddolihbnfahaa.X
