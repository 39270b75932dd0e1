/- The seat's types and functions, as plain Lean has them. -/
import Derived.Test.YtanblnjomhgphaaZSlE
open Go.IntKind renaming wrap→r8
open List renaming length→p9,set→a1b
set_option linter.unusedVariables false
set_option linter.unusedSimpArgs false
set_option maxRecDepth 100000
set_option maxHeartbeats 1000000
namespace Go.Proofs.Ytanblnjomhgphaa.X
open Go
structure BoundsError where
 x:Int
 y:Int
 signed:Bool
 code:Int
 deriving DecidableEq,Inhabited
def q0l (x:BoundsError) : List XV:=[.int .i64 x.x,.int .i64 x.y,.bool x.signed,.int .u8 x.code]
structure Entry where
 Term:Int
 Value:Int
 deriving DecidableEq,Inhabited
def qh (x:Entry) : List XV:=[.int .i64 x.Term,.int .i64 x.Value]
structure Peer where
 Term:Int
 Leads:Bool
 Log:List Entry
 Commit:Int
 Match:List Int
 deriving DecidableEq,Inhabited
def qs (x:Peer) : List XV:=[.int .i64 x.Term,.bool x.Leads,lst qh x.Log,.int .i64 x.Commit,lst cI x.Match]
structure Mail where
 Reply:Bool
 From:Int
 To:Int
 Term:Int
 Prev:Int
 PTerm:Int
 Entry:List Entry
 Commit:Int
 Match:Int
 deriving DecidableEq,Inhabited
def qu (x:Mail) : List XV:=[.bool x.Reply,.int .i64 x.From,.int .i64 x.To,.int .i64 x.Term,.int .i64 x.Prev,.int .i64 x.PTerm,lst qh x.Entry,
  .int .i64 x.Commit,.int .i64 x.Match]
structure Raft where
 Peers:List Peer
 Mail:List Mail
 deriving DecidableEq,Inhabited
def ze9 (x:Raft) : List XV:=[lst qs x.Peers,lst qu x.Mail]
structure RaftStep where
 Kind:Int
 K:Int
 To:Int
 N:Int
 deriving DecidableEq,Inhabited
def jm (x:RaftStep) : List XV:=[.int .i64 x.Kind,.int .i64 x.K,.int .i64 x.To,.int .i64 x.N]
structure L1Cur where
 code:List Int
 at_:Int
 seed:Int
 deriving DecidableEq,Inhabited
def zdp (x:L1Cur) : List XV:=[lst cU8 x.code,.int .i64 x.at_,.int .u64 x.seed]

def qfa (l8:L1Cur)(s1:Int)  : Option (Int × L1Cur):=(if (decide ((r8 .i64 (l8.at_+1))≤(p9 l8.code:Int)))=true then (some (s1,
  (L1Cur.mk l8.code (r8 .i64 (l8.at_+1)) (r8 .u64 ((r8 .u64 ((r8 .u64 (l8.seed*6364136223846793005)) +
  (r8 .u64 s1)))+1442695040888963407))))) else (some ((r8 .i64 (z8 .u64 (jo .u64 (r8 .u64 ((r8 .u64 ((r8 .u64
  (l8.seed*6364136223846793005))+(r8 .u64 s1)))+1442695040888963407)) 40) 255)),
  (L1Cur.mk l8.code (r8 .i64 (l8.at_+1)) (r8 .u64 ((r8 .u64 ((r8 .u64 (l8.seed*6364136223846793005)) +
  (r8 .u64 s1)))+1442695040888963407))))))
def qe3 (l8:L1Cur) : Option (Int × L1Cur):=((if (decide (l8.at_<(p9 l8.code:Int)))=true then ((zy l8.code l8.at_).bind fun x10=>(some
  (r8 .i64 x10))) else (some 0)).bind (fun s25=>qfa l8 s25))

def yk (l8:L1Cur)(m9:Int) : Option (Int × L1Cur):=(if (decide (m9≤1))=true then (some (0,
  l8)) else ((qe3 l8).bind fun v2=>(if (decide ((200:Int)<m9))=true then ((qe3 v2.2).bind fun v8=>(ck (m9≠0) (some ((Int.tmod (r8 .i64
  ((r8 .i64 (v2.1*256))+v8.1)) m9),v8.2)))) else (ck (m9≠0) (some ((Int.tmod v2.1 m9),v2.2))))))

def yq (n9:Int)(lo_1:Int)(hi_2:Int) : Bool:=((decide (lo_1≤n9))&&(decide (n9≤hi_2)))

def qft (peers_0:Int)(s18:Int)(s19:Raft) : Option (Oc (Int × Raft) (Raft × Bool)):=(if (decide (s18<peers_0))=true then ((mkN 8 peers_0
  (0:Int)).bind fun l47=>((ju 72 s19.Peers ([(Peer.mk 0 false [] 0 l47)])).bind fun l62=>(some (.nxt ((r8 .i64 (s18+1)),
  (Raft.mk l62 [])))))) else (some (.brk (s18,(Raft.mk s19.Peers [])))))
def qig (s76:Int)(s77:Raft)  : Option (Raft × Bool):=(some ((Raft.mk s77.Peers []),true))
def qdp (k:Nat)(peers_0:Int) : Option (Raft × Bool):=(if (!(yq peers_0 1 5))=true then (some ((Raft.mk [] []),
  false)) else (jn (wo (fun s75=>qft peers_0 s75.1 s75.2) k (0,(Raft.mk [] []))) (fun s91=>qig s91.1 s91.2)))

def kf (r_0:Raft)(k_1:Int) : Bool:=((decide ((0:Int)≤k_1))&&(decide (k_1<(p9 r_0.Peers:Int))))

def qb3 (a9:Mail)(x15:Peer)(s198:Peer)  : Option (Int × Peer):=(if (decide (a9.Prev<(p9 s198.Log:Int)))=true then (some
  ((r8 .i64 (a9.Prev+1)),(Peer.mk s198.Term s198.Leads s198.Log s198.Commit x15.Match))) else (some (a9.Prev,
  (Peer.mk s198.Term s198.Leads s198.Log s198.Commit x15.Match))))
def qae (a9:Mail)(x15:Peer)(x101:Entry)(s137:Peer)  : Option (Int × Peer):=((if ((decide ((p9 s137.Log:Int)=a9.Prev))&&(decide
  (a9.Prev<30)))=true then ((ju 16 s137.Log [x101]).bind fun l217=>(some (Peer.mk s137.Term s137.Leads l217 s137.Commit x15.Match))) else (some
  (Peer.mk s137.Term s137.Leads s137.Log s137.Commit x15.Match))).bind (fun s241=>qb3 a9 x15 s241))
def qbt (s87:Peer)(i320:Nat)(s317:List Int) : Option (Oc (List Int) (Raft × Mail)):=((zy s317 (i320:Int)).bind fun x346=>(if (decide
  ((p9 s87.Log:Int)<x346))=true then (some (.nxt (a1b s317 (i320:Int).toNat (p9 s87.Log:Int)))) else (some (.nxt s317))))
def qee (d8:Raft)(a9:Mail)(s86:Int)(s87:Peer)(s293:Peer)(s360:List Int)  : Option (Raft × Mail):=(if (decide
  ((p9 d8.Mail:Int)<20))=true then ((ju 88 d8.Mail ([(Mail.mk true a9.To a9.From s293.Term 0 0 [] 0 s86)])).bind fun l383=>(some ((Raft.mk
  (a1b d8.Peers a9.To.toNat (Peer.mk s293.Term s293.Leads s87.Log s293.Commit s360)) l383),
  a9))) else (some ((Raft.mk (a1b d8.Peers a9.To.toNat (Peer.mk s293.Term s293.Leads s87.Log s293.Commit s360)) d8.Mail),a9)))
def qed (d8:Raft)(a9:Mail)(x15:Peer)(s86:Int)(s87:Peer)(s293:Peer)  : Option (Raft × Mail):=(jn (wi
  (fun i320 s359=>qbt s87 i320 s359) (p9 x15.Match:Int) x15.Match) (fun s408=>qee d8 a9 s86 s87 s293 s408))
def qef (d8:Raft)(a9:Mail)(x15:Peer)(s86:Int)(s87:Peer)(s252:Peer)(s273:Int)  : Option (Raft × Mail):=((if (decide
  (s252.Commit<s273))=true then (some (Peer.mk s252.Term s252.Leads s87.Log s273 x15.Match)) else (some (Peer.mk s252.Term s252.Leads s87.Log s252.Commit x15.Match))).bind
  (fun s409=>qed d8 a9 x15 s86 s87 s409))
def qeg (d8:Raft)(a9:Mail)(x15:Peer)(s86:Int)(s87:Peer)(s252:Peer)  : Option (Raft × Mail):=((if (decide (s86<a9.Commit))=true then
  (some s86) else (some a9.Commit)).bind (fun s410=>qef d8 a9 x15 s86 s87 s252 s410))
def qca (d8:Raft)(a9:Mail)(x15:Peer)(s86:Int)(s87:Peer)  : Option (Raft × Mail):=((if (decide
  ((p9 s87.Log:Int)<s87.Commit))=true then (some (Peer.mk s87.Term s87.Leads s87.Log (p9 s87.Log:Int) x15.Match)) else (some
  (Peer.mk s87.Term s87.Leads s87.Log s87.Commit x15.Match))).bind (fun s411=>qeg d8 a9 x15 s86 s87 s411))
def ul (d8:Raft)(a9:Mail) : Option (Raft × Mail):=((zy d8.Peers a9.To).bind fun x15=>((if (decide ((p9 x15.Log:Int)<a9.Prev))=true then
  (some true) else ((if (decide ((0:Int)<a9.Prev))=true then ((zy x15.Log (r8 .i64 (a9.Prev - 1))).bind fun x47=>(some (decide
  (x47.Term≠a9.PTerm)))) else (some false)).bind fun v47=>(some v47))).bind fun v44=>(if v44=true then (some (d8,
  a9)) else ((if (decide ((0:Int)<(p9 a9.Entry:Int)))=true then ((zy a9.Entry (0:Int)).bind fun x101=>((if (decide (a9.Prev <
  (p9 x15.Log:Int)))=true then ((zy x15.Log a9.Prev).bind fun x117=>(some (decide (x117.Term≠x101.Term)))) else (some false)).bind fun v117 =>
  ((if v117=true then ((sl x15.Log 0 a9.Prev).bind fun l156=>((ju 16 ([] : List Entry) l156).bind fun l163=>(some
  (Peer.mk x15.Term x15.Leads l163 x15.Commit x15.Match)))) else (some x15)).bind (fun s242=>qae a9 x15 x101 s242)))) else (some (a9.Prev,
  x15))).bind (fun s412=>qca d8 a9 x15 s412.1 s412.2)))))

def qci (d8:Raft)(a9:Mail) : Option (Raft × Mail):=((zy d8.Peers a9.To).bind fun x17=>(if (decide (x17.Term<a9.Term))=true then ((mkN 8
  (p9 d8.Peers:Int) (0:Int)).bind fun l48=>(if (decide (a9.Term≠a9.Term))=true then (some ((Raft.mk (a1b d8.Peers a9.To.toNat
  (Peer.mk a9.Term false x17.Log x17.Commit l48)) d8.Mail),
  a9)) else (if (!a9.Reply)=true then ((ul (Raft.mk (a1b d8.Peers a9.To.toNat
  (Peer.mk a9.Term false x17.Log x17.Commit l48)) d8.Mail) a9).bind fun v77=>(some (v77.1,
  (Mail.mk a9.Reply a9.From a9.To a9.Term a9.Prev a9.PTerm v77.2.Entry a9.Commit a9.Match)))) else (some ((Raft.mk (a1b d8.Peers a9.To.toNat
  (Peer.mk a9.Term false x17.Log x17.Commit l48)) d8.Mail),a9))))) else (if (decide (a9.Term≠x17.Term))=true then (some (d8,
  a9)) else (if (!a9.Reply)=true then ((ul d8 a9).bind fun v111=>(some (v111.1,
  (Mail.mk a9.Reply a9.From a9.To a9.Term a9.Prev a9.PTerm v111.2.Entry a9.Commit a9.Match)))) else ((if x17.Leads=true then
  ((zy x17.Match a9.From).bind fun x129=>(some (decide (x129<a9.Match)))) else (some false)).bind fun v129=>(if (v129&&(decide (a9.Match ≤
  (p9 x17.Log:Int))))=true then ((zy x17.Match a9.From).bind fun x158=>(some ((Raft.mk (a1b d8.Peers a9.To.toNat
  (Peer.mk x17.Term x17.Leads x17.Log x17.Commit (a1b x17.Match a9.From.toNat a9.Match))) d8.Mail),a9))) else (some (d8,a9))))))))

def qf3 (bits_0:Int)(s7:List Int)(s12:Int) : Option (Oc ((List Int) × Int) (List Int)):=(ck (0≤(r8 .u64 s12)) (if (decide ((0:Int) <
  (jo .i64 bits_0 (r8 .u64 s12))))=true then (ck (0≤(r8 .u64 s12)) (if (decide ((z8 .i64 (jo .i64 bits_0
  (r8 .u64 s12)) 1)=1))=true then ((ju 8 s7 [s12]).bind fun l46=>(some (.nxt (l46,(r8 .i64 (s12+1)))))) else (some (.nxt (s7,
  (r8 .i64 (s12+1))))))) else (some (.brk (s7,s12)))))
def qi1 (s59:List Int)(s64:Int)  : Option (List Int):=(some s59)
def qdc (k:Nat)(bits_0:Int) : Option (List Int):=(jn (wo (fun s58=>qf3 bits_0 s58.1 s58.2) k (([],
  0) : (List Int) × Int)) (fun s71=>qi1 s71.1 s71.2))

def qdm (i6:List Int)(l6:Int)(i1:Nat)(x2:Int) : Option (Oc Unit Bool):=((if ((decide (x2<0))||(decide (l6≤x2)))=true then
  (some true) else ((if (decide ((0:Int)<(i1:Int)))=true then ((zy i6 (r8 .i64 ((i1:Int) - 1))).bind fun x44=>(some (decide (x2≤x44)))) else
  (some false)).bind fun v44=>(some v44))).bind fun v41=>(if v41=true then (some (.ret false)) else (some (.nxt ()))))
def qie  : Option Bool:=(some true)
def qdr (i6:List Int)(l6:Int) : Option Bool:=(jn (jt (fun i1 x2 _=>qdm i6 l6 i1 x2 ) i6 ()) (fun _=>qie ))

def qep (m9:Int)(i1:Nat)(x2:Int) : Option (Oc Unit Bool):=(if (decide (x2=m9))=true then (some (.ret true)) else (some (.nxt ())))
def qjr  : Option Bool:=(some false)
def qd6 (i6:List Int)(m9:Int) : Option Bool:=(jn (jt (fun i1 x2 _=>qep m9 i1 x2 ) i6 ()) (fun _=>qjr ))

def ut (i6:List Entry) : Option Int:=(if (decide ((p9 i6:Int)=0))=true then (some (-1)) else ((zy i6 (r8 .i64
  ((p9 i6:Int) - 1))).bind fun x2=>(some x2.Term)))

def qcx (l7:List Entry)(i8:List Entry) : Option Bool:=((ut l7).bind fun v1=>((ut i8).bind fun v4=>((if (decide (v4<v1))=true then
  (some true) else ((ut l7).bind fun v10=>((ut i8).bind fun v13=>(some ((decide (v10=v13))&&(decide ((p9 i8:Int) ≤
  (p9 l7:Int)))))))).bind fun v10=>(some v10))))

def wy (d8:Raft)(a9:Int)(i58:Nat)(x59:Int)(s54:Int)(s55:List Peer) : Option (Oc (Int × (List Peer)) (Raft × Bool)) :=
  ((zy s55 a9).bind fun x84=>((zy s55 x59).bind fun qd9=>(if (decide (a9=x59))=true then ((qcx x84.Log x84.Log).bind fun v108=>(if (!v108)=true then
  (some (.ret ((Raft.mk s55 d8.Mail),false))) else (if (decide (s54<x84.Term))=true then (some (.nxt (x84.Term,s55))) else (some (.nxt (s54,
  s55)))))) else (ck (a9≠x59) ((qcx x84.Log qd9.Log).bind fun v150=>(if (!v150)=true then (some (.ret ((Raft.mk s55 d8.Mail),
  false))) else (if (decide (s54<qd9.Term))=true then (some (.nxt (qd9.Term,s55))) else (some (.nxt (s54,s55))))))))))
def qc3 (a9:Int)(s184:Int)(i206:Nat)(x207:Int)(s203:List Peer) : Option (Oc (List Peer) (Raft × Bool)):=((zy s203 x207).bind fun x231=>((mkN 8
  (p9 s203:Int) (0:Int)).bind fun l259=>(some (.nxt (a1b s203 x207.toNat (Peer.mk (r8 .i64 (s184+1)) (decide
  (x207=a9)) x231.Log x231.Commit l259))))))
def qe2 (d8:Raft)(a9:Int)(s279:List Peer)  : Option (Raft × Bool):=((zy s279 a9).bind fun x290=>((zy x290.Match a9).bind fun x310=>(some
  ((Raft.mk (a1b s279 a9.toNat (Peer.mk x290.Term x290.Leads x290.Log x290.Commit (a1b x290.Match a9.toNat (p9 x290.Log:Int)))) d8.Mail),true))))
def qav (d8:Raft)(a9:Int)(v11:List Int)(s184:Int)(s185:List Peer)  : Option (Raft × Bool):=(if (decide (s184=100))=true then (some
  ((Raft.mk s185 d8.Mail),false)) else (jn (jt (fun i206 x207 s278=>qc3 a9 s184 i206 x207 s278) v11 s185) (fun s327=>qe2 d8 a9 s327)))
def uj (k:Nat)(d8:Raft)(a9:Int)(i9:Int) : Option (Raft × Bool):=((qdc k i9).bind fun v11=>((qdr v11
  (p9 d8.Peers:Int)).bind fun v14=>((if (!v14)=true then (some true) else ((qd6 v11 a9).bind fun v20=>(some (!v20)))).bind fun v20=>(if (v20 ||
  (decide ((r8 .i64 ((2:Int)*(p9 v11:Int)))≤(p9 d8.Peers:Int))))=true then (some (d8,
  false)) else (jn (jt (fun i58 x59 s183=>wy d8 a9 i58 x59 s183.1 s183.2) v11 (0,d8.Peers)) (fun s328=>qav d8 a9 v11 s328.1 s328.2))))))

def qe7 (d8:Raft)(s130:Mail)(s135:List Peer)  : Option (Raft × Bool):=((ju 88 d8.Mail [s130]).bind fun l182=>(some ((Raft.mk s135 l182),true)))
def qdk (d8:Raft)(a9:RaftStep)(x15:Peer)(s104:Mail)  : Option (Raft × Bool):=((if (decide (a9.N<(p9 x15.Log:Int)))=true then
  ((zy x15.Log a9.N).bind fun x147=>(some ((Mail.mk s104.Reply s104.From s104.To s104.Term s104.Prev s104.PTerm [x147] s104.Commit s104.Match),
  d8.Peers))) else (some ((Mail.mk s104.Reply s104.From s104.To s104.Term s104.Prev s104.PTerm [] s104.Commit s104.Match),
  d8.Peers))).bind (fun s195=>qe7 d8 s195.1 s195.2))
def ud (d8:Raft)(a9:RaftStep) : Option (Raft × Bool):=((zy d8.Peers a9.K).bind fun x15=>(if (((((!(kf d8 a9.To))||(decide
  (a9.To=a9.K)))||(decide (a9.N<0)))||(decide ((p9 x15.Log:Int)<a9.N)))||(decide ((p9 d8.Mail:Int)=20)))=true then (some (d8,
  false)) else ((if (decide ((0:Int)<a9.N))=true then ((zy x15.Log (r8 .i64 (a9.N - 1))).bind fun x113=>(some
  (Mail.mk false a9.K a9.To x15.Term a9.N x113.Term [] x15.Commit 0))) else (some (Mail.mk false a9.K a9.To x15.Term a9.N (-1) [] x15.Commit 0))).bind
  (fun s196=>qdk d8 a9 x15 s196))))

def qbv (i9:Int)(x11:Peer)(i82:Nat)(s81:Int) : Option (Oc Int (Raft × Bool)):=((zy x11.Match (i82:Int)).bind fun x108=>(if (decide
  (i9≤x108))=true then (some (.nxt (r8 .i64 (s81+1)))) else (some (.nxt s81))))
def qb6 (d8:Raft)(a9:Int)(i9:Int)(x11:Peer)(s117:Int)  : Option (Raft × Bool):=(if (decide ((r8 .i64 ((2:Int)*s117)) ≤
  (p9 d8.Peers:Int)))=true then (some (d8,
  false)) else (some ((Raft.mk (a1b d8.Peers a9.toNat (Peer.mk x11.Term x11.Leads x11.Log i9 x11.Match)) d8.Mail),true)))
def xn (d8:Raft)(a9:Int)(i9:Int) : Option (Raft × Bool):=((zy d8.Peers a9).bind fun x11=>((if ((decide (i9≤x11.Commit))||(decide
  ((p9 x11.Log:Int)<i9)))=true then (some true) else ((zy x11.Log (r8 .i64 (i9 - 1))).bind fun x54=>(some (decide
  (x54.Term≠x11.Term))))).bind fun v54=>(if v54=true then (some (d8,
  false)) else (jn (wi (fun i82 s116=>qbv i9 x11 i82 s116) (p9 x11.Match:Int) 0) (fun s145=>qb6 d8 a9 i9 x11 s145)))))

def qfe (s140:Raft)(s145:List Peer)  : Option (Raft × Bool):=(some ((Raft.mk s145 s140.Mail),true))
def kr (k:Nat)(d8:Raft)(a9:RaftStep) : Option (Raft × Bool):=(if (yq a9.Kind 4 6)=true then (if ((((decide (a9.K<0))||(decide
  ((p9 d8.Mail:Int)≤a9.K)))||(decide (a9.To≠0)))||(decide (a9.N≠0)))=true then (some (d8,
  false)) else ((zy d8.Mail a9.K).bind fun x49=>(if (decide (a9.Kind=6))=true then (if (decide ((p9 d8.Mail:Int)=20))=true then (some (d8,
  false)) else ((ju 88 d8.Mail [x49]).bind fun l87=>(some ((Raft.mk d8.Peers l87),
  true)))) else ((sl d8.Mail 0 a9.K).bind fun l106=>((ju 88 ([] : List Mail) l106).bind fun l112=>((sl d8.Mail (r8 .i64 (a9.K+1))
  (p9 d8.Mail)).bind fun l123=>((ju 88 l112 l123).bind fun l129=>((if (decide (a9.Kind=4))=true then ((qci
  (Raft.mk d8.Peers l129) x49).bind fun v157=>(some (v157.1,v157.1.Peers))) else (some ((Raft.mk d8.Peers l129),
  d8.Peers))).bind (fun s181=>qfe s181.1 s181.2))))))))) else (if ((!(kf d8 a9.K))||((decide (a9.Kind≠3))&&(decide
  (a9.To≠0))))=true then (some (d8,
  false)) else ((zy d8.Peers a9.K).bind fun x206=>(if ((decide (a9.Kind=1))&&(yq a9.N 1 31))=true then ((uj k d8 a9.K a9.N).bind fun v250 =>
  (some (v250.1,v250.2))) else (if (!x206.Leads)=true then (some (d8,
  false)) else (if (((decide (a9.Kind=2))&&(yq a9.N 0 99))&&(decide ((p9 x206.Log:Int)<30)))=true then
  ((ju 16 x206.Log [(Entry.mk x206.Term a9.N)]).bind fun l298=>((zy x206.Match a9.K).bind fun x313=>(some ((Raft.mk (a1b d8.Peers a9.K.toNat
  (Peer.mk x206.Term x206.Leads l298 x206.Commit (a1b x206.Match a9.K.toNat (p9 l298:Int)))) d8.Mail),
  true)))) else (if (decide (a9.Kind=3))=true then ((ud d8 a9).bind fun v335=>(some (v335.1,
  v335.2))) else (if (decide (a9.Kind=7))=true then ((xn d8 a9.K a9.N).bind fun v353=>(some (v353.1,v353.2))) else (some (d8,false))))))))))

def qcf (i25:Nat)(x26:Peer)(s20:Raft) : Option (Oc Raft Raft):=((ju 16 ([] : List Entry) x26.Log).bind fun l61=>((ju 8
  ([] : List Int) x26.Match).bind fun l78=>((ju 72 s20.Peers [(Peer.mk x26.Term x26.Leads l61 x26.Commit l78)]).bind fun l95=>(some (.nxt (Raft.mk l95 []))))))
def qcj (s108:Raft)(i130:Nat)(x131:Mail)(s125:Raft) : Option (Oc Raft Raft):=((ju 16 ([] : List Entry) x131.Entry).bind fun l165 =>
  ((ju 88 s125.Mail [(Mail.mk x131.Reply x131.From x131.To x131.Term x131.Prev x131.PTerm l165 x131.Commit x131.Match)]).bind fun l182=>(some (.nxt
  (Raft.mk s108.Peers l182)))))
def qir (s108:Raft)(s195:Raft)  : Option Raft:=(some (Raft.mk s108.Peers s195.Mail))
def qfy (r_0:Raft)(s108:Raft)  : Option Raft:=(jn (jt (fun i130 x131 s194=>qcj s108 i130 x131 s194) r_0.Mail (Raft.mk s108.Peers []))
  (fun s208=>qir s108 s208))
def qbi (r_0:Raft) : Option Raft:=(jn (jt (fun i25 x26 s107=>qcf i25 x26 s107) r_0.Peers (Raft.mk [] [])) (fun s209=>qfy r_0 s209))

def qer (l8:L1Cur)(m9:Int) : Option (Bool × L1Cur):=((yk l8 m9).bind fun v1=>(some ((decide (v1.1=0)),v1.2)))

def qfc (l8:L1Cur)(n8:List Int) : Option (Int × L1Cur × (List Int)):=((yk l8 (p9 n8:Int)).bind fun v1 =>
  ((zy n8 v1.1).bind fun x6=>(some (x6,v1.2,n8))))

def yu (a9:Int)(v36:Raft × Bool)(s81:Raft)(s261:Int)(s262:RaftStep) : Option (Oc (Int × RaftStep) (L1Cur × RaftStep × (List Peer))):=((if
  (v36.2&&(decide (s261<a9)))=true then ((zy s81.Peers s262.K).bind fun x307=>(some (!x307.Leads))) else (some false)).bind fun v307=>(if v307=true then (ck
  (a9≠0) (some (.nxt ((r8 .i64 (s261+1)),(RaftStep.mk s262.Kind (Int.tmod (r8 .i64 (s262.K+1)) a9) s262.To s262.N))))) else (some (.brk (s261,
  s262)))))
def qb4 (a9:Int)(v36:Raft × Bool)(s81:Raft)(v252:Int × L1Cur)(s352:Int)(s353:RaftStep)  : Option (L1Cur × RaftStep × (List Peer)) :=
  ((yk v252.2 6).bind fun v365=>(if (v36.2&&(decide (s353.Kind=3)))=true then ((yk v365.2 a9).bind fun v387=>((zy s81.Peers s353.K).bind fun x394 =>
  ((yk v387.2 (r8 .i64 ((p9 x394.Log:Int)+1))).bind fun v414=>(some (v414.2,(RaftStep.mk s353.Kind s353.K v387.1 v414.1),
  s81.Peers))))) else (some (v365.2,(RaftStep.mk s353.Kind s353.K s353.To v365.1),s81.Peers))))
def qb2 (k:Nat)(a9:Int)(v36:Raft × Bool)(s81:Raft)(s135:L1Cur)(s163:RaftStep)(s219:Bool)  : Option (L1Cur × RaftStep × (List Peer)) :=
  (if s219=true then ((yk s135 4).bind fun v244=>(some (v244.2,(RaftStep.mk s163.Kind v244.1 s163.To s163.N),
  s81.Peers))) else ((yk s135 a9).bind fun v252=>(jn (wo (fun s351=>yu a9 v36 s81 s351.1 s351.2) k (0,
  (RaftStep.mk s163.Kind v252.1 s163.To s163.N))) (fun s427=>qb4 a9 v36 s81 v252 s427.1 s427.2))))
def qby (s74:List RaftStep)(s79:Int)(s186:L1Cur)(s187:RaftStep)(s439:Raft)  : Option (Oc ((List RaftStep) × Int × L1Cur × Raft)
  ((List RaftStep) × L1Cur)):=((ju 32 s74 [s187]).bind fun l513=>(some (.nxt (l513,(r8 .i64 (s79 - 1)),s186,s439))))
def qab (k:Nat)(v36:Raft × Bool)(s74:List RaftStep)(s79:Int)(s81:Raft)(s186:L1Cur)(s187:RaftStep)(s188:List Peer)  : Option (Oc
  ((List RaftStep) × Int × L1Cur × Raft) ((List RaftStep) × L1Cur)):=((if v36.2=true then ((qbi (Raft.mk s188 s81.Mail)).bind fun v460 =>
  ((kr k v460 s187).bind fun v476=>(if v476.2=true then (some v476.1) else (some (Raft.mk s188 s81.Mail))))) else (some (Raft.mk s188 s81.Mail))).bind
  (fun s523=>qby s74 s79 s186 s187 s523))
def qbw (k:Nat)(a9:Int)(v36:Raft × Bool)(s74:List RaftStep)(s79:Int)(s81:Raft)(s135:L1Cur)(s163:RaftStep)  : Option (Oc
  ((List RaftStep) × Int × L1Cur × Raft) ((List RaftStep) × L1Cur)):=((if (decide (s163.Kind=1))=true then ((yk s135 a9).bind fun v200=>(ck (0 ≤
  (r8 .u64 v200.1)) (ck (0≤(r8 .u64 a9)) ((yk v200.2 (qde .i64 1 (r8 .u64 a9))).bind fun v211=>(some (v211.2,
  (RaftStep.mk s163.Kind v200.1 s163.To (wor .i64 (qde .i64 1 (r8 .u64 v200.1)) v211.1)),
  s81.Peers)))))) else ((if (decide (s163.Kind=4))=true then (some (decide (s163.Kind=4))) else (if (decide (s163.Kind=5))=true then (some (decide
  (s163.Kind=5))) else (some (decide (s163.Kind=6))))).bind (fun s428=>qb2 k a9 v36 s81 s135 s163 s428))).bind
  (fun s524=>qab k v36 s74 s79 s81 s524.1 s524.2.1 s524.2.2))
def qb0 (k:Nat)(a9:Int)(v36:Raft × Bool)(s74:List RaftStep)(s79:Int)(s81:Raft)(v121:Int × L1Cur × (List Int))(s134:Bool)
  (s135:L1Cur)  : Option (Oc ((List RaftStep) × Int × L1Cur × Raft) ((List RaftStep) × L1Cur)):=((if s134=true then (some (RaftStep.mk 1 0 0 0)) else (some
  (RaftStep.mk v121.1 0 0 0))).bind (fun s525=>qbw k a9 v36 s74 s79 s81 s135 s525))
def w8 (k:Nat)(a9:Int)(v36:Raft × Bool)(s74:List RaftStep)(s79:Int)(s80:L1Cur)(s81:Raft) : Option (Oc ((List RaftStep) × Int × L1Cur × Raft)
  ((List RaftStep) × L1Cur)):=(if (decide ((0:Int)<s79))=true then ((qfc s80 [2,2,3,3,3,4,4,4,4,4,4,5,6,7,
  7]).bind fun v121=>((if (decide ((p9 s74:Int)=0))=true then (some (true,v121.2.1)) else ((qer v121.2.1 12).bind fun v146=>(some (v146.1,
  v146.2)))).bind (fun s526=>qb0 k a9 v36 s74 s79 s81 v121 s526.1 s526.2))) else (some (.brk (s74,s79,s80,s81))))
def qb9 (s529:List RaftStep)(s554:Bool)(s555:L1Cur)  : Option ((List RaftStep) × L1Cur):=(if s554=true then ((yk s555
  (p9 s529:Int)).bind fun v579=>((yk v579.2 9).bind fun v584=>((yk v584.2 7).bind fun v589=>((yk v589.2 3).bind fun v594 =>
  ((yk v594.2 40).bind fun v599=>((zy s529 v579.1).bind fun x604=>(some ((a1b s529 v579.1.toNat (RaftStep.mk v584.1 (r8 .i64 (v589.1 - 1)) v594.1
  (r8 .i64 (v599.1 - 2)))),v599.2)))))))) else (some (s529,s555)))
def qbs (s529:List RaftStep)(s534:Int)(s535:L1Cur)(s536:Raft)  : Option ((List RaftStep) × L1Cur):=((if (decide ((0:Int) <
  (p9 s529:Int)))=true then ((qer s535 12).bind fun v565=>(some (v565.1,v565.2))) else (some (false,
  s535))).bind (fun s614=>qb9 s529 s614.1 s614.2))
def qcb (k:Nat)(a9:Int)(s11:Int)(s12:L1Cur)  : Option ((List RaftStep) × L1Cur):=((qdp k a9).bind fun v36=>(jn (wo
  (fun s528=>w8 k a9 v36 s528.1 s528.2.1 s528.2.2.1 s528.2.2.2) k (([],s11,s12,
  v36.1) : (List RaftStep) × Int × L1Cur × Raft)) (fun s615=>qbs s615.1 s615.2.1 s615.2.2.1 s615.2.2.2)))
def qcl (k:Nat)(d8:L1Cur)(a9:Int) : Option ((List RaftStep) × L1Cur):=((yk d8 50).bind fun v1=>((qer v1.2 8).bind fun v6 =>
  ((if v6.1=true then ((yk v6.2 12).bind fun v22=>(some ((r8 .i64 ((90:Int)+v22.1)),v22.2))) else (some (v1.1,
  v6.2))).bind (fun s616=>qcb k a9 s616.1 s616.2))))

def qah (k:Nat)(m8:List Int) : Option (Int × (List RaftStep)):=((yk (L1Cur.mk m8 0 0) 5).bind fun v5=>((qcl k v5.2
  (r8 .i64 ((1:Int)+v5.1))).bind fun v10=>(some ((r8 .i64 ((1:Int)+v5.1)),v10.1))))

def zg (n9:Int)(low_1:Int)(high_2:Int) : Bool:=((decide (low_1≤n9))&&(decide (n9≤high_2)))

def qfg (peers_0:Int)(i21:Nat)(s16:Raft) : Option (Oc Raft Raft):=((mkN 8 peers_0 (0:Int)).bind fun l44=>((ju 72 s16.Peers
  ([(Peer.mk 0 false [] 0 l44)])).bind fun l59=>(some (.nxt (Raft.mk l59 [])))))
def qh8 (s72:Raft)  : Option Raft:=(some (Raft.mk s72.Peers []))
def qfo (peers_0:Int) : Option Raft:=(jn (wi (fun i21 s71=>qfg peers_0 i21 s71) peers_0 (Raft.mk [] [])) (fun s85=>qh8 s85))

def qap (i27:Nat)(x28:Peer)(s22:Raft) : Option (Oc Raft Raft):=((ju 16 ([] : List Entry) x28.Log).bind fun l63=>((ju 8
  ([] : List Int) x28.Match).bind fun l80=>((ju 72 s22.Peers [(Peer.mk x28.Term x28.Leads l63 x28.Commit l80)]).bind fun l97=>(some (.nxt (Raft.mk l97 []))))))
def qan (s110:Raft)(i132:Nat)(x133:Mail)(s127:Raft) : Option (Oc Raft Raft):=((ju 16 ([] : List Entry) x133.Entry).bind fun l167 =>
  ((ju 88 s127.Mail [(Mail.mk x133.Reply x133.From x133.To x133.Term x133.Prev x133.PTerm l167 x133.Commit x133.Match)]).bind fun l184=>(some (.nxt
  (Raft.mk s110.Peers l184)))))
def qhr (s110:Raft)(s197:Raft)  : Option Raft:=(some (Raft.mk s110.Peers s197.Mail))
def qey (r_0:Raft)(s110:Raft)  : Option Raft:=(jn (jt (fun i132 x133 s196=>qan s110 i132 x133 s196) r_0.Mail (Raft.mk s110.Peers []))
  (fun s210=>qhr s110 s210))
def qc8 (r_0:Raft) : Option Raft:=(jn (jt (fun i27 x28 s109=>qap i27 x28 s109) r_0.Peers (Raft.mk [] [])) (fun s211=>qey r_0 s211))

def qe5 (i4:Int) : Option Int:=((qm3 (ByteArray.mk #[0,1,1,2,1,2,2,3,1,2,2,3,2,3,3,4,1,2,2,3,2,3,3,4,2,3,3,4,3,4,4,5,1,2,
  2,3,2,3,3,4,2,3,3,4,3,4,4,5,2,3,3,4,3,4,4,5,3,4,4,5,4,5,5,6,1,2,2,3,2,3,3,4,2,3,3,4,3,4,4,5,2,3,3,4,3,4,4,5,3,4,4,5,
  4,5,5,6,2,3,3,4,3,4,4,5,3,4,4,5,4,5,5,6,3,4,4,5,4,5,5,6,4,5,5,6,5,6,6,7,1,2,2,3,2,3,3,4,2,3,3,4,3,4,4,5,2,3,3,4,3,4,
  4,5,3,4,4,5,4,5,5,6,2,3,3,4,3,4,4,5,3,4,4,5,4,5,5,6,3,4,4,5,4,5,5,6,4,5,5,6,5,6,6,7,2,3,3,4,3,4,4,5,3,4,4,5,4,5,5,6,
  3,4,4,5,4,5,5,6,4,5,5,6,5,6,6,7,3,4,4,5,4,5,5,6,4,5,5,6,5,6,6,7,4,5,5,6,5,6,6,7,5,6,6,7,6,7,7,
  8]) (jo .u32 i4 24)).bind fun y1=>((qm3 (ByteArray.mk #[0,1,1,2,1,2,2,3,1,2,2,3,2,3,3,4,1,2,2,3,2,3,3,4,2,3,3,4,3,4,4,5,1,2,2,3,2,3,
  3,4,2,3,3,4,3,4,4,5,2,3,3,4,3,4,4,5,3,4,4,5,4,5,5,6,1,2,2,3,2,3,3,4,2,3,3,4,3,4,4,5,2,3,3,4,3,4,4,5,3,4,4,5,4,5,5,6,
  2,3,3,4,3,4,4,5,3,4,4,5,4,5,5,6,3,4,4,5,4,5,5,6,4,5,5,6,5,6,6,7,1,2,2,3,2,3,3,4,2,3,3,4,3,4,4,5,2,3,3,4,3,4,4,5,3,4,
  4,5,4,5,5,6,2,3,3,4,3,4,4,5,3,4,4,5,4,5,5,6,3,4,4,5,4,5,5,6,4,5,5,6,5,6,6,7,2,3,3,4,3,4,4,5,3,4,4,5,4,5,5,6,3,4,4,5,
  4,5,5,6,4,5,5,6,5,6,6,7,3,4,4,5,4,5,5,6,4,5,5,6,5,6,6,7,4,5,5,6,5,6,6,7,5,6,6,7,6,7,7,
  8]) (z8 .u32 (jo .u32 i4 16) 255)).bind fun y4=>((qm3 (ByteArray.mk #[0,1,1,2,1,2,2,3,1,2,2,3,2,3,3,4,1,2,2,3,2,3,3,4,2,3,3,4,3,4,4,5,
  1,2,2,3,2,3,3,4,2,3,3,4,3,4,4,5,2,3,3,4,3,4,4,5,3,4,4,5,4,5,5,6,1,2,2,3,2,3,3,4,2,3,3,4,3,4,4,5,2,3,3,4,3,4,4,5,3,4,
  4,5,4,5,5,6,2,3,3,4,3,4,4,5,3,4,4,5,4,5,5,6,3,4,4,5,4,5,5,6,4,5,5,6,5,6,6,7,1,2,2,3,2,3,3,4,2,3,3,4,3,4,4,5,2,3,3,4,
  3,4,4,5,3,4,4,5,4,5,5,6,2,3,3,4,3,4,4,5,3,4,4,5,4,5,5,6,3,4,4,5,4,5,5,6,4,5,5,6,5,6,6,7,2,3,3,4,3,4,4,5,3,4,4,5,4,5,
  5,6,3,4,4,5,4,5,5,6,4,5,5,6,5,6,6,7,3,4,4,5,4,5,5,6,4,5,5,6,5,6,6,7,4,5,5,6,5,6,6,7,5,6,6,7,6,7,7,
  8]) (z8 .u32 (jo .u32 i4 8) 255)).bind fun y7=>((qm3 (ByteArray.mk #[0,1,1,2,1,2,2,3,1,2,2,3,2,3,3,4,1,2,2,3,2,3,3,4,2,3,3,4,3,4,4,5,1,
  2,2,3,2,3,3,4,2,3,3,4,3,4,4,5,2,3,3,4,3,4,4,5,3,4,4,5,4,5,5,6,1,2,2,3,2,3,3,4,2,3,3,4,3,4,4,5,2,3,3,4,3,4,4,5,3,4,4,
  5,4,5,5,6,2,3,3,4,3,4,4,5,3,4,4,5,4,5,5,6,3,4,4,5,4,5,5,6,4,5,5,6,5,6,6,7,1,2,2,3,2,3,3,4,2,3,3,4,3,4,4,5,2,3,3,4,3,
  4,4,5,3,4,4,5,4,5,5,6,2,3,3,4,3,4,4,5,3,4,4,5,4,5,5,6,3,4,4,5,4,5,5,6,4,5,5,6,5,6,6,7,2,3,3,4,3,4,4,5,3,4,4,5,4,5,5,
  6,3,4,4,5,4,5,5,6,4,5,5,6,5,6,6,7,3,4,4,5,4,5,5,6,4,5,5,6,5,6,6,7,4,5,5,6,5,6,6,7,5,6,6,7,6,7,7,
  8]) (z8 .u32 i4 255)).bind fun y10=>(some (r8 .i64 (r8 .u8 ((r8 .u8 ((r8 .u8 (y1+y4))+y7))+y10))))))))

def qcn (i4:Int) : Int:=(z8 .i64 (r8 .i64 (r8 .u64 ((r8 .u64 ((r8 .u64 ((z8 .u64 (r8 .u64 ((jo .u64
  (r8 .u64 ((z8 .u64 (jo .u64 (r8 .u64 ((z8 .u64 (jo .u64 i4 1) 6148914691236517205) +
  (z8 .u64 i4 6148914691236517205))) 2) 3689348814741910323)+(z8 .u64 (r8 .u64 ((z8 .u64 (jo .u64 i4 1) 6148914691236517205) +
  (z8 .u64 i4 6148914691236517205))) 3689348814741910323))) 4)+(r8 .u64 ((z8 .u64 (jo .u64 (r8 .u64 ((z8 .u64
  (jo .u64 i4 1) 6148914691236517205)+(z8 .u64 i4 6148914691236517205))) 2) 3689348814741910323)+(z8 .u64 (r8 .u64 ((z8 .u64
  (jo .u64 i4 1) 6148914691236517205)+(z8 .u64 i4 6148914691236517205))) 3689348814741910323))))) 1085102592571150095)+(jo .u64 (z8 .u64 (r8 .u64
  ((jo .u64 (r8 .u64 ((z8 .u64 (jo .u64 (r8 .u64 ((z8 .u64 (jo .u64 i4 1) 6148914691236517205) +
  (z8 .u64 i4 6148914691236517205))) 2) 3689348814741910323)+(z8 .u64 (r8 .u64 ((z8 .u64 (jo .u64 i4 1) 6148914691236517205) +
  (z8 .u64 i4 6148914691236517205))) 3689348814741910323))) 4)+(r8 .u64 ((z8 .u64 (jo .u64 (r8 .u64 ((z8 .u64
  (jo .u64 i4 1) 6148914691236517205)+(z8 .u64 i4 6148914691236517205))) 2) 3689348814741910323)+(z8 .u64 (r8 .u64 ((z8 .u64
  (jo .u64 i4 1) 6148914691236517205)+(z8 .u64 i4 6148914691236517205))) 3689348814741910323))))) 1085102592571150095) 8)))+(jo .u64 (r8 .u64 ((z8 .u64
  (r8 .u64 ((jo .u64 (r8 .u64 ((z8 .u64 (jo .u64 (r8 .u64 ((z8 .u64 (jo .u64 i4 1) 6148914691236517205) +
  (z8 .u64 i4 6148914691236517205))) 2) 3689348814741910323)+(z8 .u64 (r8 .u64 ((z8 .u64 (jo .u64 i4 1) 6148914691236517205) +
  (z8 .u64 i4 6148914691236517205))) 3689348814741910323))) 4)+(r8 .u64 ((z8 .u64 (jo .u64 (r8 .u64 ((z8 .u64
  (jo .u64 i4 1) 6148914691236517205)+(z8 .u64 i4 6148914691236517205))) 2) 3689348814741910323)+(z8 .u64 (r8 .u64 ((z8 .u64
  (jo .u64 i4 1) 6148914691236517205)+(z8 .u64 i4 6148914691236517205))) 3689348814741910323))))) 1085102592571150095)+(jo .u64 (z8 .u64 (r8 .u64
  ((jo .u64 (r8 .u64 ((z8 .u64 (jo .u64 (r8 .u64 ((z8 .u64 (jo .u64 i4 1) 6148914691236517205) +
  (z8 .u64 i4 6148914691236517205))) 2) 3689348814741910323)+(z8 .u64 (r8 .u64 ((z8 .u64 (jo .u64 i4 1) 6148914691236517205) +
  (z8 .u64 i4 6148914691236517205))) 3689348814741910323))) 4)+(r8 .u64 ((z8 .u64 (jo .u64 (r8 .u64 ((z8 .u64
  (jo .u64 i4 1) 6148914691236517205)+(z8 .u64 i4 6148914691236517205))) 2) 3689348814741910323)+(z8 .u64 (r8 .u64 ((z8 .u64
  (jo .u64 i4 1) 6148914691236517205)+(z8 .u64 i4 6148914691236517205))) 3689348814741910323))))) 1085102592571150095) 8))) 16)))+(jo .u64 (r8 .u64
  ((r8 .u64 ((z8 .u64 (r8 .u64 ((jo .u64 (r8 .u64 ((z8 .u64 (jo .u64 (r8 .u64 ((z8 .u64
  (jo .u64 i4 1) 6148914691236517205)+(z8 .u64 i4 6148914691236517205))) 2) 3689348814741910323)+(z8 .u64 (r8 .u64 ((z8 .u64
  (jo .u64 i4 1) 6148914691236517205)+(z8 .u64 i4 6148914691236517205))) 3689348814741910323))) 4)+(r8 .u64 ((z8 .u64 (jo .u64 (r8 .u64
  ((z8 .u64 (jo .u64 i4 1) 6148914691236517205)+(z8 .u64 i4 6148914691236517205))) 2) 3689348814741910323)+(z8 .u64 (r8 .u64 ((z8 .u64
  (jo .u64 i4 1) 6148914691236517205)+(z8 .u64 i4 6148914691236517205))) 3689348814741910323))))) 1085102592571150095)+(jo .u64 (z8 .u64 (r8 .u64
  ((jo .u64 (r8 .u64 ((z8 .u64 (jo .u64 (r8 .u64 ((z8 .u64 (jo .u64 i4 1) 6148914691236517205) +
  (z8 .u64 i4 6148914691236517205))) 2) 3689348814741910323)+(z8 .u64 (r8 .u64 ((z8 .u64 (jo .u64 i4 1) 6148914691236517205) +
  (z8 .u64 i4 6148914691236517205))) 3689348814741910323))) 4)+(r8 .u64 ((z8 .u64 (jo .u64 (r8 .u64 ((z8 .u64
  (jo .u64 i4 1) 6148914691236517205)+(z8 .u64 i4 6148914691236517205))) 2) 3689348814741910323)+(z8 .u64 (r8 .u64 ((z8 .u64
  (jo .u64 i4 1) 6148914691236517205)+(z8 .u64 i4 6148914691236517205))) 3689348814741910323))))) 1085102592571150095) 8)))+(jo .u64 (r8 .u64 ((z8 .u64
  (r8 .u64 ((jo .u64 (r8 .u64 ((z8 .u64 (jo .u64 (r8 .u64 ((z8 .u64 (jo .u64 i4 1) 6148914691236517205) +
  (z8 .u64 i4 6148914691236517205))) 2) 3689348814741910323)+(z8 .u64 (r8 .u64 ((z8 .u64 (jo .u64 i4 1) 6148914691236517205) +
  (z8 .u64 i4 6148914691236517205))) 3689348814741910323))) 4)+(r8 .u64 ((z8 .u64 (jo .u64 (r8 .u64 ((z8 .u64
  (jo .u64 i4 1) 6148914691236517205)+(z8 .u64 i4 6148914691236517205))) 2) 3689348814741910323)+(z8 .u64 (r8 .u64 ((z8 .u64
  (jo .u64 i4 1) 6148914691236517205)+(z8 .u64 i4 6148914691236517205))) 3689348814741910323))))) 1085102592571150095)+(jo .u64 (z8 .u64 (r8 .u64
  ((jo .u64 (r8 .u64 ((z8 .u64 (jo .u64 (r8 .u64 ((z8 .u64 (jo .u64 i4 1) 6148914691236517205) +
  (z8 .u64 i4 6148914691236517205))) 2) 3689348814741910323)+(z8 .u64 (r8 .u64 ((z8 .u64 (jo .u64 i4 1) 6148914691236517205) +
  (z8 .u64 i4 6148914691236517205))) 3689348814741910323))) 4)+(r8 .u64 ((z8 .u64 (jo .u64 (r8 .u64 ((z8 .u64
  (jo .u64 i4 1) 6148914691236517205)+(z8 .u64 i4 6148914691236517205))) 2) 3689348814741910323)+(z8 .u64 (r8 .u64 ((z8 .u64
  (jo .u64 i4 1) 6148914691236517205)+(z8 .u64 i4 6148914691236517205))) 3689348814741910323))))) 1085102592571150095) 8))) 16))) 32)))) 127)

def kx (i4:Int) : Int:=(qcn i4)

def qdl (i17:Nat)(x18:Entry)(s12:List Int) : Option (Oc (List Int) (List Int)):=((ju 8 s12 [x18.Term]).bind fun l53=>(some (.nxt l53)))
def qih (s64:List Int)  : Option (List Int):=(some s64)
def qce (i6:List Entry) : Option (List Int):=(jn (jt (fun i17 x18 s63=>qdl i17 x18 s63) i6 ([] : List Int)) (fun s74=>qih s74))

def qbl (i6:List Int) : Option Int:=(if (decide ((p9 i6:Int)=0))=true then (some (-1)) else ((zy i6 (r8 .i64
  ((p9 i6:Int) - 1))).bind fun x2=>(some x2)))

def qc7 (last_0:Int)(long_1:Int)(b_2:List Int) : Option Bool:=((qbl b_2).bind fun v1=>((if (decide (v1<last_0))=true then (some true) else
  ((qbl b_2).bind fun v7=>(some ((decide (last_0=v7))&&(decide ((p9 b_2:Int)≤long_1)))))).bind fun v7=>(some v7)))

def kn (d8:Raft)(i9:Int)(v69:List Int)(i84:Nat)(s80:Int)(s81:List Peer) : Option (Oc (Int × (List Peer)) (Bool × Raft)):=((zy s81
  (i84:Int)).bind fun x111=>(ck (0≤(i84:Int)) (if (decide ((z8 .i64 (jo .i64 i9 (i84:Int)) 1)=1))=true then ((qbl v69).bind fun v140 =>
  ((qce x111.Log).bind fun v143=>((qc7 v140 (p9 v69:Int) v143).bind fun v146=>(if (!v146)=true then (some (.ret (false,
  (Raft.mk s81 d8.Mail)))) else (some (.nxt ((mxI s80 x111.Term),s81))))))) else (some (.nxt (s80,s81))))))
def uy (d8:Raft)(a9:Int)(i9:Int)(s168:Int)(i189:Nat)(s186:List Peer) : Option (Oc (List Peer) (Bool × Raft)):=(ck (0≤(i189:Int)) (if
  (decide ((z8 .i64 (jo .i64 i9 (i189:Int)) 1)=1))=true then ((zy s186 (i189:Int)).bind fun x218=>((mkN 8 (p9 d8.Peers:Int)
  (0:Int)).bind fun l244=>(some (.nxt (a1b s186 (i189:Int).toNat (Peer.mk (r8 .i64 (s168+1)) (decide
  ((i189:Int)=a9)) x218.Log x218.Commit l244)))))) else (some (.nxt s186))))
def qd0 (d8:Raft)(a9:Int)(v69:List Int)(s265:List Peer)  : Option (Bool × Raft):=((zy s265 a9).bind fun x277 =>
  ((zy x277.Match a9).bind fun x295=>(some (true,
  (Raft.mk (a1b s265 a9.toNat (Peer.mk x277.Term x277.Leads x277.Log x277.Commit (a1b x277.Match a9.toNat (p9 v69:Int)))) d8.Mail)))))
def uv (d8:Raft)(a9:Int)(i9:Int)(v69:List Int)(s168:Int)(s169:List Peer)  : Option (Bool × Raft):=(if (decide (s168=100))=true then
  (some (false,(Raft.mk s169 d8.Mail))) else (jn (wi (fun i189 s264=>uy d8 a9 i9 s168 i189 s264) (p9 s169:Int) s169)
  (fun s310=>qd0 d8 a9 v69 s310)))
def wd (d8:Raft)(a9:Int)(i9:Int) : Option (Bool × Raft):=((if (decide (i9<0))=true then (some true) else (ck (0≤(p9 d8.Peers:Int))
  (some (decide ((qde .i64 1 (p9 d8.Peers:Int))≤i9))))).bind fun v4=>((if v4=true then (some true) else (ck (0≤a9) (some (decide ((z8 .i64
  (jo .i64 i9 a9) 1)=0))))).bind fun v22=>(if (v22||(decide ((r8 .i64 ((2:Int)*(kx (r8 .u64 i9)))) ≤
  (p9 d8.Peers:Int))))=true then (some (false,
  d8)) else ((zy d8.Peers a9).bind fun x49=>((qce x49.Log).bind fun v69=>(jn (wi (fun i84 s167=>kn d8 i9 v69 i84 s167.1 s167.2)
  (p9 d8.Peers:Int) (0,d8.Peers)) (fun s311=>uv d8 a9 i9 v69 s311.1 s311.2)))))))

def qew (d8:Raft)(s209:Mail)(s214:List Peer)  : Option (Bool × Raft):=((ju 88 d8.Mail [s209]).bind fun l271=>(some (true,(Raft.mk s214 l271))))
def qam (d8:Raft)(a9:RaftStep)(s139:List Peer)(s142:Mail)  : Option (Bool × Raft):=((zy s139 a9.K).bind fun x187=>((if (decide (a9.N <
  (p9 x187.Log:Int)))=true then ((zy x187.Log a9.N).bind fun x241=>(some
  ((Mail.mk s142.Reply s142.From s142.To s142.Term s142.Prev s142.PTerm [x241] s142.Commit s142.Match),
  s139))) else (some ((Mail.mk s142.Reply s142.From s142.To s142.Term s142.Prev s142.PTerm [] s142.Commit s142.Match),
  s139))).bind (fun s282=>qew d8 s282.1 s282.2)))
def qc2 (a9:RaftStep)(x7:Peer)(i301:Nat)(s300:Int) : Option (Oc Int (Bool × Raft)):=((zy x7.Match (i301:Int)).bind fun x326=>(if (decide
  (a9.N≤x326))=true then (some (.nxt (r8 .i64 (s300+1)))) else (some (.nxt s300))))
def qcz (d8:Raft)(a9:RaftStep)(x7:Peer)(s335:Int)  : Option (Bool × Raft):=((if (!(zg a9.N (r8 .i64 (x7.Commit+1))
  (p9 x7.Log:Int)))=true then (some true) else ((zy x7.Log (r8 .i64 (a9.N - 1))).bind fun x347=>(some (decide
  (x347.Term≠x7.Term))))).bind fun v347=>(if (v347||(decide ((r8 .i64 ((2:Int)*s335))≤(p9 d8.Peers:Int))))=true then (some (false,
  d8)) else (some (true,(Raft.mk (a1b d8.Peers a9.K.toNat (Peer.mk x7.Term x7.Leads x7.Log a9.N x7.Match)) d8.Mail)))))
def yf (d8:Raft)(a9:RaftStep) : Option (Bool × Raft):=((zy d8.Peers a9.K).bind fun x7=>(if (decide (a9.Kind=2))=true then (if
  ((!(zg a9.N 0 99))||(decide ((p9 x7.Log:Int)=30)))=true then (some (false,
  d8)) else ((ju 16 x7.Log [(Entry.mk x7.Term a9.N)]).bind fun l59=>((zy x7.Match a9.K).bind fun x72=>(some (true,
  (Raft.mk (a1b d8.Peers a9.K.toNat (Peer.mk x7.Term x7.Leads l59 x7.Commit (a1b x7.Match a9.K.toNat (p9 l59:Int)))) d8.Mail)))))) else (if (decide
  (a9.Kind=3))=true then (if ((!(zg a9.To 0 (r8 .i64 ((p9 d8.Peers:Int) - 1))))||(decide (a9.To=a9.K)))=true then (some (false,
  d8)) else (if ((!(zg a9.N 0 (p9 x7.Log:Int)))||(decide ((p9 d8.Mail:Int)=20)))=true then (some (false,
  d8)) else ((if (decide ((0:Int)<a9.N))=true then ((zy x7.Log (r8 .i64 (a9.N - 1))).bind fun x167=>(some (d8.Peers,
  (Mail.mk false a9.K a9.To x7.Term a9.N x167.Term [] x7.Commit 0)))) else (some (d8.Peers,
  (Mail.mk false a9.K a9.To x7.Term a9.N (-1) [] x7.Commit 0)))).bind (fun s283=>qam d8 a9 s283.1 s283.2)))) else (jn (wi
  (fun i301 s334=>qc2 a9 x7 i301 s334) (p9 x7.Match:Int) 0) (fun s388=>qcz d8 a9 x7 s388)))))

def xk (s_0:List Mail)(i_1:Int)(j_2:Int) : Option (List Mail):=qm9 s_0 i_1 j_2

def qb1 (d8:Raft)(a9:Mail)(s119:List Peer)  : Option (Raft × Mail):=(some ((Raft.mk s119 d8.Mail),a9))
def qb5 (a9:Mail)(s215:Int)(s396:List Peer)  : Option (Oc (Int × (List Peer)) (Raft × Mail)):=((zy s396 a9.To).bind fun x458=>(if (decide
  (a9.Prev<(p9 x458.Log:Int)))=true then (some (.nxt ((r8 .i64 (s215+1)),s396))) else (some (.nxt (s215,s396)))))
def qaf (a9:Mail)(s215:Int)(x244:Entry)(s304:List Peer)  : Option (Oc (Int × (List Peer)) (Raft × Mail)):=((zy s304 a9.To).bind fun x359=>((if
  ((decide (a9.Prev=(p9 x359.Log:Int)))&&(decide ((p9 x359.Log:Int)<30)))=true then ((ju 16 x359.Log [x244]).bind fun l428=>(some
  (a1b s304 a9.To.toNat (Peer.mk x359.Term x359.Leads l428 x359.Commit x359.Match)))) else (some s304)).bind (fun s487=>qb5 a9 s215 s487)))
def qbx (a9:Mail)(i219:Nat)(s215:Int)(s216:List Peer) : Option (Oc (Int × (List Peer)) (Raft × Mail)):=((zy a9.Entry (i219:Int)).bind fun x244 =>
  ((zy s216 a9.To).bind fun x257=>((if (decide (a9.Prev<(p9 x257.Log:Int)))=true then ((zy x257.Log a9.Prev).bind fun x278=>(some (decide
  (x278.Term≠x244.Term)))) else (some false)).bind fun v278=>((if v278=true then ((sl x257.Log 0 a9.Prev).bind fun l330=>(some (a1b s216 a9.To.toNat
  (Peer.mk x257.Term x257.Leads l330 x257.Commit x257.Match)))) else (some s216)).bind (fun s488=>qaf a9 s215 x244 s488)))))
def qbz (a9:Mail)(i535:Nat)(s532:List Peer) : Option (Oc (List Peer) (Raft × Mail)):=((zy s532 a9.To).bind fun x559=>((zy x559.Match
  (i535:Int)).bind fun x577=>(some (.nxt (a1b s532 a9.To.toNat (Peer.mk x559.Term x559.Leads x559.Log x559.Commit (a1b x559.Match (i535:Int).toNat (mnI x577
  (p9 x559.Log:Int)))))))))
def qeh (d8:Raft)(a9:Mail)(s490:Int)(s594:List Peer)  : Option (Raft × Mail):=((zy s594 a9.To).bind fun x604=>((ju 88 d8.Mail
  ([(Mail.mk true a9.To a9.From x604.Term 0 0 [] 0 s490)])).bind fun l628=>(some ((Raft.mk s594 l628),a9))))
def qbr (d8:Raft)(a9:Mail)(s490:Int)(s491:List Peer)  : Option (Raft × Mail):=((zy s491 a9.To).bind fun x502=>(jn (wi
  (fun i535 s593=>qbz a9 i535 s593) (p9 x502.Match:Int) (a1b s491 a9.To.toNat (Peer.mk x502.Term x502.Leads x502.Log (mnI (mxI x502.Commit
  (mnI a9.Commit s490)) (p9 x502.Log:Int)) x502.Match))) (fun s643=>qeh d8 a9 s490 s643)))
def qaa (d8:Raft)(a9:Mail)(s31:List Peer)  : Option (Raft × Mail):=((zy s31 a9.To).bind fun x91=>(if (decide (a9.Term≠x91.Term))=true then
  (some ((Raft.mk s31 d8.Mail),a9)) else (if a9.Reply=true then ((if x91.Leads=true then ((zy x91.Match a9.From).bind fun x145=>(some (a1b s31 a9.To.toNat
  (Peer.mk x91.Term x91.Leads x91.Log x91.Commit (a1b x91.Match a9.From.toNat (mxI x145 (mnI a9.Match (p9 x91.Log:Int)))))))) else (some s31)).bind
  (fun s165=>qb1 d8 a9 s165)) else ((if (decide ((p9 x91.Log:Int)<a9.Prev))=true then (some true) else ((if (decide
  ((0:Int)<a9.Prev))=true then ((zy x91.Log (r8 .i64 (a9.Prev - 1))).bind fun x172=>(some (decide (x172.Term≠a9.PTerm)))) else
  (some false)).bind fun v172=>(some v172))).bind fun v169=>(if v169=true then (some ((Raft.mk s31 d8.Mail),
  a9)) else (jn (wi (fun i219 s489=>qbx a9 i219 s489.1 s489.2) (p9 a9.Entry:Int) (a9.Prev,
  s31)) (fun s644=>qbr d8 a9 s644.1 s644.2)))))))
def qcp (d8:Raft)(a9:Mail) : Option (Raft × Mail):=((zy d8.Peers a9.To).bind fun x7=>((if (decide (x7.Term<a9.Term))=true then ((mkN 8
  (p9 d8.Peers:Int) (0:Int)).bind fun l65=>(some (a1b d8.Peers a9.To.toNat (Peer.mk a9.Term false x7.Log x7.Commit l65)))) else (some d8.Peers)).bind
  (fun s645=>qaa d8 a9 s645)))

def qeb (s50:Bool)(s51:List Peer)(s54:List Mail)  : Option (Raft × Bool):=(if (!s50)=true then (some ((Raft.mk [] []),
  false)) else (some ((Raft.mk s51 s54),true)))
def qb8 (s152:Bool)(s153:Raft)(s158:List Peer)  : Option (Raft × Bool):=(if (!s152)=true then (some ((Raft.mk [] []),
  false)) else (some ((Raft.mk s158 s153.Mail),true)))
def y6 (d8:Raft)(a9:RaftStep)(v17:Raft)(s195:Bool)  : Option (Raft × Bool):=(if s195=true then (if (((decide (a9.To≠0))||(decide
  (a9.N≠0)))||(!(zg a9.K 0 (r8 .i64 ((p9 d8.Mail:Int) - 1)))))=true then (some ((Raft.mk [] []),
  false)) else ((zy v17.Mail a9.K).bind fun x243=>(if (decide (a9.Kind=6))=true then ((ju 16 ([] : List Entry) x243.Entry).bind fun l272 =>
  ((ju 88 v17.Mail [(Mail.mk x243.Reply x243.From x243.To x243.Term x243.Prev x243.PTerm l272 x243.Commit x243.Match)]).bind fun l293=>(if (!(decide
  ((p9 d8.Mail:Int)<20)))=true then (some ((Raft.mk [] []),false)) else (some ((Raft.mk v17.Peers l293),
  true))))) else (if (decide (a9.Kind=4))=true then ((xk v17.Mail a9.K (r8 .i64 (a9.K+1))).bind fun v314=>((qcp
  (Raft.mk v17.Peers v314) x243).bind fun v325=>(if (!true)=true then (some ((Raft.mk [] []),false)) else (some (v325.1,
  true))))) else ((xk v17.Mail a9.K (r8 .i64 (a9.K+1))).bind fun v347=>(if (!true)=true then (some ((Raft.mk [] []),
  false)) else (some ((Raft.mk v17.Peers v347),true)))))))) else (if (!false)=true then (some ((Raft.mk [] []),false)) else (some (v17,true))))
def qag (d8:Raft)(a9:RaftStep)(v17:Raft)(s89:Bool)  : Option (Raft × Bool):=(if s89=true then ((if (zg a9.K 0 (r8 .i64
  ((p9 d8.Peers:Int) - 1)))=true then ((zy d8.Peers a9.K).bind fun x116=>(some x116.Leads)) else (some false)).bind fun v116=>((if (v116&&((decide
  (a9.Kind=3))||(decide (a9.To=0))))=true then ((yf v17 a9).bind fun v170=>(some (v170.1,v170.2,v170.2.Peers))) else (some (false,v17,
  v17.Peers))).bind (fun s194=>qb8 s194.1 s194.2.1 s194.2.2))) else ((if (decide (a9.Kind=4))=true then (some (decide (a9.Kind=4))) else (if (decide
  (a9.Kind=5))=true then (some (decide (a9.Kind=5))) else (some (decide (a9.Kind=6))))).bind (fun s368=>y6 d8 a9 v17 s368)))
def k8 (d8:Raft)(a9:RaftStep) : Option (Raft × Bool):=((qc8 d8).bind fun v17=>(if (decide (a9.Kind=1))=true then ((if ((decide
  (a9.To=0))&&(zg a9.K 0 (r8 .i64 ((p9 d8.Peers:Int) - 1))))=true then ((wd v17 a9.K a9.N).bind fun v66=>(some (v66.1,
  v66.2.Peers,v66.2.Mail))) else (some (false,v17.Peers,
  v17.Mail))).bind (fun s88=>qeb s88.1 s88.2.1 s88.2.2)) else ((if (decide (a9.Kind=2))=true then (some (decide (a9.Kind=2))) else (if (decide
  (a9.Kind=3))=true then (some (decide (a9.Kind=3))) else (some (decide (a9.Kind=7))))).bind (fun s369=>qag d8 a9 v17 s369))))

def qcv (s60:List Bool)(v106:Raft × Bool)(s130:Raft)  : Option (Oc ((List Bool) × Raft) (Raft × (List Bool) × Bool)) :=
  ((ju 1 s60 [v106.2]).bind fun l167=>(some (.nxt (l167,s130))))
def um (i74:Nat)(x75:RaftStep)(s60:List Bool)(s65:Raft) : Option (Oc ((List Bool) × Raft) (Raft × (List Bool) × Bool)) :=
  ((k8 s65 x75).bind fun v106=>((if v106.2=true then (some v106.1) else (some s65)).bind (fun s177=>qcv s60 v106 s177)))
def qho (s179:List Bool)(s184:Raft)  : Option (Raft × (List Bool) × Bool):=(some (s184,s179,true))
def qc6 (peers_0:Int)(n7:List RaftStep) : Option (Raft × (List Bool) × Bool):=(if ((!(zg peers_0 1 5))||(decide ((100:Int) <
  (p9 n7:Int))))=true then (some ((Raft.mk [] []),[],
  false)) else ((qfo peers_0).bind fun v18=>(jn (jt (fun i74 x75 s178=>um i74 x75 s178.1 s178.2) n7 (([] : List Bool),
  v18)) (fun s202=>qho s202.1 s202.2))))

def qcu (s54:List Bool)(v120:Raft × Bool)(s135:Raft)  : Option (Oc ((List Bool) × Raft) (Raft × (List Bool) × Bool)) :=
  ((ju 1 s54 [v120.2]).bind fun l172=>(some (.nxt (l172,s135))))
def uk (k:Nat)(i68:Nat)(x69:RaftStep)(s54:List Bool)(s59:Raft) : Option (Oc ((List Bool) × Raft) (Raft × (List Bool) × Bool)) :=
  ((qbi s59).bind fun v104=>((kr k v104 x69).bind fun v120=>((if v120.2=true then (some v120.1) else (some s59)).bind
  (fun s182=>qcu s54 v120 s182))))
def qe1 (s184:List Bool)(s189:Raft)  : Option (Raft × (List Bool) × Bool):=((qbi s189).bind fun v205=>(some (v205,s184,true)))
def qc4 (k:Nat)(peers_0:Int)(n7:List RaftStep) : Option (Raft × (List Bool) × Bool):=((qdp k peers_0).bind fun v5=>(if ((!v5.2)||(decide
  ((100:Int)<(p9 n7:Int))))=true then (some ((Raft.mk [] []),[],
  false)) else (jn (jt (fun i68 x69 s183=>uk k i68 x69 s183.1 s183.2) n7 (([],v5.1) : (List Bool) × Raft)) (fun s223=>qe1 s223.1 s223.2))))

def qbq (i8:List Bool)(i2:Nat)(x3:Bool) : Option (Oc Unit Bool):=((zy i8 (i2:Int)).bind fun x24=>(if (!(x3 == x24))=true then (some
  (.ret false)) else (some (.nxt ()))))
def qg6  : Option Bool:=(some true)
def qcd (l7:List Bool)(i8:List Bool) : Option Bool:=(if (decide ((p9 l7:Int)≠(p9 i8:Int)))=true then (some false) else (jn (jt
  (fun i2 x3 _=>qbq i8 i2 x3 ) l7 ()) (fun _=>qg6 )))

def qay (i8:List Entry)(i2:Nat)(x3:Entry) : Option (Oc Unit Bool):=((zy i8 (i2:Int)).bind fun x24=>(if (!((x3.Term == x24.Term) &&
  ((x3.Value == x24.Value)&&true)))=true then (some (.ret false)) else (some (.nxt ()))))
def qfu  : Option Bool:=(some true)
def w5 (l7:List Entry)(i8:List Entry) : Option Bool:=(if (decide ((p9 l7:Int)≠(p9 i8:Int)))=true then (some false) else (jn
  (jt (fun i2 x3 _=>qay i8 i2 x3 ) l7 ()) (fun _=>qfu )))

def qcw (i8:List Int)(i2:Nat)(x3:Int) : Option (Oc Unit Bool):=((zy i8 (i2:Int)).bind fun x24=>(if (decide (x3≠x24))=true then (some
  (.ret false)) else (some (.nxt ()))))
def qhp  : Option Bool:=(some true)
def qc5 (l7:List Int)(i8:List Int) : Option Bool:=(if (decide ((p9 l7:Int)≠(p9 i8:Int)))=true then (some false) else (jn (jt
  (fun i2 x3 _=>qcw i8 i2 x3 ) l7 ()) (fun _=>qhp )))

def qad (d8:Raft)(a9:Raft)(i23:Nat) : Option (Oc Unit Bool):=((zy d8.Peers (i23:Int)).bind fun x45=>((zy a9.Peers (i23:Int)).bind fun x56 =>
  ((if (((decide (x45.Term≠x56.Term))||(!(x45.Leads == x56.Leads)))||(decide (x45.Commit≠x56.Commit)))=true then (some true) else
  ((w5 x45.Log x56.Log).bind fun v96=>(some (!v96)))).bind fun v96=>((if v96=true then (some true) else
  ((qc5 x45.Match x56.Match).bind fun v117=>(some (!v117)))).bind fun v117=>(if v117=true then (some (.ret false)) else (some (.nxt ())))))))
def u9 (d8:Raft)(a9:Raft)(i144:Nat) : Option (Oc Unit Bool):=((zy d8.Mail (i144:Int)).bind fun x166=>((zy a9.Mail
  (i144:Int)).bind fun x177=>((if ((((((((!(x166.Reply == x177.Reply))||(decide (x166.From≠x177.From)))||(decide (x166.To≠x177.To)))||(decide
  (x166.Term≠x177.Term)))||(decide (x166.Prev≠x177.Prev)))||(decide (x166.PTerm≠x177.PTerm)))||(decide (x166.Commit≠x177.Commit)))||(decide
  (x166.Match≠x177.Match)))=true then (some true) else ((w5 x166.Entry x177.Entry).bind fun v282=>(some (!v282)))).bind fun v282=>(if v282=true then
  (some (.ret false)) else (some (.nxt ()))))))
def qg5  : Option Bool:=(some true)
def qea (d8:Raft)(a9:Raft)  : Option Bool:=(jn (wi (fun i144 _=>u9 d8 a9 i144 ) (p9 d8.Mail:Int) ())
  (fun _=>qg5 ))
def qcm (d8:Raft)(a9:Raft) : Option Bool:=(if ((decide ((p9 d8.Peers:Int)≠(p9 a9.Peers:Int)))||(decide
  ((p9 d8.Mail:Int)≠(p9 a9.Mail:Int))))=true then (some false) else (jn (wi (fun i23 _=>qad d8 a9 i23 )
  (p9 d8.Peers:Int) ()) (fun _=>qea d8 a9 )))

def y8 (most_1:Int)(i3:Nat)(x4:Entry)(s2:Int) : Option (Oc Int Bool):=(if ((!(zg x4.Term s2 most_1))||(!(zg x4.Value 0 99)))=true then
  (some (.ret false)) else (some (.nxt x4.Term)))
def qei (i6:List Entry)(s54:Int)  : Option Bool:=(some (decide ((p9 i6:Int)≤30)))
def xp (i6:List Entry)(most_1:Int) : Option Bool:=(jn (jt (fun i3 x4 s53=>y8 most_1 i3 x4 s53) i6 0)
  (fun s62=>qei i6 s62))

def xz (f_1:Mail→Option Bool)(i1:Nat)(x2:Mail) : Option (Oc Unit Int):=((f_1 x2).bind fun v23=>(if v23=true then (some (.ret
  (i1:Int))) else (some (.nxt ()))))
def qdt  : Option Int:=(some (-1))
def qcg (s_0:List Mail)(f_1:Mail→Option Bool) : Option Int:=(jn (jt (fun i1 x2 _=>xz f_1 i1 x2 ) s_0 ())
  (fun _=>qdt ))

def qaw (s_0:List Mail)(f_1:Mail→Option Bool) : Option Bool:=((qcg s_0 f_1).bind fun v1=>(some (decide ((0:Int)≤v1))))

def xq (f_1:Entry→Option Bool)(i1:Nat)(x2:Entry) : Option (Oc Unit Int):=((f_1 x2).bind fun v23=>(if v23=true then (some (.ret
  (i1:Int))) else (some (.nxt ()))))
def qdj  : Option Int:=(some (-1))
def qbk (s_0:List Entry)(f_1:Entry→Option Bool) : Option Int:=(jn (jt (fun i1 x2 _=>xq f_1 i1 x2 ) s_0 ())
  (fun _=>qdj ))

def qai (s_0:List Entry)(f_1:Entry→Option Bool) : Option Bool:=((qbk s_0 f_1).bind fun v1=>(some (decide ((0:Int)≤v1))))

def u7 (e_0:Entry)(cap_0:Mail) : Bool:=((!(zg e_0.Term (mxI cap_0.PTerm 0) cap_0.Term))||(!(zg e_0.Value 0 99)))

def qej (d8:Mail)(a9:Int) : Option Bool:=(if ((((!(zg d8.From 0 (r8 .i64 (a9 - 1))))||(!(zg d8.To 0 (r8 .i64 (a9 - 1))))) ||
  (decide (d8.From=d8.To)))||(!(zg d8.Term 0 100)))=true then (some false) else (if d8.Reply=true then (some (((((decide (d8.Prev=0))&&(decide
  (d8.PTerm=0)))&&(decide ((p9 d8.Entry:Int)=0)))&&(decide (d8.Commit=0)))&&(zg d8.Match 0 30))) else (if ((((((decide (d8.Match≠0)) ||
  (!(zg d8.Prev 0 30)))||(!(zg d8.Commit 0 30)))||(!(zg d8.PTerm (-1) d8.Term)))||(!((decide (d8.PTerm=(-1))) == (decide (d8.Prev=0))))) ||
  (decide ((1:Int)<(p9 d8.Entry:Int))))=true then (some false) else ((qai d8.Entry (fun a0=>some
  (u7 a0 d8))).bind fun v105=>(some (!v105))))))

def u6 (m_0:Mail)(cap_0:Int) : Option Bool:=((qej m_0 cap_0).bind fun v7=>(some (!v7)))

def qck (x26:Peer)(i107:Nat)(x108:Int) : Option (Oc Unit (Oc Unit Bool)):=(if ((!(zg x108 0 (p9 x26.Log:Int)))||((!x26.Leads)&&(decide
  (x108≠0))))=true then (some (.ret (.ret false))) else (some (.nxt ())))
def qiy  : Option (Oc Unit Bool):=(some (.nxt ()))
def qd8 (d8:Raft)(i25:Nat)(x26:Peer) : Option (Oc Unit Bool):=((if (!(zg x26.Term 0 100))=true then (some true) else
  ((xp x26.Log x26.Term).bind fun v59=>(some (!v59)))).bind fun v59=>(if ((v59||(!(zg x26.Commit 0 (p9 x26.Log:Int))))||(decide
  ((p9 x26.Match:Int)≠(p9 d8.Peers:Int))))=true then (some (.ret false)) else (jn (jt
  (fun i107 x108 _=>qck x26 i107 x108 ) x26.Match ()) (fun _=>qiy ))))
def qf8 (d8:Raft)  : Option Bool:=((qaw d8.Mail (fun a0=>u6 a0 (p9 d8.Peers:Int))).bind fun v195=>(some (!v195)))
def qbj (d8:Raft) : Option Bool:=(if ((!(zg (p9 d8.Peers:Int) 1 5))||(decide ((20:Int)<(p9 d8.Mail:Int))))=true then
  (some false) else (jn (jt (fun i25 x26 _=>qd8 d8 i25 x26 ) d8.Peers ()) (fun _=>qf8 d8 )))

def qax (i22:Nat)(x23:Peer)(s21:Peer) : Option (Oc Peer ((List Entry) × Bool)):=(if (decide (s21.Commit<x23.Commit))=true then (some
  (.nxt x23)) else (some (.nxt s21)))
def qdh (s58:Peer)  : Option ((List Entry) × Bool):=((sl s58.Log 0 s58.Commit).bind fun l70=>((ju 16 ([] : List Entry) l70).bind fun l73=>(some (l73,
  true))))
def qau (r_0:Raft) : Option ((List Entry) × Bool):=((qbj r_0).bind fun v7=>(if (!v7)=true then (some ([],
  false)) else ((zy r_0.Peers 0).bind fun x11=>(jn (jt (fun i22 x23 s57=>qax i22 x23 s57) r_0.Peers x11) (fun s82=>qdh s82)))))

def qb7 (i27:Nat)(x28:Peer)(s22:List Int) : Option (Oc (List Int) ((List Int) × Bool)):=(if x28.Leads=true then
  ((ju 8 s22 [(i27:Int)]).bind fun l64=>(some (.nxt l64))) else (some (.nxt s22)))
def qg4 (s76:List Int)  : Option ((List Int) × Bool):=(some (s76,true))
def qcq (r_0:Raft) : Option ((List Int) × Bool):=((qbj r_0).bind fun v7=>(if (!v7)=true then (some ([],
  false)) else (jn (jt (fun i27 x28 s75=>qb7 i27 x28 s75) r_0.Peers ([] : List Int)) (fun s86=>qg4 s86))))

def qc9 (r_0:Raft) : Option Bool:=((qbj r_0).bind fun v7=>(some v7))

def uz (s2_1:List Entry)(i2:Nat)(x3:Entry) : Option (Oc Unit Bool):=((zy s2_1 (i2:Int)).bind fun x24=>(if (!((x3.Term == x24.Term) &&
  ((x3.Value == x24.Value)&&true)))=true then (some (.ret false)) else (some (.nxt ()))))
def qe4  : Option Bool:=(some true)
def uu (s1_0:List Entry)(s2_1:List Entry) : Option Bool:=(if (decide ((p9 s1_0:Int)≠(p9 s2_1:Int)))=true then (some false) else
  (jn (jt (fun i2 x3 _=>uz s2_1 i2 x3 ) s1_0 ()) (fun _=>qe4 )))

def uf (l7:List Entry)(i8:List Entry)(s23:Int) : Option (Oc Int (Bool × Bool)):=((if (decide ((0:Int)<s23))=true then ((zy l7
  (r8 .i64 (s23 - 1))).bind fun x48=>((zy i8 (r8 .i64 (s23 - 1))).bind fun x51=>(some (decide (x48.Term≠x51.Term))))) else
  (some false)).bind fun v48=>(if v48=true then (some (.nxt (r8 .i64 (s23 - 1)))) else (some (.brk s23))))
def qbu (l7:List Entry)(i8:List Entry)(s70:Int)  : Option (Bool × Bool):=((sl l7 0 s70).bind fun l77=>((sl i8 0 s70).bind fun l80 =>
  ((uu l77 l80).bind fun v83=>(some (v83,true)))))
def uo (k:Nat)(l7:List Entry)(i8:List Entry) : Option (Bool × Bool):=((xp l7 100).bind fun v1=>((if (!v1)=true then (some true) else
  ((xp i8 100).bind fun v7=>(some (!v7)))).bind fun v7=>(if v7=true then (some (false,
  false)) else (jn (wo (fun s69=>uf l7 i8 s69) k (mnI (p9 l7:Int) (p9 i8:Int))) (fun s86=>qbu l7 i8 s86)))))

def qba (k:Nat)(x144:Peer)(i223:Nat)(x224:Peer) : Option (Oc Unit (Oc Int Bool)):=((uo k x144.Log x224.Log).bind fun v260=>(if
  (((!v260.2)||(!v260.1))||((x144.Leads&&x224.Leads)&&(decide (x144.Term=x224.Term))))=true then (some (.ret (.ret false))) else (some (.nxt ()))))
def qh5 (s176:Int)  : Option (Oc Int Bool):=(some (.nxt s176))
def qfb (k:Nat)(v14:Raft × (List Bool) × Bool)(v92:(List Entry) × Bool)(i143:Nat)(x144:Peer)(s176:Int)  : Option (Oc Int Bool):=(if (decide
  ((p9 v92.1:Int)<x144.Commit))=true then (some (.ret false)) else ((sl x144.Log 0 x144.Commit).bind fun l203=>((sl v92.1 0 x144.Commit).bind fun l206 =>
  ((w5 l203 l206).bind fun v213=>(if (!v213)=true then (some (.ret false)) else ((sl v14.1.Peers 0 (i143:Int)).bind fun l220=>(jn (jt
  (fun i223 x224 _=>qba k x144 i223 x224 ) l220 ()) (fun _=>qh5 s176 ))))))))
def uc (k:Nat)(v14:Raft × (List Bool) × Bool)(v92:(List Entry) × Bool)(i143:Nat)(x144:Peer)(s142:Int) : Option (Oc Int Bool):=((if (decide
  (s142<x144.Term))=true then (some x144.Term) else (some s142)).bind (fun s362=>qfb k v14 v92 i143 x144 s362))
def qbe (v14:Raft × (List Bool) × Bool)(v92:(List Entry) × Bool)(v104:(List Int) × Bool)(s364:Int)(i373:Nat) : Option (Oc Unit Bool):=((zy v104.1
  (i373:Int)).bind fun x397=>((zy v14.1.Peers x397).bind fun x402=>((if (decide (x402.Term=s364))=true then ((if (decide ((p9 x402.Log:Int) <
  (p9 v92.1:Int)))=true then (some true) else ((sl x402.Log 0 (p9 v92.1:Int)).bind fun l419=>((w5 l419 v92.1).bind fun v422=>(some
  (!v422))))).bind fun v419=>(some v419)) else (some false)).bind fun v416=>(if v416=true then (some (.ret false)) else (some (.nxt ()))))))
def qic  : Option Bool:=(some true)
def qfh (v14:Raft × (List Bool) × Bool)(v92:(List Entry) × Bool)(v104:(List Int) × Bool)(s364:Int)  : Option Bool:=(jn (wi
  (fun i373 _=>qbe v14 v92 v104 s364 i373 ) (p9 v104.1:Int) ()) (fun _=>qic ))
def qd2 (k:Nat)(d8:List Int) : Option Bool:=(if (decide ((1048576:Int)<(p9 d8:Int)))=true then (some true) else
  ((qah k d8).bind fun v2=>((qc6 v2.1 v2.2).bind fun v14=>((qc4 k v2.1 v2.2).bind fun v25=>((if (!(v14.2.2 == v25.2.2))=true then
  (some true) else ((qcd v14.2.1 v25.2.1).bind fun v56=>(some (!v56)))).bind fun v56=>((if v56=true then (some true) else
  ((qcm v14.1 v25.1).bind fun v75=>(some (!v75)))).bind fun v75=>(if v75=true then (some false) else (if (!v14.2.2)=true then (some (decide
  ((p9 v14.2.1:Int)=0))) else ((qau v14.1).bind fun v92=>((qcq v14.1).bind fun v104=>((qc9 v14.1).bind fun v116=>(if
  (((!v116)||(!v92.2))||(!v104.2))=true then (some false) else (jn (jt (fun i143 x144 s363=>uc k v14 v92 i143 x144 s363) v14.1.Peers 0)
  (fun s470=>qfh v14 v92 v104 s470))))))))))))))
end Go.Proofs.Ytanblnjomhgphaa.X
