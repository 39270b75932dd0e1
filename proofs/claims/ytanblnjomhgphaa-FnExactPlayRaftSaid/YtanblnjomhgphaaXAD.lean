/- The seat's types and functions, as plain Lean has them. -/
import Derived.Test.YtanblnjomhgphaaZSlE
open Int renaming tmod→a1l
open Go.IntKind renaming wrap→l9
open List renaming length→o6,set→a0u
set_option linter.unusedVariables false
set_option linter.unusedSimpArgs false
set_option maxRecDepth 100000
set_option maxHeartbeats 1000000
namespace Go.Proofs.Ytanblnjomhgphaa.X
open Go
structure BoundsError where
 x:Int
 y:Int
 signed:Bool
 code:Int
 deriving DecidableEq,Inhabited
def qzu (x:BoundsError) : List XV:=[.int .i64 x.x,.int .i64 x.y,.bool x.signed,.int .u8 x.code]
structure Entry where
 Term:Int
 Value:Int
 deriving DecidableEq,Inhabited
def qt (x:Entry) : List XV:=[.int .i64 x.Term,.int .i64 x.Value]
structure Peer where
 Term:Int
 Leads:Bool
 Log:List Entry
 Commit:Int
 Match:List Int
 deriving DecidableEq,Inhabited
def ze (x:Peer) : List XV:=[.int .i64 x.Term,.bool x.Leads,lst qt x.Log,.int .i64 x.Commit,lst cI x.Match]
structure Mail where
 Reply:Bool
 From:Int
 To:Int
 Term:Int
 Prev:Int
 PTerm:Int
 Entry:List Entry
 Commit:Int
 Match:Int
 deriving DecidableEq,Inhabited
def zc (x:Mail) : List XV:=[.bool x.Reply,.int .i64 x.From,.int .i64 x.To,.int .i64 x.Term,.int .i64 x.Prev,.int .i64 x.PTerm,lst qt x.Entry,
  .int .i64 x.Commit,.int .i64 x.Match]
structure Raft where
 Peers:List Peer
 Mail:List Mail
 deriving DecidableEq,Inhabited
def zer (x:Raft) : List XV:=[lst ze x.Peers,lst zc x.Mail]
structure RaftStep where
 Kind:Int
 K:Int
 To:Int
 N:Int
 deriving DecidableEq,Inhabited
def zb (x:RaftStep) : List XV:=[.int .i64 x.Kind,.int .i64 x.K,.int .i64 x.To,.int .i64 x.N]
structure L1Cur where
 code:List Int
 at_:Int
 seed:Int
 deriving DecidableEq,Inhabited
def zd2 (x:L1Cur) : List XV:=[lst cU8 x.code,.int .i64 x.at_,.int .u64 x.seed]

def jh (l6:Int)(low_1:Int)(high_2:Int) : Bool:=((decide (low_1≤l6))&&(decide (l6≤high_2)))

def qe2 (peers_0:Int)(i21:Nat)(s16:Raft) : Option (Oc Raft Raft):=((mkN 8 peers_0 (0:Int)).bind fun l44=>((ju 72 s16.Peers
  ([(Peer.mk 0 false [] 0 l44)])).bind fun l59=>(some (.nxt (Raft.mk l59 [])))))
def qhv (s72:Raft)  : Option Raft:=(some (Raft.mk s72.Peers []))
def qe5 (peers_0:Int) : Option Raft:=(jn (wn (fun i21 s71=>qe2 peers_0 i21 s71) peers_0 (Raft.mk [] [])) (fun s85=>qhv s85))

def qah (i27:Nat)(x28:Peer)(s22:Raft) : Option (Oc Raft Raft):=((ju 16 ([] : List Entry) x28.Log).bind fun l63=>((ju 8
  ([] : List Int) x28.Match).bind fun l80=>((ju 72 s22.Peers [(Peer.mk x28.Term x28.Leads l63 x28.Commit l80)]).bind fun l97=>(some (.nxt (Raft.mk l97 []))))))
def qai (s110:Raft)(i132:Nat)(x133:Mail)(s127:Raft) : Option (Oc Raft Raft):=((ju 16 ([] : List Entry) x133.Entry).bind fun l167 =>
  ((ju 88 s127.Mail [(Mail.mk x133.Reply x133.From x133.To x133.Term x133.Prev x133.PTerm l167 x133.Commit x133.Match)]).bind fun l184=>(some (.nxt
  (Raft.mk s110.Peers l184)))))
def qg1 (s110:Raft)(s197:Raft)  : Option Raft:=(some (Raft.mk s110.Peers s197.Mail))
def qee (r_0:Raft)(s110:Raft)  : Option Raft:=(jn (yd (fun i132 x133 s196=>qai s110 i132 x133 s196) r_0.Mail (Raft.mk s110.Peers []))
  (fun s210=>qg1 s110 s210))
def qcl (r_0:Raft) : Option Raft:=(jn (yd (fun i27 x28 s109=>qah i27 x28 s109) r_0.Peers (Raft.mk [] [])) (fun s211=>qee r_0 s211))

def qeg (i3:Int) : Option Int:=((qmj (ByteArray.mk #[0,1,1,2,1,2,2,3,1,2,2,3,2,3,3,4,1,2,2,3,2,3,3,4,2,3,3,4,3,4,4,5,1,2,
  2,3,2,3,3,4,2,3,3,4,3,4,4,5,2,3,3,4,3,4,4,5,3,4,4,5,4,5,5,6,1,2,2,3,2,3,3,4,2,3,3,4,3,4,4,5,2,3,3,4,3,4,4,5,3,4,4,5,
  4,5,5,6,2,3,3,4,3,4,4,5,3,4,4,5,4,5,5,6,3,4,4,5,4,5,5,6,4,5,5,6,5,6,6,7,1,2,2,3,2,3,3,4,2,3,3,4,3,4,4,5,2,3,3,4,3,4,
  4,5,3,4,4,5,4,5,5,6,2,3,3,4,3,4,4,5,3,4,4,5,4,5,5,6,3,4,4,5,4,5,5,6,4,5,5,6,5,6,6,7,2,3,3,4,3,4,4,5,3,4,4,5,4,5,5,6,
  3,4,4,5,4,5,5,6,4,5,5,6,5,6,6,7,3,4,4,5,4,5,5,6,4,5,5,6,5,6,6,7,4,5,5,6,5,6,6,7,5,6,6,7,6,7,7,
  8]) (ji .u32 i3 24)).bind fun y1=>((qmj (ByteArray.mk #[0,1,1,2,1,2,2,3,1,2,2,3,2,3,3,4,1,2,2,3,2,3,3,4,2,3,3,4,3,4,4,5,1,2,2,3,2,3,
  3,4,2,3,3,4,3,4,4,5,2,3,3,4,3,4,4,5,3,4,4,5,4,5,5,6,1,2,2,3,2,3,3,4,2,3,3,4,3,4,4,5,2,3,3,4,3,4,4,5,3,4,4,5,4,5,5,6,
  2,3,3,4,3,4,4,5,3,4,4,5,4,5,5,6,3,4,4,5,4,5,5,6,4,5,5,6,5,6,6,7,1,2,2,3,2,3,3,4,2,3,3,4,3,4,4,5,2,3,3,4,3,4,4,5,3,4,
  4,5,4,5,5,6,2,3,3,4,3,4,4,5,3,4,4,5,4,5,5,6,3,4,4,5,4,5,5,6,4,5,5,6,5,6,6,7,2,3,3,4,3,4,4,5,3,4,4,5,4,5,5,6,3,4,4,5,
  4,5,5,6,4,5,5,6,5,6,6,7,3,4,4,5,4,5,5,6,4,5,5,6,5,6,6,7,4,5,5,6,5,6,6,7,5,6,6,7,6,7,7,
  8]) (zw .u32 (ji .u32 i3 16) 255)).bind fun y4=>((qmj (ByteArray.mk #[0,1,1,2,1,2,2,3,1,2,2,3,2,3,3,4,1,2,2,3,2,3,3,4,2,3,3,4,3,4,4,5,
  1,2,2,3,2,3,3,4,2,3,3,4,3,4,4,5,2,3,3,4,3,4,4,5,3,4,4,5,4,5,5,6,1,2,2,3,2,3,3,4,2,3,3,4,3,4,4,5,2,3,3,4,3,4,4,5,3,4,
  4,5,4,5,5,6,2,3,3,4,3,4,4,5,3,4,4,5,4,5,5,6,3,4,4,5,4,5,5,6,4,5,5,6,5,6,6,7,1,2,2,3,2,3,3,4,2,3,3,4,3,4,4,5,2,3,3,4,
  3,4,4,5,3,4,4,5,4,5,5,6,2,3,3,4,3,4,4,5,3,4,4,5,4,5,5,6,3,4,4,5,4,5,5,6,4,5,5,6,5,6,6,7,2,3,3,4,3,4,4,5,3,4,4,5,4,5,
  5,6,3,4,4,5,4,5,5,6,4,5,5,6,5,6,6,7,3,4,4,5,4,5,5,6,4,5,5,6,5,6,6,7,4,5,5,6,5,6,6,7,5,6,6,7,6,7,7,
  8]) (zw .u32 (ji .u32 i3 8) 255)).bind fun y7=>((qmj (ByteArray.mk #[0,1,1,2,1,2,2,3,1,2,2,3,2,3,3,4,1,2,2,3,2,3,3,4,2,3,3,4,3,4,4,5,1,
  2,2,3,2,3,3,4,2,3,3,4,3,4,4,5,2,3,3,4,3,4,4,5,3,4,4,5,4,5,5,6,1,2,2,3,2,3,3,4,2,3,3,4,3,4,4,5,2,3,3,4,3,4,4,5,3,4,4,
  5,4,5,5,6,2,3,3,4,3,4,4,5,3,4,4,5,4,5,5,6,3,4,4,5,4,5,5,6,4,5,5,6,5,6,6,7,1,2,2,3,2,3,3,4,2,3,3,4,3,4,4,5,2,3,3,4,3,
  4,4,5,3,4,4,5,4,5,5,6,2,3,3,4,3,4,4,5,3,4,4,5,4,5,5,6,3,4,4,5,4,5,5,6,4,5,5,6,5,6,6,7,2,3,3,4,3,4,4,5,3,4,4,5,4,5,5,
  6,3,4,4,5,4,5,5,6,4,5,5,6,5,6,6,7,3,4,4,5,4,5,5,6,4,5,5,6,5,6,6,7,4,5,5,6,5,6,6,7,5,6,6,7,6,7,7,
  8]) (zw .u32 i3 255)).bind fun y10=>(some (l9 .i64 (l9 .u8 ((l9 .u8 ((l9 .u8 (y1+y4))+y7))+y10))))))))

def qb0 (i3:Int) : Int:=(zw .i64 (l9 .i64 (l9 .u64 ((l9 .u64 ((l9 .u64 ((zw .u64 (l9 .u64 ((ji .u64
  (l9 .u64 ((zw .u64 (ji .u64 (l9 .u64 ((zw .u64 (ji .u64 i3 1) 6148914691236517205) +
  (zw .u64 i3 6148914691236517205))) 2) 3689348814741910323)+(zw .u64 (l9 .u64 ((zw .u64 (ji .u64 i3 1) 6148914691236517205) +
  (zw .u64 i3 6148914691236517205))) 3689348814741910323))) 4)+(l9 .u64 ((zw .u64 (ji .u64 (l9 .u64 ((zw .u64
  (ji .u64 i3 1) 6148914691236517205)+(zw .u64 i3 6148914691236517205))) 2) 3689348814741910323)+(zw .u64 (l9 .u64 ((zw .u64
  (ji .u64 i3 1) 6148914691236517205)+(zw .u64 i3 6148914691236517205))) 3689348814741910323))))) 1085102592571150095)+(ji .u64 (zw .u64 (l9 .u64
  ((ji .u64 (l9 .u64 ((zw .u64 (ji .u64 (l9 .u64 ((zw .u64 (ji .u64 i3 1) 6148914691236517205) +
  (zw .u64 i3 6148914691236517205))) 2) 3689348814741910323)+(zw .u64 (l9 .u64 ((zw .u64 (ji .u64 i3 1) 6148914691236517205) +
  (zw .u64 i3 6148914691236517205))) 3689348814741910323))) 4)+(l9 .u64 ((zw .u64 (ji .u64 (l9 .u64 ((zw .u64
  (ji .u64 i3 1) 6148914691236517205)+(zw .u64 i3 6148914691236517205))) 2) 3689348814741910323)+(zw .u64 (l9 .u64 ((zw .u64
  (ji .u64 i3 1) 6148914691236517205)+(zw .u64 i3 6148914691236517205))) 3689348814741910323))))) 1085102592571150095) 8)))+(ji .u64 (l9 .u64 ((zw .u64
  (l9 .u64 ((ji .u64 (l9 .u64 ((zw .u64 (ji .u64 (l9 .u64 ((zw .u64 (ji .u64 i3 1) 6148914691236517205) +
  (zw .u64 i3 6148914691236517205))) 2) 3689348814741910323)+(zw .u64 (l9 .u64 ((zw .u64 (ji .u64 i3 1) 6148914691236517205) +
  (zw .u64 i3 6148914691236517205))) 3689348814741910323))) 4)+(l9 .u64 ((zw .u64 (ji .u64 (l9 .u64 ((zw .u64
  (ji .u64 i3 1) 6148914691236517205)+(zw .u64 i3 6148914691236517205))) 2) 3689348814741910323)+(zw .u64 (l9 .u64 ((zw .u64
  (ji .u64 i3 1) 6148914691236517205)+(zw .u64 i3 6148914691236517205))) 3689348814741910323))))) 1085102592571150095)+(ji .u64 (zw .u64 (l9 .u64
  ((ji .u64 (l9 .u64 ((zw .u64 (ji .u64 (l9 .u64 ((zw .u64 (ji .u64 i3 1) 6148914691236517205) +
  (zw .u64 i3 6148914691236517205))) 2) 3689348814741910323)+(zw .u64 (l9 .u64 ((zw .u64 (ji .u64 i3 1) 6148914691236517205) +
  (zw .u64 i3 6148914691236517205))) 3689348814741910323))) 4)+(l9 .u64 ((zw .u64 (ji .u64 (l9 .u64 ((zw .u64
  (ji .u64 i3 1) 6148914691236517205)+(zw .u64 i3 6148914691236517205))) 2) 3689348814741910323)+(zw .u64 (l9 .u64 ((zw .u64
  (ji .u64 i3 1) 6148914691236517205)+(zw .u64 i3 6148914691236517205))) 3689348814741910323))))) 1085102592571150095) 8))) 16)))+(ji .u64 (l9 .u64
  ((l9 .u64 ((zw .u64 (l9 .u64 ((ji .u64 (l9 .u64 ((zw .u64 (ji .u64 (l9 .u64 ((zw .u64
  (ji .u64 i3 1) 6148914691236517205)+(zw .u64 i3 6148914691236517205))) 2) 3689348814741910323)+(zw .u64 (l9 .u64 ((zw .u64
  (ji .u64 i3 1) 6148914691236517205)+(zw .u64 i3 6148914691236517205))) 3689348814741910323))) 4)+(l9 .u64 ((zw .u64 (ji .u64 (l9 .u64
  ((zw .u64 (ji .u64 i3 1) 6148914691236517205)+(zw .u64 i3 6148914691236517205))) 2) 3689348814741910323)+(zw .u64 (l9 .u64 ((zw .u64
  (ji .u64 i3 1) 6148914691236517205)+(zw .u64 i3 6148914691236517205))) 3689348814741910323))))) 1085102592571150095)+(ji .u64 (zw .u64 (l9 .u64
  ((ji .u64 (l9 .u64 ((zw .u64 (ji .u64 (l9 .u64 ((zw .u64 (ji .u64 i3 1) 6148914691236517205) +
  (zw .u64 i3 6148914691236517205))) 2) 3689348814741910323)+(zw .u64 (l9 .u64 ((zw .u64 (ji .u64 i3 1) 6148914691236517205) +
  (zw .u64 i3 6148914691236517205))) 3689348814741910323))) 4)+(l9 .u64 ((zw .u64 (ji .u64 (l9 .u64 ((zw .u64
  (ji .u64 i3 1) 6148914691236517205)+(zw .u64 i3 6148914691236517205))) 2) 3689348814741910323)+(zw .u64 (l9 .u64 ((zw .u64
  (ji .u64 i3 1) 6148914691236517205)+(zw .u64 i3 6148914691236517205))) 3689348814741910323))))) 1085102592571150095) 8)))+(ji .u64 (l9 .u64 ((zw .u64
  (l9 .u64 ((ji .u64 (l9 .u64 ((zw .u64 (ji .u64 (l9 .u64 ((zw .u64 (ji .u64 i3 1) 6148914691236517205) +
  (zw .u64 i3 6148914691236517205))) 2) 3689348814741910323)+(zw .u64 (l9 .u64 ((zw .u64 (ji .u64 i3 1) 6148914691236517205) +
  (zw .u64 i3 6148914691236517205))) 3689348814741910323))) 4)+(l9 .u64 ((zw .u64 (ji .u64 (l9 .u64 ((zw .u64
  (ji .u64 i3 1) 6148914691236517205)+(zw .u64 i3 6148914691236517205))) 2) 3689348814741910323)+(zw .u64 (l9 .u64 ((zw .u64
  (ji .u64 i3 1) 6148914691236517205)+(zw .u64 i3 6148914691236517205))) 3689348814741910323))))) 1085102592571150095)+(ji .u64 (zw .u64 (l9 .u64
  ((ji .u64 (l9 .u64 ((zw .u64 (ji .u64 (l9 .u64 ((zw .u64 (ji .u64 i3 1) 6148914691236517205) +
  (zw .u64 i3 6148914691236517205))) 2) 3689348814741910323)+(zw .u64 (l9 .u64 ((zw .u64 (ji .u64 i3 1) 6148914691236517205) +
  (zw .u64 i3 6148914691236517205))) 3689348814741910323))) 4)+(l9 .u64 ((zw .u64 (ji .u64 (l9 .u64 ((zw .u64
  (ji .u64 i3 1) 6148914691236517205)+(zw .u64 i3 6148914691236517205))) 2) 3689348814741910323)+(zw .u64 (l9 .u64 ((zw .u64
  (ji .u64 i3 1) 6148914691236517205)+(zw .u64 i3 6148914691236517205))) 3689348814741910323))))) 1085102592571150095) 8))) 16))) 32)))) 127)

def ko (i3:Int) : Int:=(qb0 i3)

def qcx (i17:Nat)(x18:Entry)(s12:List Int) : Option (Oc (List Int) (List Int)):=((ju 8 s12 [x18.Term]).bind fun l53=>(some (.nxt l53)))
def qhx (s64:List Int)  : Option (List Int):=(some s64)
def qb8 (i7:List Entry) : Option (List Int):=(jn (yd (fun i17 x18 s63=>qcx i17 x18 s63) i7 ([] : List Int)) (fun s74=>qhx s74))

def qbd (i7:List Int) : Option Int:=(if (decide ((o6 i7:Int)=0))=true then (some (-1)) else ((zn i7 (l9 .i64
  ((o6 i7:Int) - 1))).bind fun x2=>(some x2)))

def qcm (last_0:Int)(long_1:Int)(b_2:List Int) : Option Bool:=((qbd b_2).bind fun v1=>((if (decide (v1<last_0))=true then (some true) else
  ((qbd b_2).bind fun v7=>(some ((decide (last_0=v7))&&(decide ((o6 b_2:Int)≤long_1)))))).bind fun v7=>(some v7)))

def j7 (d8:Raft)(i5:Int)(v69:List Int)(i84:Nat)(s80:Int)(s81:List Peer) : Option (Oc (Int × (List Peer)) (Bool × Raft)):=((zn s81
  (i84:Int)).bind fun x111=>(ck (0≤(i84:Int)) (if (decide ((zw .i64 (ji .i64 i5 (i84:Int)) 1)=1))=true then ((qbd v69).bind fun v140 =>
  ((qb8 x111.Log).bind fun v143=>((qcm v140 (o6 v69:Int) v143).bind fun v146=>(if (!v146)=true then (some (.ret (false,
  (Raft.mk s81 d8.Mail)))) else (some (.nxt ((mxI s80 x111.Term),s81))))))) else (some (.nxt (s80,s81))))))
def xz (d8:Raft)(a9:Int)(i5:Int)(s168:Int)(i189:Nat)(s186:List Peer) : Option (Oc (List Peer) (Bool × Raft)):=(ck (0≤(i189:Int)) (if
  (decide ((zw .i64 (ji .i64 i5 (i189:Int)) 1)=1))=true then ((zn s186 (i189:Int)).bind fun x218=>((mkN 8 (o6 d8.Peers:Int)
  (0:Int)).bind fun l244=>(some (.nxt (a0u s186 (i189:Int).toNat (Peer.mk (l9 .i64 (s168+1)) (decide
  ((i189:Int)=a9)) x218.Log x218.Commit l244)))))) else (some (.nxt s186))))
def qdh (d8:Raft)(a9:Int)(v69:List Int)(s265:List Peer)  : Option (Bool × Raft):=((zn s265 a9).bind fun x277 =>
  ((zn x277.Match a9).bind fun x295=>(some (true,
  (Raft.mk (a0u s265 a9.toNat (Peer.mk x277.Term x277.Leads x277.Log x277.Commit (a0u x277.Match a9.toNat (o6 v69:Int)))) d8.Mail)))))
def ua (d8:Raft)(a9:Int)(i5:Int)(v69:List Int)(s168:Int)(s169:List Peer)  : Option (Bool × Raft):=(if (decide (s168=100))=true then
  (some (false,(Raft.mk s169 d8.Mail))) else (jn (wn (fun i189 s264=>xz d8 a9 i5 s168 i189 s264) (o6 s169:Int) s169)
  (fun s310=>qdh d8 a9 v69 s310)))
def yv (d8:Raft)(a9:Int)(i5:Int) : Option (Bool × Raft):=((if (decide (i5<0))=true then (some true) else (ck (0≤(o6 d8.Peers:Int))
  (some (decide ((qh6 .i64 1 (o6 d8.Peers:Int))≤i5))))).bind fun v4=>((if v4=true then (some true) else (ck (0≤a9) (some (decide ((zw .i64
  (ji .i64 i5 a9) 1)=0))))).bind fun v22=>(if (v22||(decide ((l9 .i64 ((2:Int)*(ko (l9 .u64 i5)))) ≤
  (o6 d8.Peers:Int))))=true then (some (false,
  d8)) else ((zn d8.Peers a9).bind fun x49=>((qb8 x49.Log).bind fun v69=>(jn (wn (fun i84 s167=>j7 d8 i5 v69 i84 s167.1 s167.2)
  (o6 d8.Peers:Int) (0,d8.Peers)) (fun s311=>ua d8 a9 i5 v69 s311.1 s311.2)))))))

def qec (d8:Raft)(s209:Mail)(s214:List Peer)  : Option (Bool × Raft):=((ju 88 d8.Mail [s209]).bind fun l271=>(some (true,(Raft.mk s214 l271))))
def qap (d8:Raft)(a9:RaftStep)(s139:List Peer)(s142:Mail)  : Option (Bool × Raft):=((zn s139 a9.K).bind fun x187=>((if (decide (a9.N <
  (o6 x187.Log:Int)))=true then ((zn x187.Log a9.N).bind fun x241=>(some
  ((Mail.mk s142.Reply s142.From s142.To s142.Term s142.Prev s142.PTerm [x241] s142.Commit s142.Match),
  s139))) else (some ((Mail.mk s142.Reply s142.From s142.To s142.Term s142.Prev s142.PTerm [] s142.Commit s142.Match),
  s139))).bind (fun s282=>qec d8 s282.1 s282.2)))
def qce (a9:RaftStep)(x7:Peer)(i301:Nat)(s300:Int) : Option (Oc Int (Bool × Raft)):=((zn x7.Match (i301:Int)).bind fun x326=>(if (decide
  (a9.N≤x326))=true then (some (.nxt (l9 .i64 (s300+1)))) else (some (.nxt s300))))
def qci (d8:Raft)(a9:RaftStep)(x7:Peer)(s335:Int)  : Option (Bool × Raft):=((if (!(jh a9.N (l9 .i64 (x7.Commit+1))
  (o6 x7.Log:Int)))=true then (some true) else ((zn x7.Log (l9 .i64 (a9.N - 1))).bind fun x347=>(some (decide
  (x347.Term≠x7.Term))))).bind fun v347=>(if (v347||(decide ((l9 .i64 ((2:Int)*s335))≤(o6 d8.Peers:Int))))=true then (some (false,
  d8)) else (some (true,(Raft.mk (a0u d8.Peers a9.K.toNat (Peer.mk x7.Term x7.Leads x7.Log a9.N x7.Match)) d8.Mail)))))
def yb (d8:Raft)(a9:RaftStep) : Option (Bool × Raft):=((zn d8.Peers a9.K).bind fun x7=>(if (decide (a9.Kind=2))=true then (if
  ((!(jh a9.N 0 99))||(decide ((o6 x7.Log:Int)=30)))=true then (some (false,
  d8)) else ((ju 16 x7.Log [(Entry.mk x7.Term a9.N)]).bind fun l59=>((zn x7.Match a9.K).bind fun x72=>(some (true,
  (Raft.mk (a0u d8.Peers a9.K.toNat (Peer.mk x7.Term x7.Leads l59 x7.Commit (a0u x7.Match a9.K.toNat (o6 l59:Int)))) d8.Mail)))))) else (if (decide
  (a9.Kind=3))=true then (if ((!(jh a9.To 0 (l9 .i64 ((o6 d8.Peers:Int) - 1))))||(decide (a9.To=a9.K)))=true then (some (false,
  d8)) else (if ((!(jh a9.N 0 (o6 x7.Log:Int)))||(decide ((o6 d8.Mail:Int)=20)))=true then (some (false,
  d8)) else ((if (decide ((0:Int)<a9.N))=true then ((zn x7.Log (l9 .i64 (a9.N - 1))).bind fun x167=>(some (d8.Peers,
  (Mail.mk false a9.K a9.To x7.Term a9.N x167.Term [] x7.Commit 0)))) else (some (d8.Peers,
  (Mail.mk false a9.K a9.To x7.Term a9.N (-1) [] x7.Commit 0)))).bind (fun s283=>qap d8 a9 s283.1 s283.2)))) else (jn (wn
  (fun i301 s334=>qce a9 x7 i301 s334) (o6 x7.Match:Int) 0) (fun s388=>qci d8 a9 x7 s388)))))

def w6 (s_0:List Mail)(i_1:Int)(j_2:Int) : Option (List Mail):=qm6 s_0 i_1 j_2

def qbs (d8:Raft)(a9:Mail)(s119:List Peer)  : Option (Raft × Mail):=(some ((Raft.mk s119 d8.Mail),a9))
def qbu (a9:Mail)(s215:Int)(s396:List Peer)  : Option (Oc (Int × (List Peer)) (Raft × Mail)):=((zn s396 a9.To).bind fun x458=>(if (decide
  (a9.Prev<(o6 x458.Log:Int)))=true then (some (.nxt ((l9 .i64 (s215+1)),s396))) else (some (.nxt (s215,s396)))))
def u4 (a9:Mail)(s215:Int)(x244:Entry)(s304:List Peer)  : Option (Oc (Int × (List Peer)) (Raft × Mail)):=((zn s304 a9.To).bind fun x359=>((if
  ((decide (a9.Prev=(o6 x359.Log:Int)))&&(decide ((o6 x359.Log:Int)<30)))=true then ((ju 16 x359.Log [x244]).bind fun l428=>(some
  (a0u s304 a9.To.toNat (Peer.mk x359.Term x359.Leads l428 x359.Commit x359.Match)))) else (some s304)).bind (fun s487=>qbu a9 s215 s487)))
def qbq (a9:Mail)(i219:Nat)(s215:Int)(s216:List Peer) : Option (Oc (Int × (List Peer)) (Raft × Mail)):=((zn a9.Entry (i219:Int)).bind fun x244 =>
  ((zn s216 a9.To).bind fun x257=>((if (decide (a9.Prev<(o6 x257.Log:Int)))=true then ((zn x257.Log a9.Prev).bind fun x278=>(some (decide
  (x278.Term≠x244.Term)))) else (some false)).bind fun v278=>((if v278=true then ((sl x257.Log 0 a9.Prev).bind fun l330=>(some (a0u s216 a9.To.toNat
  (Peer.mk x257.Term x257.Leads l330 x257.Commit x257.Match)))) else (some s216)).bind (fun s488=>u4 a9 s215 x244 s488)))))
def qbt (a9:Mail)(i535:Nat)(s532:List Peer) : Option (Oc (List Peer) (Raft × Mail)):=((zn s532 a9.To).bind fun x559=>((zn x559.Match
  (i535:Int)).bind fun x577=>(some (.nxt (a0u s532 a9.To.toNat (Peer.mk x559.Term x559.Leads x559.Log x559.Commit (a0u x559.Match (i535:Int).toNat (mnI x577
  (o6 x559.Log:Int)))))))))
def qds (d8:Raft)(a9:Mail)(s490:Int)(s594:List Peer)  : Option (Raft × Mail):=((zn s594 a9.To).bind fun x604=>((ju 88 d8.Mail
  ([(Mail.mk true a9.To a9.From x604.Term 0 0 [] 0 s490)])).bind fun l628=>(some ((Raft.mk s594 l628),a9))))
def qbk (d8:Raft)(a9:Mail)(s490:Int)(s491:List Peer)  : Option (Raft × Mail):=((zn s491 a9.To).bind fun x502=>(jn (wn
  (fun i535 s593=>qbt a9 i535 s593) (o6 x502.Match:Int) (a0u s491 a9.To.toNat (Peer.mk x502.Term x502.Leads x502.Log (mnI (mxI x502.Commit
  (mnI a9.Commit s490)) (o6 x502.Log:Int)) x502.Match))) (fun s643=>qds d8 a9 s490 s643)))
def uw (d8:Raft)(a9:Mail)(s31:List Peer)  : Option (Raft × Mail):=((zn s31 a9.To).bind fun x91=>(if (decide (a9.Term≠x91.Term))=true then
  (some ((Raft.mk s31 d8.Mail),a9)) else (if a9.Reply=true then ((if x91.Leads=true then ((zn x91.Match a9.From).bind fun x145=>(some (a0u s31 a9.To.toNat
  (Peer.mk x91.Term x91.Leads x91.Log x91.Commit (a0u x91.Match a9.From.toNat (mxI x145 (mnI a9.Match (o6 x91.Log:Int)))))))) else (some s31)).bind
  (fun s165=>qbs d8 a9 s165)) else ((if (decide ((o6 x91.Log:Int)<a9.Prev))=true then (some true) else ((if (decide
  ((0:Int)<a9.Prev))=true then ((zn x91.Log (l9 .i64 (a9.Prev - 1))).bind fun x172=>(some (decide (x172.Term≠a9.PTerm)))) else
  (some false)).bind fun v172=>(some v172))).bind fun v169=>(if v169=true then (some ((Raft.mk s31 d8.Mail),
  a9)) else (jn (wn (fun i219 s489=>qbq a9 i219 s489.1 s489.2) (o6 a9.Entry:Int) (a9.Prev,
  s31)) (fun s644=>qbk d8 a9 s644.1 s644.2)))))))
def qbx (d8:Raft)(a9:Mail) : Option (Raft × Mail):=((zn d8.Peers a9.To).bind fun x7=>((if (decide (x7.Term<a9.Term))=true then ((mkN 8
  (o6 d8.Peers:Int) (0:Int)).bind fun l65=>(some (a0u d8.Peers a9.To.toNat (Peer.mk a9.Term false x7.Log x7.Commit l65)))) else (some d8.Peers)).bind
  (fun s645=>uw d8 a9 s645)))

def qdu (s50:Bool)(s51:List Peer)(s54:List Mail)  : Option (Raft × Bool):=(if (!s50)=true then (some ((Raft.mk [] []),
  false)) else (some ((Raft.mk s51 s54),true)))
def qbn (s152:Bool)(s153:Raft)(s158:List Peer)  : Option (Raft × Bool):=(if (!s152)=true then (some ((Raft.mk [] []),
  false)) else (some ((Raft.mk s158 s153.Mail),true)))
def yp (d8:Raft)(a9:RaftStep)(v17:Raft)(s195:Bool)  : Option (Raft × Bool):=(if s195=true then (if (((decide (a9.To≠0))||(decide
  (a9.N≠0)))||(!(jh a9.K 0 (l9 .i64 ((o6 d8.Mail:Int) - 1)))))=true then (some ((Raft.mk [] []),
  false)) else ((zn v17.Mail a9.K).bind fun x243=>(if (decide (a9.Kind=6))=true then ((ju 16 ([] : List Entry) x243.Entry).bind fun l272 =>
  ((ju 88 v17.Mail [(Mail.mk x243.Reply x243.From x243.To x243.Term x243.Prev x243.PTerm l272 x243.Commit x243.Match)]).bind fun l293=>(if (!(decide
  ((o6 d8.Mail:Int)<20)))=true then (some ((Raft.mk [] []),false)) else (some ((Raft.mk v17.Peers l293),
  true))))) else (if (decide (a9.Kind=4))=true then ((w6 v17.Mail a9.K (l9 .i64 (a9.K+1))).bind fun v314=>((qbx
  (Raft.mk v17.Peers v314) x243).bind fun v325=>(if (!true)=true then (some ((Raft.mk [] []),false)) else (some (v325.1,
  true))))) else ((w6 v17.Mail a9.K (l9 .i64 (a9.K+1))).bind fun v347=>(if (!true)=true then (some ((Raft.mk [] []),
  false)) else (some ((Raft.mk v17.Peers v347),true)))))))) else (if (!false)=true then (some ((Raft.mk [] []),false)) else (some (v17,true))))
def ut (d8:Raft)(a9:RaftStep)(v17:Raft)(s89:Bool)  : Option (Raft × Bool):=(if s89=true then ((if (jh a9.K 0 (l9 .i64
  ((o6 d8.Peers:Int) - 1)))=true then ((zn d8.Peers a9.K).bind fun x116=>(some x116.Leads)) else (some false)).bind fun v116=>((if (v116&&((decide
  (a9.Kind=3))||(decide (a9.To=0))))=true then ((yb v17 a9).bind fun v170=>(some (v170.1,v170.2,v170.2.Peers))) else (some (false,v17,
  v17.Peers))).bind (fun s194=>qbn s194.1 s194.2.1 s194.2.2))) else ((if (decide (a9.Kind=4))=true then (some (decide (a9.Kind=4))) else (if (decide
  (a9.Kind=5))=true then (some (decide (a9.Kind=5))) else (some (decide (a9.Kind=6))))).bind (fun s368=>yp d8 a9 v17 s368)))
def kq (d8:Raft)(a9:RaftStep) : Option (Raft × Bool):=((qcl d8).bind fun v17=>(if (decide (a9.Kind=1))=true then ((if ((decide
  (a9.To=0))&&(jh a9.K 0 (l9 .i64 ((o6 d8.Peers:Int) - 1))))=true then ((yv v17 a9.K a9.N).bind fun v66=>(some (v66.1,
  v66.2.Peers,v66.2.Mail))) else (some (false,v17.Peers,
  v17.Mail))).bind (fun s88=>qdu s88.1 s88.2.1 s88.2.2)) else ((if (decide (a9.Kind=2))=true then (some (decide (a9.Kind=2))) else (if (decide
  (a9.Kind=3))=true then (some (decide (a9.Kind=3))) else (some (decide (a9.Kind=7))))).bind (fun s369=>ut d8 a9 v17 s369))))

def qcj (s60:List Bool)(v106:Raft × Bool)(s130:Raft)  : Option (Oc ((List Bool) × Raft) (Raft × (List Bool) × Bool)) :=
  ((ju 1 s60 [v106.2]).bind fun l167=>(some (.nxt (l167,s130))))
def xv (i74:Nat)(x75:RaftStep)(s60:List Bool)(s65:Raft) : Option (Oc ((List Bool) × Raft) (Raft × (List Bool) × Bool)) :=
  ((kq s65 x75).bind fun v106=>((if v106.2=true then (some v106.1) else (some s65)).bind (fun s177=>qcj s60 v106 s177)))
def qg8 (s179:List Bool)(s184:Raft)  : Option (Raft × (List Bool) × Bool):=(some (s184,s179,true))
def qas (peers_0:Int)(i9:List RaftStep) : Option (Raft × (List Bool) × Bool):=(if ((!(jh peers_0 1 5))||(decide ((100:Int) <
  (o6 i9:Int))))=true then (some ((Raft.mk [] []),[],
  false)) else ((qe5 peers_0).bind fun v18=>(jn (yd (fun i74 x75 s178=>xv i74 x75 s178.1 s178.2) i9 (([] : List Bool),
  v18)) (fun s202=>qg8 s202.1 s202.2))))

def yc (l6:Int)(lo_1:Int)(hi_2:Int) : Bool:=((decide (lo_1≤l6))&&(decide (l6≤hi_2)))

def qeo (peers_0:Int)(s18:Int)(s19:Raft) : Option (Oc (Int × Raft) (Raft × Bool)):=(if (decide (s18<peers_0))=true then ((mkN 8 peers_0
  (0:Int)).bind fun l47=>((ju 72 s19.Peers ([(Peer.mk 0 false [] 0 l47)])).bind fun l62=>(some (.nxt ((l9 .i64 (s18+1)),
  (Raft.mk l62 [])))))) else (some (.brk (s18,(Raft.mk s19.Peers [])))))
def qhz (s76:Int)(s77:Raft)  : Option (Raft × Bool):=(some ((Raft.mk s77.Peers []),true))
def qc5 (k:Nat)(peers_0:Int) : Option (Raft × Bool):=(if (!(yc peers_0 1 5))=true then (some ((Raft.mk [] []),
  false)) else (jn (kr (fun s75=>qeo peers_0 s75.1 s75.2) k (0,(Raft.mk [] []))) (fun s91=>qhz s91.1 s91.2)))

def jy (r_0:Raft)(k_1:Int) : Bool:=((decide ((0:Int)≤k_1))&&(decide (k_1<(o6 r_0.Peers:Int))))

def qbr (a9:Mail)(x15:Peer)(s198:Peer)  : Option (Int × Peer):=(if (decide (a9.Prev<(o6 s198.Log:Int)))=true then (some
  ((l9 .i64 (a9.Prev+1)),(Peer.mk s198.Term s198.Leads s198.Log s198.Commit x15.Match))) else (some (a9.Prev,
  (Peer.mk s198.Term s198.Leads s198.Log s198.Commit x15.Match))))
def uy (a9:Mail)(x15:Peer)(ub:Entry)(s137:Peer)  : Option (Int × Peer):=((if ((decide ((o6 s137.Log:Int)=a9.Prev))&&(decide
  (a9.Prev<30)))=true then ((ju 16 s137.Log [ub]).bind fun l217=>(some (Peer.mk s137.Term s137.Leads l217 s137.Commit x15.Match))) else (some
  (Peer.mk s137.Term s137.Leads s137.Log s137.Commit x15.Match))).bind (fun s241=>qbr a9 x15 s241))
def qbp (s87:Peer)(i320:Nat)(s317:List Int) : Option (Oc (List Int) (Raft × Mail)):=((zn s317 (i320:Int)).bind fun x346=>(if (decide
  ((o6 s87.Log:Int)<x346))=true then (some (.nxt (a0u s317 (i320:Int).toNat (o6 s87.Log:Int)))) else (some (.nxt s317))))
def qdr (d8:Raft)(a9:Mail)(s86:Int)(s87:Peer)(s293:Peer)(s360:List Int)  : Option (Raft × Mail):=(if (decide
  ((o6 d8.Mail:Int)<20))=true then ((ju 88 d8.Mail ([(Mail.mk true a9.To a9.From s293.Term 0 0 [] 0 s86)])).bind fun l383=>(some ((Raft.mk
  (a0u d8.Peers a9.To.toNat (Peer.mk s293.Term s293.Leads s87.Log s293.Commit s360)) l383),
  a9))) else (some ((Raft.mk (a0u d8.Peers a9.To.toNat (Peer.mk s293.Term s293.Leads s87.Log s293.Commit s360)) d8.Mail),a9)))
def qdq (d8:Raft)(a9:Mail)(x15:Peer)(s86:Int)(s87:Peer)(s293:Peer)  : Option (Raft × Mail):=(jn (wn
  (fun i320 s359=>qbp s87 i320 s359) (o6 x15.Match:Int) x15.Match) (fun s408=>qdr d8 a9 s86 s87 s293 s408))
def qdp (d8:Raft)(a9:Mail)(x15:Peer)(s86:Int)(s87:Peer)(s252:Peer)(s273:Int)  : Option (Raft × Mail):=((if (decide
  (s252.Commit<s273))=true then (some (Peer.mk s252.Term s252.Leads s87.Log s273 x15.Match)) else (some (Peer.mk s252.Term s252.Leads s87.Log s252.Commit x15.Match))).bind
  (fun s409=>qdq d8 a9 x15 s86 s87 s409))
def qdt (d8:Raft)(a9:Mail)(x15:Peer)(s86:Int)(s87:Peer)(s252:Peer)  : Option (Raft × Mail):=((if (decide (s86<a9.Commit))=true then
  (some s86) else (some a9.Commit)).bind (fun s410=>qdp d8 a9 x15 s86 s87 s252 s410))
def qbo (d8:Raft)(a9:Mail)(x15:Peer)(s86:Int)(s87:Peer)  : Option (Raft × Mail):=((if (decide
  ((o6 s87.Log:Int)<s87.Commit))=true then (some (Peer.mk s87.Term s87.Leads s87.Log (o6 s87.Log:Int) x15.Match)) else (some
  (Peer.mk s87.Term s87.Leads s87.Log s87.Commit x15.Match))).bind (fun s411=>qdt d8 a9 x15 s86 s87 s411))
def xq (d8:Raft)(a9:Mail) : Option (Raft × Mail):=((zn d8.Peers a9.To).bind fun x15=>((if (decide ((o6 x15.Log:Int)<a9.Prev))=true then
  (some true) else ((if (decide ((0:Int)<a9.Prev))=true then ((zn x15.Log (l9 .i64 (a9.Prev - 1))).bind fun x47=>(some (decide
  (x47.Term≠a9.PTerm)))) else (some false)).bind fun v47=>(some v47))).bind fun v44=>(if v44=true then (some (d8,
  a9)) else ((if (decide ((0:Int)<(o6 a9.Entry:Int)))=true then ((zn a9.Entry (0:Int)).bind fun ub=>((if (decide (a9.Prev <
  (o6 x15.Log:Int)))=true then ((zn x15.Log a9.Prev).bind fun x117=>(some (decide (x117.Term≠ub.Term)))) else (some false)).bind fun v117 =>
  ((if v117=true then ((sl x15.Log 0 a9.Prev).bind fun l156=>((ju 16 ([] : List Entry) l156).bind fun l163=>(some
  (Peer.mk x15.Term x15.Leads l163 x15.Commit x15.Match)))) else (some x15)).bind (fun s242=>uy a9 x15 ub s242)))) else (some (a9.Prev,
  x15))).bind (fun s412=>qbo d8 a9 x15 s412.1 s412.2)))))

def qbw (d8:Raft)(a9:Mail) : Option (Raft × Mail):=((zn d8.Peers a9.To).bind fun x17=>(if (decide (x17.Term<a9.Term))=true then ((mkN 8
  (o6 d8.Peers:Int) (0:Int)).bind fun l48=>(if (decide (a9.Term≠a9.Term))=true then (some ((Raft.mk (a0u d8.Peers a9.To.toNat
  (Peer.mk a9.Term false x17.Log x17.Commit l48)) d8.Mail),
  a9)) else (if (!a9.Reply)=true then ((xq (Raft.mk (a0u d8.Peers a9.To.toNat
  (Peer.mk a9.Term false x17.Log x17.Commit l48)) d8.Mail) a9).bind fun v77=>(some (v77.1,
  (Mail.mk a9.Reply a9.From a9.To a9.Term a9.Prev a9.PTerm v77.2.Entry a9.Commit a9.Match)))) else (some ((Raft.mk (a0u d8.Peers a9.To.toNat
  (Peer.mk a9.Term false x17.Log x17.Commit l48)) d8.Mail),a9))))) else (if (decide (a9.Term≠x17.Term))=true then (some (d8,
  a9)) else (if (!a9.Reply)=true then ((xq d8 a9).bind fun v111=>(some (v111.1,
  (Mail.mk a9.Reply a9.From a9.To a9.Term a9.Prev a9.PTerm v111.2.Entry a9.Commit a9.Match)))) else ((if x17.Leads=true then
  ((zn x17.Match a9.From).bind fun x129=>(some (decide (x129<a9.Match)))) else (some false)).bind fun v129=>(if (v129&&(decide (a9.Match ≤
  (o6 x17.Log:Int))))=true then ((zn x17.Match a9.From).bind fun x158=>(some ((Raft.mk (a0u d8.Peers a9.To.toNat
  (Peer.mk x17.Term x17.Leads x17.Log x17.Commit (a0u x17.Match a9.From.toNat a9.Match))) d8.Mail),a9))) else (some (d8,a9))))))))

def qfb (bits_0:Int)(s7:List Int)(s12:Int) : Option (Oc ((List Int) × Int) (List Int)):=(ck (0≤(l9 .u64 s12)) (if (decide ((0:Int) <
  (ji .i64 bits_0 (l9 .u64 s12))))=true then (ck (0≤(l9 .u64 s12)) (if (decide ((zw .i64 (ji .i64 bits_0
  (l9 .u64 s12)) 1)=1))=true then ((ju 8 s7 [s12]).bind fun l46=>(some (.nxt (l46,(l9 .i64 (s12+1)))))) else (some (.nxt (s7,
  (l9 .i64 (s12+1))))))) else (some (.brk (s7,s12)))))
def qh8 (s59:List Int)(s64:Int)  : Option (List Int):=(some s59)
def qcs (k:Nat)(bits_0:Int) : Option (List Int):=(jn (kr (fun s58=>qfb bits_0 s58.1 s58.2) k (([],
  0) : (List Int) × Int)) (fun s71=>qh8 s71.1 s71.2))

def qcw (i7:List Int)(i6:Int)(i1:Nat)(x2:Int) : Option (Oc Unit Bool):=((if ((decide (x2<0))||(decide (i6≤x2)))=true then
  (some true) else ((if (decide ((0:Int)<(i1:Int)))=true then ((zn i7 (l9 .i64 ((i1:Int) - 1))).bind fun x44=>(some (decide (x2≤x44)))) else
  (some false)).bind fun v44=>(some v44))).bind fun v41=>(if v41=true then (some (.ret false)) else (some (.nxt ()))))
def qhm  : Option Bool:=(some true)
def qc4 (i7:List Int)(i6:Int) : Option Bool:=(jn (yd (fun i1 x2 _=>qcw i7 i6 i1 x2 ) i7 ()) (fun _=>qhm ))

def qd3 (n_1:Int)(i1:Nat)(x2:Int) : Option (Oc Unit Bool):=(if (decide (x2=n_1))=true then (some (.ret true)) else (some (.nxt ())))
def qja  : Option Bool:=(some false)
def qdl (i7:List Int)(n_1:Int) : Option Bool:=(jn (yd (fun i1 x2 _=>qd3 n_1 i1 x2 ) i7 ()) (fun _=>qja ))

def ug (i7:List Entry) : Option Int:=(if (decide ((o6 i7:Int)=0))=true then (some (-1)) else ((zn i7 (l9 .i64
  ((o6 i7:Int) - 1))).bind fun x2=>(some x2.Term)))

def qcf (d6:List Entry)(d9:List Entry) : Option Bool:=((ug d6).bind fun v1=>((ug d9).bind fun v4=>((if (decide (v4<v1))=true then
  (some true) else ((ug d6).bind fun v10=>((ug d9).bind fun v13=>(some ((decide (v10=v13))&&(decide ((o6 d9:Int) ≤
  (o6 d6:Int)))))))).bind fun v10=>(some v10))))

def wl (d8:Raft)(a9:Int)(i58:Nat)(x59:Int)(s54:Int)(s55:List Peer) : Option (Oc (Int × (List Peer)) (Raft × Bool)) :=
  ((zn s55 a9).bind fun x84=>((zn s55 x59).bind fun qdo=>(if (decide (a9=x59))=true then ((qcf x84.Log x84.Log).bind fun v108=>(if (!v108)=true then
  (some (.ret ((Raft.mk s55 d8.Mail),false))) else (if (decide (s54<x84.Term))=true then (some (.nxt (x84.Term,s55))) else (some (.nxt (s54,
  s55)))))) else (ck (a9≠x59) ((qcf x84.Log qdo.Log).bind fun v150=>(if (!v150)=true then (some (.ret ((Raft.mk s55 d8.Mail),
  false))) else (if (decide (s54<qdo.Term))=true then (some (.nxt (qdo.Term,s55))) else (some (.nxt (s54,s55))))))))))
def qch (a9:Int)(s184:Int)(i206:Nat)(x207:Int)(s203:List Peer) : Option (Oc (List Peer) (Raft × Bool)):=((zn s203 x207).bind fun x231=>((mkN 8
  (o6 s203:Int) (0:Int)).bind fun l259=>(some (.nxt (a0u s203 x207.toNat (Peer.mk (l9 .i64 (s184+1)) (decide
  (x207=a9)) x231.Log x231.Commit l259))))))
def qeb (d8:Raft)(a9:Int)(s279:List Peer)  : Option (Raft × Bool):=((zn s279 a9).bind fun x290=>((zn x290.Match a9).bind fun x310=>(some
  ((Raft.mk (a0u s279 a9.toNat (Peer.mk x290.Term x290.Leads x290.Log x290.Commit (a0u x290.Match a9.toNat (o6 x290.Log:Int)))) d8.Mail),true))))
def qar (d8:Raft)(a9:Int)(v11:List Int)(s184:Int)(s185:List Peer)  : Option (Raft × Bool):=(if (decide (s184=100))=true then (some
  ((Raft.mk s185 d8.Mail),false)) else (jn (yd (fun i206 x207 s278=>qch a9 s184 i206 x207 s278) v11 s185) (fun s327=>qeb d8 a9 s327)))
def xm (k:Nat)(d8:Raft)(a9:Int)(i5:Int) : Option (Raft × Bool):=((qcs k i5).bind fun v11=>((qc4 v11
  (o6 d8.Peers:Int)).bind fun v14=>((if (!v14)=true then (some true) else ((qdl v11 a9).bind fun v20=>(some (!v20)))).bind fun v20=>(if (v20 ||
  (decide ((l9 .i64 ((2:Int)*(o6 v11:Int)))≤(o6 d8.Peers:Int))))=true then (some (d8,
  false)) else (jn (yd (fun i58 x59 s183=>wl d8 a9 i58 x59 s183.1 s183.2) v11 (0,d8.Peers)) (fun s328=>qar d8 a9 v11 s328.1 s328.2))))))

def qep (d8:Raft)(s130:Mail)(s135:List Peer)  : Option (Raft × Bool):=((ju 88 d8.Mail [s130]).bind fun l182=>(some ((Raft.mk s135 l182),true)))
def qcy (d8:Raft)(a9:RaftStep)(x15:Peer)(s104:Mail)  : Option (Raft × Bool):=((if (decide (a9.N<(o6 x15.Log:Int)))=true then
  ((zn x15.Log a9.N).bind fun x147=>(some ((Mail.mk s104.Reply s104.From s104.To s104.Term s104.Prev s104.PTerm [x147] s104.Commit s104.Match),
  d8.Peers))) else (some ((Mail.mk s104.Reply s104.From s104.To s104.Term s104.Prev s104.PTerm [] s104.Commit s104.Match),
  d8.Peers))).bind (fun s195=>qep d8 s195.1 s195.2))
def xe (d8:Raft)(a9:RaftStep) : Option (Raft × Bool):=((zn d8.Peers a9.K).bind fun x15=>(if (((((!(jy d8 a9.To))||(decide
  (a9.To=a9.K)))||(decide (a9.N<0)))||(decide ((o6 x15.Log:Int)<a9.N)))||(decide ((o6 d8.Mail:Int)=20)))=true then (some (d8,
  false)) else ((if (decide ((0:Int)<a9.N))=true then ((zn x15.Log (l9 .i64 (a9.N - 1))).bind fun x113=>(some
  (Mail.mk false a9.K a9.To x15.Term a9.N x113.Term [] x15.Commit 0))) else (some (Mail.mk false a9.K a9.To x15.Term a9.N (-1) [] x15.Commit 0))).bind
  (fun s196=>qcy d8 a9 x15 s196))))

def qbl (i5:Int)(x11:Peer)(i82:Nat)(s81:Int) : Option (Oc Int (Raft × Bool)):=((zn x11.Match (i82:Int)).bind fun x108=>(if (decide
  (i5≤x108))=true then (some (.nxt (l9 .i64 (s81+1)))) else (some (.nxt s81))))
def qbm (d8:Raft)(a9:Int)(i5:Int)(x11:Peer)(s117:Int)  : Option (Raft × Bool):=(if (decide ((l9 .i64 ((2:Int)*s117)) ≤
  (o6 d8.Peers:Int)))=true then (some (d8,
  false)) else (some ((Raft.mk (a0u d8.Peers a9.toNat (Peer.mk x11.Term x11.Leads x11.Log i5 x11.Match)) d8.Mail),true)))
def wz (d8:Raft)(a9:Int)(i5:Int) : Option (Raft × Bool):=((zn d8.Peers a9).bind fun x11=>((if ((decide (i5≤x11.Commit))||(decide
  ((o6 x11.Log:Int)<i5)))=true then (some true) else ((zn x11.Log (l9 .i64 (i5 - 1))).bind fun x54=>(some (decide
  (x54.Term≠x11.Term))))).bind fun v54=>(if v54=true then (some (d8,
  false)) else (jn (wn (fun i82 s116=>qbl i5 x11 i82 s116) (o6 x11.Match:Int) 0) (fun s145=>qbm d8 a9 i5 x11 s145)))))

def qez (s140:Raft)(s145:List Peer)  : Option (Raft × Bool):=(some ((Raft.mk s145 s140.Mail),true))
def kw (k:Nat)(d8:Raft)(a9:RaftStep) : Option (Raft × Bool):=(if (yc a9.Kind 4 6)=true then (if ((((decide (a9.K<0))||(decide
  ((o6 d8.Mail:Int)≤a9.K)))||(decide (a9.To≠0)))||(decide (a9.N≠0)))=true then (some (d8,
  false)) else ((zn d8.Mail a9.K).bind fun x49=>(if (decide (a9.Kind=6))=true then (if (decide ((o6 d8.Mail:Int)=20))=true then (some (d8,
  false)) else ((ju 88 d8.Mail [x49]).bind fun l87=>(some ((Raft.mk d8.Peers l87),
  true)))) else ((sl d8.Mail 0 a9.K).bind fun l106=>((ju 88 ([] : List Mail) l106).bind fun l112=>((sl d8.Mail (l9 .i64 (a9.K+1))
  (o6 d8.Mail)).bind fun l123=>((ju 88 l112 l123).bind fun l129=>((if (decide (a9.Kind=4))=true then ((qbw
  (Raft.mk d8.Peers l129) x49).bind fun v157=>(some (v157.1,v157.1.Peers))) else (some ((Raft.mk d8.Peers l129),
  d8.Peers))).bind (fun s181=>qez s181.1 s181.2))))))))) else (if ((!(jy d8 a9.K))||((decide (a9.Kind≠3))&&(decide
  (a9.To≠0))))=true then (some (d8,
  false)) else ((zn d8.Peers a9.K).bind fun x206=>(if ((decide (a9.Kind=1))&&(yc a9.N 1 31))=true then ((xm k d8 a9.K a9.N).bind fun v250 =>
  (some (v250.1,v250.2))) else (if (!x206.Leads)=true then (some (d8,
  false)) else (if (((decide (a9.Kind=2))&&(yc a9.N 0 99))&&(decide ((o6 x206.Log:Int)<30)))=true then
  ((ju 16 x206.Log [(Entry.mk x206.Term a9.N)]).bind fun l298=>((zn x206.Match a9.K).bind fun x313=>(some ((Raft.mk (a0u d8.Peers a9.K.toNat
  (Peer.mk x206.Term x206.Leads l298 x206.Commit (a0u x206.Match a9.K.toNat (o6 l298:Int)))) d8.Mail),
  true)))) else (if (decide (a9.Kind=3))=true then ((xe d8 a9).bind fun v335=>(some (v335.1,
  v335.2))) else (if (decide (a9.Kind=7))=true then ((wz d8 a9.K a9.N).bind fun v353=>(some (v353.1,v353.2))) else (some (d8,false))))))))))

def qbv (i25:Nat)(x26:Peer)(s20:Raft) : Option (Oc Raft Raft):=((ju 16 ([] : List Entry) x26.Log).bind fun l61=>((ju 8
  ([] : List Int) x26.Match).bind fun l78=>((ju 72 s20.Peers [(Peer.mk x26.Term x26.Leads l61 x26.Commit l78)]).bind fun l95=>(some (.nxt (Raft.mk l95 []))))))
def qbz (s108:Raft)(i130:Nat)(x131:Mail)(s125:Raft) : Option (Oc Raft Raft):=((ju 16 ([] : List Entry) x131.Entry).bind fun l165 =>
  ((ju 88 s125.Mail [(Mail.mk x131.Reply x131.From x131.To x131.Term x131.Prev x131.PTerm l165 x131.Commit x131.Match)]).bind fun l182=>(some (.nxt
  (Raft.mk s108.Peers l182)))))
def qh7 (s108:Raft)(s195:Raft)  : Option Raft:=(some (Raft.mk s108.Peers s195.Mail))
def qfp (r_0:Raft)(s108:Raft)  : Option Raft:=(jn (yd (fun i130 x131 s194=>qbz s108 i130 x131 s194) r_0.Mail (Raft.mk s108.Peers []))
  (fun s208=>qh7 s108 s208))
def qcr (r_0:Raft) : Option Raft:=(jn (yd (fun i25 x26 s107=>qbv i25 x26 s107) r_0.Peers (Raft.mk [] [])) (fun s209=>qfp r_0 s209))

def qcd (s54:List Bool)(v120:Raft × Bool)(s135:Raft)  : Option (Oc ((List Bool) × Raft) (Raft × (List Bool) × Bool)) :=
  ((ju 1 s54 [v120.2]).bind fun l172=>(some (.nxt (l172,s135))))
def xw (k:Nat)(i68:Nat)(x69:RaftStep)(s54:List Bool)(s59:Raft) : Option (Oc ((List Bool) × Raft) (Raft × (List Bool) × Bool)) :=
  ((qcr s59).bind fun v104=>((kw k v104 x69).bind fun v120=>((if v120.2=true then (some v120.1) else (some s59)).bind
  (fun s182=>qcd s54 v120 s182))))
def qd6 (s184:List Bool)(s189:Raft)  : Option (Raft × (List Bool) × Bool):=((qcr s189).bind fun v205=>(some (v205,s184,true)))
def qck (k:Nat)(peers_0:Int)(i9:List RaftStep) : Option (Raft × (List Bool) × Bool):=((qc5 k peers_0).bind fun v5=>(if ((!v5.2)||(decide
  ((100:Int)<(o6 i9:Int))))=true then (some ((Raft.mk [] []),[],
  false)) else (jn (yd (fun i68 x69 s183=>xw k i68 x69 s183.1 s183.2) i9 (([],v5.1) : (List Bool) × Raft)) (fun s223=>qd6 s223.1 s223.2))))

def qaf (d6:List RaftStep)(left_1:Int) : Option Int:=(if (decide ((l9 .i64 (left_1 - (o6 d6:Int)))<0))=true then (some (-1)) else
  (some (l9 .i64 (left_1 - (o6 d6:Int)))))

def qa0 (d6:RaftStep) : RaftStep:=d6

def xn (d6:List RaftStep)(s14:Int)(s15:List RaftStep) : Option (Oc (Int × (List RaftStep)) (List RaftStep)):=(if (decide (s14 <
  (o6 d6:Int)))=true then ((zn d6 s14).bind fun x40=>((zn s15 s14).bind fun x43=>(some (.nxt ((l9 .i64 (s14+1)),
  (a0u s15 s14.toNat (qa0 x40))))))) else (some (.brk (s14,s15))))
def qe9 (s56:Int)(s57:List RaftStep)  : Option (List RaftStep):=(some s57)
def wh (k:Nat)(d6:List RaftStep) : Option (List RaftStep):=((mkN 32 (o6 d6:Int) (RaftStep.mk (0:Int) (0:Int) (0:Int)
  (0:Int))).bind fun l1=>(jn (kr (fun s55=>xn d6 s55.1 s55.2) k (0,l1)) (fun s66=>qe9 s66.1 s66.2)))

def qc2 (d6:Entry)(d9:Entry) : Option Bool:=(if (decide (d6.Term≠d9.Term))=true then (some false) else (if (decide (d6.Value≠d9.Value))=true then
  (some false) else (some true)))

def qan (d6:List Entry)(d9:List Entry)(s3:Int) : Option (Oc Int Bool):=(if (decide (s3<(o6 d6:Int)))=true then
  ((zn d6 s3).bind fun x26=>((zn d9 s3).bind fun x29=>((qc2 x26 x29).bind fun v32=>(if (!v32)=true then (some (.ret false)) else (some (.nxt
  (l9 .i64 (s3+1)))))))) else (some (.brk s3)))
def qg3 (s42:Int)  : Option Bool:=(some true)
def qax (k:Nat)(d6:List Entry)(d9:List Entry) : Option Bool:=(if (decide ((o6 d6:Int)≠(o6 d9:Int)))=true then (some false) else
  (jn (kr (fun s41=>qan d6 d9 s41) k 0) (fun s49=>qg3 s49)))

def qb9 (d6:List Int)(d9:List Int)(s3:Int) : Option (Oc Int Bool):=(if (decide (s3<(o6 d6:Int)))=true then ((zn d6 s3).bind fun x26 =>
  ((zn d9 s3).bind fun x29=>(if (decide (x26≠x29))=true then (some (.ret false)) else (some (.nxt (l9 .i64 (s3+1))))))) else (some (.brk s3)))
def qim (s39:Int)  : Option Bool:=(some true)
def qdv (k:Nat)(d6:List Int)(d9:List Int) : Option Bool:=(if (decide ((o6 d6:Int)≠(o6 d9:Int)))=true then (some false) else (jn
  (kr (fun s38=>qb9 d6 d9 s38) k 0) (fun s46=>qim s46)))

def qdw (k:Nat)(d6:Peer)(d9:Peer) : Option Bool:=(if (decide (d6.Term≠d9.Term))=true then (some false) else (if (!(d6.Leads == d9.Leads))=true then
  (some false) else ((qax k d6.Log d9.Log).bind fun v15=>(if (!v15)=true then (some false) else (if (decide (d6.Commit≠d9.Commit))=true then
  (some false) else ((qdv k d6.Match d9.Match).bind fun v20=>(if (!v20)=true then (some false) else (some true))))))))

def qbb (k:Nat)(d6:List Peer)(d9:List Peer)(s3:Int) : Option (Oc Int Bool):=(if (decide (s3<(o6 d6:Int)))=true then
  ((zn d6 s3).bind fun x26=>((zn d9 s3).bind fun x29=>((qdw k x26 x29).bind fun v32=>(if (!v32)=true then (some (.ret false)) else (some (.nxt
  (l9 .i64 (s3+1)))))))) else (some (.brk s3)))
def qho (s42:Int)  : Option Bool:=(some true)
def qc7 (k:Nat)(d6:List Peer)(d9:List Peer) : Option Bool:=(if (decide ((o6 d6:Int)≠(o6 d9:Int)))=true then (some false) else (jn
  (kr (fun s41=>qbb k d6 d9 s41) k 0) (fun s49=>qho s49)))

def qdx (k:Nat)(d6:Mail)(d9:Mail) : Option Bool:=(if (!(d6.Reply == d9.Reply))=true then (some false) else (if (decide (d6.From≠d9.From))=true then
  (some false) else (if (decide (d6.To≠d9.To))=true then (some false) else (if (decide (d6.Term≠d9.Term))=true then (some false) else (if (decide
  (d6.Prev≠d9.Prev))=true then (some false) else (if (decide (d6.PTerm≠d9.PTerm))=true then (some false) else ((qax k d6.Entry d9.Entry).bind fun v19 =>
  (if (!v19)=true then (some false) else (if (decide (d6.Commit≠d9.Commit))=true then (some false) else (if (decide (d6.Match≠d9.Match))=true then
  (some false) else (some true)))))))))))

def qa9 (k:Nat)(d6:List Mail)(d9:List Mail)(s3:Int) : Option (Oc Int Bool):=(if (decide (s3<(o6 d6:Int)))=true then
  ((zn d6 s3).bind fun x26=>((zn d9 s3).bind fun x29=>((qdx k x26 x29).bind fun v32=>(if (!v32)=true then (some (.ret false)) else (some (.nxt
  (l9 .i64 (s3+1)))))))) else (some (.brk s3)))
def qhn (s42:Int)  : Option Bool:=(some true)
def qc8 (k:Nat)(d6:List Mail)(d9:List Mail) : Option Bool:=(if (decide ((o6 d6:Int)≠(o6 d9:Int)))=true then (some false) else (jn
  (kr (fun s41=>qa9 k d6 d9 s41) k 0) (fun s49=>qhn s49)))

def qbi (k:Nat)(d6:Raft)(d9:Raft) : Option Bool:=((qc7 k d6.Peers d9.Peers).bind fun v13=>(if (!v13)=true then (some false) else
  ((qc8 k d6.Mail d9.Mail).bind fun v17=>(if (!v17)=true then (some false) else (some true)))))

def qa8 (d6:List Bool)(d9:List Bool)(s3:Int) : Option (Oc Int Bool):=(if (decide (s3<(o6 d6:Int)))=true then
  ((zn d6 s3).bind fun x26=>((zn d9 s3).bind fun x29=>(if (!(x26 == x29))=true then (some (.ret false)) else (some (.nxt (l9 .i64 (s3+1))))))) else
  (some (.brk s3)))
def qhk (s39:Int)  : Option Bool:=(some true)
def qaq (k:Nat)(d6:List Bool)(d9:List Bool) : Option Bool:=(if (decide ((o6 d6:Int)≠(o6 d9:Int)))=true then (some false) else (jn
  (kr (fun s38=>qa8 d6 d9 s38) k 0) (fun s46=>qhk s46)))

def qaz (d6:RaftStep)(d9:RaftStep) : Option Bool:=(if (decide (d6.Kind≠d9.Kind))=true then (some false) else (if (decide (d6.K≠d9.K))=true then
  (some false) else (if (decide (d6.To≠d9.To))=true then (some false) else (if (decide (d6.N≠d9.N))=true then (some false) else (some true)))))

def xp (d6:List RaftStep)(d9:List RaftStep)(s3:Int) : Option (Oc Int Bool):=(if (decide (s3<(o6 d6:Int)))=true then
  ((zn d6 s3).bind fun x26=>((zn d9 s3).bind fun x29=>((qaz x26 x29).bind fun v32=>(if (!v32)=true then (some (.ret false)) else (some (.nxt
  (l9 .i64 (s3+1)))))))) else (some (.brk s3)))
def qe8 (s42:Int)  : Option Bool:=(some true)
def qal (k:Nat)(d6:List RaftStep)(d9:List RaftStep) : Option Bool:=(if (decide ((o6 d6:Int)≠(o6 d9:Int)))=true then
  (some false) else (jn (kr (fun s41=>xp d6 d9 s41) k 0) (fun s49=>qe8 s49)))

def w8 (s6:Int)(s7:Int)(s8:List RaftStep) : Option (Oc (Int × Int × (List RaftStep)) (Int × (List RaftStep))):=(if (decide (s7 <
  (o6 s8:Int)))=true then ((zn s8 s7).bind fun x33=>(some (.nxt ((l9 .i64 ((l9 .i64 ((l9 .i64 ((l9 .i64
  (s6+1))+1))+1))+1)),(l9 .i64 (s7+1)),
  (a0u s8 s7.toNat (RaftStep.mk s6 (l9 .i64 (s6+1)) (l9 .i64 ((l9 .i64 (s6+1))+1)) (l9 .i64 ((l9 .i64
  ((l9 .i64 (s6+1))+1))+1)))))))) else (some (.brk (s6,s7,s8))))
def qel (s61:Int)(s62:Int)(s63:List RaftStep)  : Option (Int × (List RaftStep)):=(some (s61,s63))
def uf (k:Nat)(d6:List RaftStep)(k_1:Int) : Option (Int × (List RaftStep)):=(jn (kr (fun s60=>w8 s60.1 s60.2.1 s60.2.2) k (k_1,
  0,d6)) (fun s72=>qel s72.1 s72.2.1 s72.2.2))

def ud (s6:Int)(s7:Int)(s8:List Entry) : Option (Oc (Int × Int × (List Entry)) (Int × (List Entry))):=(if (decide (s7 <
  (o6 s8:Int)))=true then ((zn s8 s7).bind fun x33=>(some (.nxt ((l9 .i64 ((l9 .i64 (s6+1))+1)),(l9 .i64 (s7+1)),
  (a0u s8 s7.toNat (Entry.mk s6 (l9 .i64 (s6+1)))))))) else (some (.brk (s6,s7,s8))))
def qf3 (s51:Int)(s52:Int)(s53:List Entry)  : Option (Int × (List Entry)):=(some (s51,s53))
def uj (k:Nat)(d6:List Entry)(k_1:Int) : Option (Int × (List Entry)):=(jn (kr (fun s50=>ud s50.1 s50.2.1 s50.2.2) k (k_1,0,
  d6)) (fun s62=>qf3 s62.1 s62.2.1 s62.2.2))

def qae (s6:Int)(s7:Int)(s8:List Int) : Option (Oc (Int × Int × (List Int)) (Int × (List Int))):=(if (decide (s7<(o6 s8:Int)))=true then
  ((zn s8 s7).bind fun x33=>(some (.nxt ((l9 .i64 (s6+1)),(l9 .i64 (s7+1)),(a0u s8 s7.toNat s6))))) else (some (.brk (s6,s7,s8))))
def qg5 (s46:Int)(s47:Int)(s48:List Int)  : Option (Int × (List Int)):=(some (s46,s48))
def qcp (k:Nat)(d6:List Int)(k_1:Int) : Option (Int × (List Int)):=(jn (kr (fun s45=>qae s45.1 s45.2.1 s45.2.2) k (k_1,0,
  d6)) (fun s57=>qg5 s57.1 s57.2.1 s57.2.2))

def u5 (k:Nat)(s6:Int)(s7:Int)(s8:List Peer) : Option (Oc (Int × Int × (List Peer)) (Int × (List Peer))):=(if (decide (s7 <
  (o6 s8:Int)))=true then ((zn s8 s7).bind fun x33=>((uj k x33.Log (l9 .i64 ((l9 .i64 (s6+1))+1))).bind fun v61 =>
  ((qcp k x33.Match (l9 .i64 (v61.1+1))).bind fun v72=>(some (.nxt (v72.1,(l9 .i64 (s7+1)),
  (a0u s8 s7.toNat (Peer.mk s6 (decide ((a1l (l9 .i64 (s6+1)) 3)=0)) v61.2 v61.1 v72.2)))))))) else (some (.brk (s6,s7,s8))))
def qgg (s87:Int)(s88:Int)(s89:List Peer)  : Option (Int × (List Peer)):=(some (s87,s89))
def qb3 (k:Nat)(d6:List Peer)(k_1:Int) : Option (Int × (List Peer)):=(jn (kr (fun s86=>u5 k s86.1 s86.2.1 s86.2.2) k (k_1,0,
  d6)) (fun s98=>qgg s98.1 s98.2.1 s98.2.2))

def uv (k:Nat)(s6:Int)(s7:Int)(s8:List Mail) : Option (Oc (Int × Int × (List Mail)) (Int × (List Mail))):=(if (decide (s7 <
  (o6 s8:Int)))=true then ((zn s8 s7).bind fun x33=>((uj k x33.Entry (l9 .i64 ((l9 .i64 ((l9 .i64
  ((l9 .i64 ((l9 .i64 ((l9 .i64 (s6+1))+1))+1))+1))+1))+1))).bind fun v73=>(some (.nxt ((l9 .i64 ((l9 .i64
  (v73.1+1))+1)),(l9 .i64 (s7+1)),
  (a0u s8 s7.toNat (Mail.mk (decide ((a1l s6 3)=0)) (l9 .i64 (s6+1)) (l9 .i64 ((l9 .i64 (s6+1))+1)) (l9 .i64
  ((l9 .i64 ((l9 .i64 (s6+1))+1))+1)) (l9 .i64 ((l9 .i64 ((l9 .i64 ((l9 .i64 (s6+1))+1))+1))+1))
  (l9 .i64 ((l9 .i64 ((l9 .i64 ((l9 .i64 ((l9 .i64 (s6+1))+1))+1))+1))+1)) v73.2 v73.1 (l9 .i64
  (v73.1+1))))))))) else (some (.brk (s6,s7,s8))))
def qgi (s96:Int)(s97:Int)(s98:List Mail)  : Option (Int × (List Mail)):=(some (s96,s98))
def qb5 (k:Nat)(d8:List Mail)(a9:Int) : Option (Int × (List Mail)):=(jn (kr (fun s95=>uv k s95.1 s95.2.1 s95.2.2) k (a9,0,
  d8)) (fun s107=>qgi s107.1 s107.2.1 s107.2.2))

def qcn (k:Nat)(d6:Raft)(k_1:Int) : Option (Int × Raft):=((qb3 k d6.Peers k_1).bind fun v7=>((qb5 k d6.Mail v7.1).bind fun v14 =>
  (some (v14.1,(Raft.mk v7.2 v14.2)))))

def u0 (s6:Int)(s7:Int)(s8:List Bool) : Option (Oc (Int × Int × (List Bool)) (Int × (List Bool))):=(if (decide (s7<(o6 s8:Int)))=true then
  ((zn s8 s7).bind fun x33=>(some (.nxt ((l9 .i64 (s6+1)),(l9 .i64 (s7+1)),
  (a0u s8 s7.toNat (decide ((a1l s6 3)=0))))))) else (some (.brk (s6,s7,s8))))
def qgh (s46:Int)(s47:Int)(s48:List Bool)  : Option (Int × (List Bool)):=(some (s46,s48))
def qb1 (k:Nat)(d6:List Bool)(k_1:Int) : Option (Int × (List Bool)):=(jn (kr (fun s45=>u0 s45.1 s45.2.1 s45.2.2) k (k_1,0,
  d6)) (fun s57=>qgh s57.1 s57.2.1 s57.2.2))

def x9 (d6:List Entry)(s3:Int)(s4:Int) : Option (Oc (Int × Int) Int):=(if (decide (s4<(o6 d6:Int)))=true then
  ((zn d6 s4).bind fun x27=>(if (decide (x27.Term≠s3))=true then (some (.ret (-1))) else ((zn d6 s4).bind fun x34=>(if (decide (x34.Value≠(l9 .i64
  (s3+1))))=true then (some (.ret (-1))) else (some (.nxt ((l9 .i64 ((l9 .i64 (s3+1))+1)),(l9 .i64 (s4+1))))))))) else (some (.brk (s3,
  s4))))
def qf4 (s44:Int)(s45:Int)  : Option Int:=(some s44)
def uk (k:Nat)(d6:List Entry)(k_1:Int) : Option Int:=(jn (kr (fun s43=>x9 d6 s43.1 s43.2) k (k_1,
  0)) (fun s52=>qf4 s52.1 s52.2))

def qak (d6:List Int)(s3:Int)(s4:Int) : Option (Oc (Int × Int) Int):=(if (decide (s4<(o6 d6:Int)))=true then
  ((zn d6 s4).bind fun x27=>(if (decide (x27≠s3))=true then (some (.ret (-1))) else (some (.nxt ((l9 .i64 (s3+1)),
  (l9 .i64 (s4+1))))))) else (some (.brk (s3,s4))))
def qhh (s37:Int)(s38:Int)  : Option Int:=(some s37)
def qco (k:Nat)(d6:List Int)(k_1:Int) : Option Int:=(jn (kr (fun s36=>qak d6 s36.1 s36.2) k (k_1,
  0)) (fun s45=>qhh s45.1 s45.2))

def uz (k:Nat)(d6:List Peer)(s3:Int)(s4:Int) : Option (Oc (Int × Int) Int):=(if (decide (s4<(o6 d6:Int)))=true then
  ((zn d6 s4).bind fun x27=>(if (decide (x27.Term≠s3))=true then (some (.ret (-1))) else ((zn d6 s4).bind fun x34=>(if (!(x34.Leads == (decide ((a1l
  (l9 .i64 (s3+1)) 3)=0))))=true then (some (.ret (-1))) else ((zn d6 s4).bind fun x41=>((uk k x41.Log (l9 .i64 ((l9 .i64
  (s3+1))+1))).bind fun v44=>(if (decide (v44<0))=true then (some (.ret (-1))) else ((zn d6 s4).bind fun x51=>(if (decide (x51.Commit≠v44))=true then (some
  (.ret (-1))) else ((zn d6 s4).bind fun x58=>((qco k x58.Match (l9 .i64 (v44+1))).bind fun v61=>(if (decide (v61<0))=true then (some (.ret
  (-1))) else (some (.nxt (v61,(l9 .i64 (s4+1))))))))))))))))) else (some (.brk (s3,s4))))
def qgn (s71:Int)(s72:Int)  : Option Int:=(some s71)
def qby (k:Nat)(d6:List Peer)(k_1:Int) : Option Int:=(jn (kr (fun s70=>uz k d6 s70.1 s70.2) k (k_1,
  0)) (fun s79=>qgn s79.1 s79.2))

def uu (k:Nat)(d8:List Mail)(s3:Int)(s4:Int) : Option (Oc (Int × Int) Int):=(if (decide (s4<(o6 d8:Int)))=true then
  ((zn d8 s4).bind fun x27=>(if (!(x27.Reply == (decide ((a1l s3 3)=0))))=true then (some (.ret (-1))) else ((zn d8 s4).bind fun x34=>(if (decide (x34.From ≠
  (l9 .i64 (s3+1))))=true then (some (.ret (-1))) else ((zn d8 s4).bind fun x41=>(if (decide (x41.To≠(l9 .i64 ((l9 .i64
  (s3+1))+1))))=true then (some (.ret (-1))) else ((zn d8 s4).bind fun x48=>(if (decide (x48.Term≠(l9 .i64 ((l9 .i64 ((l9 .i64
  (s3+1))+1))+1))))=true then (some (.ret (-1))) else ((zn d8 s4).bind fun x55=>(if (decide (x55.Prev≠(l9 .i64 ((l9 .i64 ((l9 .i64
  ((l9 .i64 (s3+1))+1))+1))+1))))=true then (some (.ret (-1))) else ((zn d8 s4).bind fun x62=>(if (decide (x62.PTerm≠(l9 .i64
  ((l9 .i64 ((l9 .i64 ((l9 .i64 ((l9 .i64 (s3+1))+1))+1))+1))+1))))=true then (some (.ret (-1))) else
  ((zn d8 s4).bind fun x69=>((uk k x69.Entry (l9 .i64 ((l9 .i64 ((l9 .i64 ((l9 .i64 ((l9 .i64
  ((l9 .i64 (s3+1))+1))+1))+1))+1))+1))).bind fun v72=>(if (decide (v72<0))=true then (some (.ret (-1))) else ((zn d8 s4).bind fun x79=>(if
  (decide (x79.Commit≠v72))=true then (some (.ret (-1))) else ((zn d8 s4).bind fun x86=>(if (decide (x86.Match≠(l9 .i64 (v72+1))))=true then (some
  (.ret (-1))) else (some (.nxt ((l9 .i64 ((l9 .i64 (v72+1))+1)),(l9 .i64 (s4+1)))))))))))))))))))))))) else (some (.brk (s3,s4))))
def qgj (s96:Int)(s97:Int)  : Option Int:=(some s96)
def qb7 (k:Nat)(d8:List Mail)(a9:Int) : Option Int:=(jn (kr (fun s95=>uu k d8 s95.1 s95.2) k (a9,
  0)) (fun s104=>qgj s104.1 s104.2))

def qaw (k:Nat)(d6:Raft)(k_1:Int) : Option Int:=((qby k d6.Peers k_1).bind fun v7=>(if (decide (v7<0))=true then (some (-1)) else
  ((qb7 k d6.Mail v7).bind fun v11=>(if (decide (v11<0))=true then (some (-1)) else (some v11)))))

def ux (d6:List Bool)(s3:Int)(s4:Int) : Option (Oc (Int × Int) Int):=(if (decide (s4<(o6 d6:Int)))=true then
  ((zn d6 s4).bind fun x27=>(if (!(x27 == (decide ((a1l s3 3)=0))))=true then (some (.ret (-1))) else (some (.nxt ((l9 .i64 (s3+1)),
  (l9 .i64 (s4+1))))))) else (some (.brk (s3,s4))))
def qgl (s37:Int)(s38:Int)  : Option Int:=(some s37)
def qad (k:Nat)(d6:List Bool)(k_1:Int) : Option Int:=(jn (kr (fun s36=>ux d6 s36.1 s36.2) k (k_1,
  0)) (fun s45=>qgl s45.1 s45.2))

def xj (k:Nat)(d8:Int)(a9:List RaftStep) : Option Bool:=((qaf a9 1048576).bind fun v1=>(if (decide (v1<0))=true then
  (some true) else ((wh k a9).bind fun v5=>((qck k d8 v5).bind fun v17=>((wh k a9).bind fun v45 =>
  ((qas d8 v45).bind fun v57=>((qbi k v57.1 v17.1).bind fun v85=>((if (!v85)=true then (some true) else
  ((qaq k v57.2.1 v17.2.1).bind fun v91=>(some (!v91)))).bind fun v91=>(if (v91||(!(v57.2.2 == v17.2.2)))=true then (some false) else
  ((wh k a9).bind fun v129=>((qal k v45 v129).bind fun v141=>(if (!v141)=true then (some false) else
  ((uf k v45 1).bind fun v145=>((if (decide (v145.1<0))=true then (some true) else ((qbi k v57.1 v17.1).bind fun v155=>(some
  (!v155)))).bind fun v155=>((if v155=true then (some true) else ((qaq k v57.2.1 v17.2.1).bind fun v178=>(some (!v178)))).bind fun v178=>(if (v178 ||
  (!(v57.2.2 == v17.2.2)))=true then (some false) else ((qcn k v57.1 1).bind fun v213=>((qb1 k v57.2.1 v213.1).bind fun v222 =>
  ((qaw k v213.2 1).bind fun v229=>(if (decide (v229<0))=true then (some false) else ((qad k v222.2 v229).bind fun v233=>(if (decide
  (v233<0))=true then (some false) else (if (decide (v233≠v222.1))=true then (some false) else ((wh k a9).bind fun v238 =>
  ((qas d8 v238).bind fun v250=>((qbi k v250.1 v17.1).bind fun v278=>((if (!v278)=true then (some true) else
  ((qaq k v250.2.1 v17.2.1).bind fun v284=>(some (!v284)))).bind fun v284=>(if (v284||(!(v250.2.2 == v17.2.2)))=true then (some false) else
  ((qaw k v213.2 1).bind fun v312=>(if (decide (v312<0))=true then (some false) else ((qad k v222.2 v312).bind fun v316=>(if (decide
  (v316<0))=true then (some false) else (if (decide (v316≠v222.1))=true then (some false) else (some true))))))))))))))))))))))))))))))))))
end Go.Proofs.Ytanblnjomhgphaa.X
