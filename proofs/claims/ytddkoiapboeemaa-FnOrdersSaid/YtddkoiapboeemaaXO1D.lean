/- The seat's types and functions, as plain Lean has them. -/
import Derived.Test.YtddkoiapboeemaaZIns
set_option linter.unusedVariables false
set_option linter.unusedSimpArgs false
set_option maxRecDepth 100000
namespace Go.Proofs.Ytddkoiapboeemaa.X
open Go
open Nat (reduceEqDiff)
structure BoundsError where
 x:Int
 y:Int
 signed:Bool
 code:Int
 deriving DecidableEq,Inhabited
def qpc (x:BoundsError) : List XV:=[.int .i64 x.x,.int .i64 x.y,.bool x.signed,.int .u8 x.code]
structure Call where
 Client:Int
 Object:Int
 Write:Bool
 Value:Int
 Begin:Int
 End:Int
 deriving DecidableEq,Inhabited
def qb (x:Call) : List XV:=[.int .i64 x.Client,.int .i64 x.Object,.bool x.Write,.int .i64 x.Value,.int .i64 x.Begin,.int .i64 x.End]
structure L1Cur where
 code:List Int
 at_:Int
 seed:Int
 deriving DecidableEq,Inhabited
def qyp (x:L1Cur) : List XV:=[lst cU8 x.code,.int .i64 x.at_,.int .u64 x.seed]

def slices_Sort_int (s_0:List Int) : Option (List Int):=qiw s_0

def qu (n_0:Int)(lo_1:Int)(hi_2:Int) : Bool:=((decide (lo_1≤n_0))&&(decide (n_0≤hi_2)))

def ko (x_0:Call) : Bool:=(((((((qu x_0.Client 0 3)&&(qu x_0.Object 0 2))&&(qu x_0.Value 0 9))&&((!x_0.Write)||(decide
  ((0:Int)<x_0.Value))))&&(qu x_0.Begin 0 100))&&(qu x_0.End 0 100))&&(decide (x_0.Begin<x_0.End)))

def kv (x2:Call)(i38:Nat)(x39:Call) : Option (Oc Unit (Oc Unit Bool)):=(if (((decide (x39.Client=x2.Client))&&(decide (x2.Begin<x39.End))) &&
  (decide (x39.Begin<x2.End)))=true then (some (.ret (.ret false))) else (some (.nxt ())))
def qci  : Option (Oc Unit Bool):=(some (.nxt ()))
def kw (l_0:List Call)(i1:Nat)(x2:Call) : Option (Oc Unit Bool):=(if (!(ko x2))=true then (some (.ret false)) else ((sl l_0 0
  (i1:Int)).bind fun l35=>(jn (zk (fun i38 x39 _=>kv x2 i38 x39 ) l35 ()) (fun _=>qci ))))
def qaj (l_0:List Call)  : Option Bool:=(some (decide ((List.length l_0:Int)≤7)))
def jm (l_0:List Call) : Option Bool:=(jn (zk (fun i1 x2 _=>kw l_0 i1 x2 ) l_0 ()) (fun _=>qaj l_0 ))

def wl (object_1:Int)(i24:Nat)(x25:Call)(s19:List Call) : Option (Oc (List Call) ((List Call) × Bool)):=(if (decide
  (x25.Object=object_1))=true then ((ku 48 s19 [x25]).bind fun l62=>(some (.nxt l62))) else (some (.nxt s19)))
def qct (s74:List Call)  : Option ((List Call) × Bool):=(some (s74,true))
def ul (l_0:List Call)(object_1:Int) : Option ((List Call) × Bool):=((jm l_0).bind fun v1=>(if ((!v1)||(!(qu object_1 0 2)))=true then
  (some ([],false)) else (jn (zk (fun i24 x25 s73=>wl object_1 i24 x25 s73) l_0 ([] : (List Call))) (fun s85=>qct s85))))

def ze (n_0:Int)(low_1:Int)(high_2:Int) : Bool:=((decide (low_1≤n_0))&&(decide (n_0≤high_2)))

def yn (x2:Call)(i125:Nat)(x126:Call) : Option (Oc Unit (Oc Unit Bool)):=(if (((decide (x2.Client=x126.Client))&&(decide (x126.Begin<x2.End))) &&
  (decide (x2.Begin<x126.End)))=true then (some (.ret (.ret false))) else (some (.nxt ())))
def qcz  : Option (Oc Unit Bool):=(some (.nxt ()))
def uf (v_0:List Call)(i1:Nat)(x2:Call)(s31:Int)  : Option (Oc Unit Bool):=(if ((((((!(ze x2.Client 0 3))||(!(ze x2.Object 0 2))) ||
  (!(ze x2.Value s31 9)))||(!(ze x2.Begin 0 100)))||(!(ze x2.End 0 100)))||(decide (x2.End≤x2.Begin)))=true then (some (.ret false)) else ((sl v_0 0
  (i1:Int)).bind fun l122=>(jn (zk (fun i125 x126 _=>yn x2 i125 x126 ) l122 ()) (fun _=>qcz ))))
def ym (v_0:List Call)(i1:Nat)(x2:Call) : Option (Oc Unit Bool):=((if x2.Write=true then (some 1) else (some 0)).bind
  (fun s210=>uf v_0 i1 x2 s210))
def qc4 (v_0:List Call)  : Option Bool:=(some (decide ((List.length v_0:Int)≤7)))
def jv (v_0:List Call) : Option Bool:=(jn (zk (fun i1 x2 _=>ym v_0 i1 x2 ) v_0 ()) (fun _=>qc4 v_0 ))

def kj (f_1:Call→Option Bool)(i1:Nat)(x2:Call) : Option (Oc Unit Int):=((f_1 x2).bind fun v23=>(if v23=true then (some (.ret
  (i1:Int))) else (some (.nxt ()))))
def u9  : Option Int:=(some (-1))
def kh (s_0:List Call)(f_1:Call→Option Bool) : Option Int:=(jn (zk (fun i1 x2 _=>kj f_1 i1 x2 ) s_0 ())
  (fun _=>u9 ))

def jg (del_1:Call→Option Bool)(s10:Int)(s11:Int)(s12:List Call) : Option (Oc (Int × Int × (List Call)) (List Call)):=(if (decide (s11 <
  (List.length s12:Int)))=true then ((z2 s12 s11).bind fun x38=>((del_1 x38).bind fun v51=>(if (!v51)=true then ((z2 s12 s10).bind fun x55=>(some (.nxt
  ((IntKind.wrap .i64 (s10+1)),(IntKind.wrap .i64 (s11+1)),(List.set s12 s10.toNat x38))))) else (some (.nxt (s10,(IntKind.wrap .i64 (s11+1)),
  s12)))))) else (some (.brk (s10,s11,s12))))
def kf (s67:Int)(s68:Int)(s69:List Call)  : Option (List Call):=((qhs s69 s67 (Call.mk (0:Int) (0:Int) false (0:Int) (0:Int)
  (0:Int))).bind fun l79=>((sl l79 0 s67).bind fun l88=>(some l88)))
def kz (k:Nat)(s_0:List Call)(del_1:Call→Option Bool) : Option (List Call):=((kh s_0 del_1).bind fun v1=>(if (decide (v1 =
  (-1)))=true then (some s_0) else (jn (yi (fun s66=>jg del_1 s66.1 s66.2.1 s66.2.2) k (v1,(IntKind.wrap .i64 (v1+1)),
  s_0)) (fun s95=>kf s95.1 s95.2.1 s95.2.2))))

def ye (c_0:Call)(cap_0:Int) : Bool:=(decide (c_0.Object≠cap_0))

def qaw (k:Nat)(l_0:List Call)(object_1:Int) : Option ((List Call) × Bool):=((jv l_0).bind fun v7=>(if ((!v7) ||
  (!(ze object_1 0 2)))=true then (some ([],
  false)) else ((ku 48 ([] : List Call) l_0).bind fun l26=>((kz k l26 (fun a0=>some (ye a0 object_1))).bind fun v35=>(some (v35,
  true))))))

def uz (may_1:Int→Int→Option Bool)(x2:Int)(i27:Nat)(x28:Int) : Option (Oc Unit (Oc Unit Bool)):=((may_1 x28 x2).bind fun v54=>(if
  (!v54)=true then (some (.ret (.ret false))) else (some (.nxt ()))))
def qdd  : Option (Oc Unit Bool):=(some (.nxt ()))
def uy (order_0:List Int)(may_1:Int→Int→Option Bool)(i1:Nat)(x2:Int) : Option (Oc Unit Bool):=((sl order_0 0 (i1:Int)).bind fun l24=>(jn (zk
  (fun i27 x28 _=>uz may_1 x2 i27 x28 ) l24 ()) (fun _=>qdd )))
def qdc  : Option Bool:=(some true)
def yv (order_0:List Int)(may_1:Int→Int→Option Bool) : Option Bool:=(jn (zk (fun i1 x2 _=>uy order_0 may_1 i1 x2 ) order_0 ())
  (fun _=>qdc ))

def yf (l_0:List Call)(i11:Nat)(x12:Int)(s10:List Int) : Option (Oc (List Int) Bool):=((z2 l_0 x12).bind fun x34=>(if x34.Write=true then
  ((z2 s10 x34.Object).bind fun x46=>(ck (x34.Object<3) (some (.nxt (List.set s10 x34.Object.toNat x34.Value))))) else ((z2 s10 x34.Object).bind fun x55=>(ck
  (x34.Object<3) (if (decide (x55≠x34.Value))=true then (some (.ret false)) else (some (.nxt s10)))))))
def qdf (s66:List Int)  : Option Bool:=(some true)
def yy (l_0:List Call)(order_1:List Int) : Option Bool:=(jn (zk (fun i11 x12 s65=>yf l_0 i11 x12 s65) order_1 [(0:Int),(0:Int),
  (0:Int)]) (fun s73=>qdf s73))

def jt (v_1:Int)(i1:Nat)(x2:Int) : Option (Oc Unit Int):=(if (decide (v_1=x2))=true then (some (.ret (i1:Int))) else (some (.nxt ())))
def qbq  : Option Int:=(some (-1))
def wu (s_0:List Int)(v_1:Int) : Option Int:=(jn (zk (fun i1 x2 _=>jt v_1 i1 x2 ) s_0 ()) (fun _=>qbq ))

def yj (s_0:List Int)(v_1:Int) : Option Bool:=((wu s_0 v_1).bind fun v1=>(some (decide ((0:Int)≤v1))))

def yw (order_0:List Int)(cap_0:List Call)(cap_1:Int→Int→Option Bool) (rec:(List Int)→(List Call)→(Int→Int→Option Bool)→Option
  ((List Int) × Bool)) (i2:Nat) : Option (Oc Unit ((List Int) × Bool)):=((ku 8 ([] : List Int) order_0).bind fun l32=>((ku 8 l32 [(i2:Int)]).bind fun l47 =>
  ((yj order_0 (i2:Int)).bind fun v56=>((if v56=true then (some true) else ((yy cap_0 l47).bind fun v62=>(some (!v62)))).bind fun v62 =>
  ((if v62=true then (some true) else ((yv l47 cap_1).bind fun v84=>(some (!v84)))).bind fun v84=>(if v84=true then (some (.nxt ())) else
  ((rec l47 cap_0 cap_1).bind fun v105=>(if v105.2=true then (some (.ret (v105.1,true))) else (some (.nxt ()))))))))))
def qb8  : Option ((List Int) × Bool):=(some ([],false))
def yl (rec:(List Int)→(List Call)→(Int→Int→Option Bool)→Option ((List Int) × Bool))(order_0:List Int)(cap_0:List Call)
  (cap_1:Int→Int→Option Bool) : Option ((List Int) × Bool):=(if (decide ((List.length order_0:Int)=(List.length cap_0:Int)))=true then (some (order_0,
  true)) else (jn (ua (fun i2 _=>yw order_0 cap_0 cap_1 rec i2 ) (List.length cap_0:Int) ()) (fun _=>qb8 )))
def kd:Nat→(List Int)→(List Call)→(Int→Int→Option Bool)→Option ((List Int) × Bool)
 | 0,_,_,_=>none
 | k+1,order_0,cap_0,cap_1=>yl (kd k) order_0 cap_0 cap_1

def wb (k:Nat)(l_0:List Call)(may_1:Int→Int→Option Bool) : Option ((List Int) × Bool):=((kd k ([] : List Int) l_0 may_1).bind fun v25 =>
  (some (v25.1,v25.2)))

def k6 (a_0:Int)(b_1:Int)(cap_0:List Call) : Option Bool:=((z2 cap_0 b_1).bind fun x1=>((z2 cap_0 a_0).bind fun x4=>(some (decide
  (x4.Begin<x1.End)))))



def qav (k:Nat)(l_0:List Call) : Option ((List Int) × Bool):=((jv l_0).bind fun v1=>(if (!v1)=true then (some ([],
  false)) else ((wb k l_0 (fun a0 a1=>k6 a0 a1 l_0)).bind fun v5=>(some (v5.1,v5.2)))))

def qal (n_1:Int)(i1:Nat)(x2:Int) : Option (Oc Unit Bool):=(if (decide (x2=n_1))=true then (some (.ret true)) else (some (.nxt ())))
def qek  : Option Bool:=(some false)
def ud (l_0:List Int)(n_1:Int) : Option Bool:=(jn (zk (fun i1 x2 _=>qal n_1 i1 x2 ) l_0 ()) (fun _=>qek ))

def uj (n_0:Int)(order_1:List Int)(i1:Nat)(x2:Int) : Option (Oc Unit Bool):=((if ((decide (x2<0))||(decide (n_0≤x2)))=true then
  (some true) else ((sl order_1 0 (i1:Int)).bind fun l41=>((ud l41 x2).bind fun v44=>(some v44)))).bind fun v41=>(if v41=true then (some (.ret false)) else
  (some (.nxt ()))))
def qay (n_0:Int)(order_1:List Int)  : Option Bool:=(some (decide ((List.length order_1:Int)=n_0)))
def wc (n_0:Int)(order_1:List Int) : Option Bool:=(jn (zk (fun i1 x2 _=>uj n_0 order_1 i1 x2 ) order_1 ())
  (fun _=>qay n_0 order_1 ))

def wh (a_0:Call)(b_1:Call)(clients_2:Bool) : Option Bool:=(if clients_2=true then (some ((decide (a_0.Client=b_1.Client))&&(decide
  (a_0.Begin<b_1.Begin)))) else (some (decide (a_0.End≤b_1.Begin))))

def yd (l_0:List Call)(x23:Int)(i48:Nat)(x49:Int) : Option (Oc Unit (Oc Unit (Bool × Bool))):=((z2 l_0 x49).bind fun x75 =>
  ((z2 l_0 x23).bind fun x78=>((wh x75 x78 false).bind fun v81=>(if v81=true then (some (.ret (.ret (false,true)))) else (some (.nxt ()))))))
def qa8  : Option (Oc Unit (Bool × Bool)):=(some (.nxt ()))
def j7 (l_0:List Call)(order_1:List Int)(i22:Nat)(x23:Int) : Option (Oc Unit (Bool × Bool)):=((sl order_1 (IntKind.wrap .i64 ((i22:Int)+1))
  (List.length order_1)).bind fun l45=>(jn (zk (fun i48 x49 _=>yd l_0 x23 i48 x49 ) l45 ()) (fun _=>qa8 )))
def wg  : Option (Bool × Bool):=(some (true,true))
def xv (l_0:List Call)(order_1:List Int) : Option (Bool × Bool):=((jm l_0).bind fun v1=>((if (!v1)=true then (some true) else
  ((wc (List.length l_0:Int) order_1).bind fun v7=>(some (!v7)))).bind fun v7=>(if v7=true then (some (false,
  false)) else (jn (zk (fun i22 x23 _=>j7 l_0 order_1 i22 x23 ) order_1 ()) (fun _=>wg )))))

def w6 (list_0:List Int)(many_1:Int)(i1:Nat)(x2:Int) : Option (Oc Unit Bool):=((if (!(ze x2 0 (IntKind.wrap .i64 (many_1 - 1))))=true then
  (some true) else ((if (decide ((0:Int)<(i1:Int)))=true then ((z2 list_0 (IntKind.wrap .i64 ((i1:Int) - 1))).bind fun x30=>(some (decide (x2≤x30)))) else
  (some false)).bind fun v30=>(some v30))).bind fun v27=>(if v27=true then (some (.ret false)) else (some (.nxt ()))))
def qb9  : Option Bool:=(some true)
def xd (list_0:List Int)(many_1:Int) : Option Bool:=(jn (zk (fun i1 x2 _=>w6 list_0 many_1 i1 x2 ) list_0 ())
  (fun _=>qb9 ))

def wq (l_0:List Call)(order_1:List Int) : Option Bool:=((ku 8 ([] : List Int) order_1).bind fun l7=>((slices_Sort_int l7).bind fun v16=>((if (decide
  ((List.length order_1:Int)=(List.length l_0:Int)))=true then ((xd v16 (List.length l_0:Int)).bind fun v26=>(some v26)) else
  (some false)).bind fun v26=>(some v26))))

def ka (a_0:Int)(b_1:Int)(cap_0:List Call) : Option Bool:=((z2 cap_0 b_1).bind fun x1=>((z2 cap_0 a_0).bind fun x4=>(some (decide
  (x4.Begin<x1.End)))))

def xw (l_0:List Call)(order_1:List Int) : Option (Bool × Bool):=((jv l_0).bind fun v7=>((if (!v7)=true then (some true) else
  ((wq l_0 order_1).bind fun v13=>(some (!v13)))).bind fun v13=>(if v13=true then (some (false,
  false)) else ((yv order_1 (fun a0 a1=>ka a0 a1 l_0)).bind fun v28=>(some (v28,true))))))

def jf (l_0:List Call)(i16:Nat)(x17:Int)(s13:List Int) : Option (Oc (List Int) Bool):=((z2 l_0 x17).bind fun x39=>(if x39.Write=true then
  ((z2 s13 x39.Object).bind fun x51=>(some (.nxt (List.set s13 x39.Object.toNat x39.Value)))) else ((z2 s13 x39.Object).bind fun x62=>(if (decide
  (x62≠x39.Value))=true then (some (.ret false)) else (some (.nxt s13))))))
def qcu (s73:List Int)  : Option Bool:=(some true)
def jl (l_0:List Call)(order_1:List Int) : Option Bool:=((mkN 8 3 (0:Int)).bind fun l1=>(jn (zk
  (fun i16 x17 s72=>jf l_0 i16 x17 s72) order_1 l1) (fun s82=>qcu s82)))

def qbb (l_0:List Call)(order_1:List Int) : Option (Bool × Bool):=((jm l_0).bind fun v1=>((if (!v1)=true then (some true) else ((wc
  (List.length l_0:Int) order_1).bind fun v7=>(some (!v7)))).bind fun v7=>(if v7=true then (some (false,
  false)) else ((jl l_0 order_1).bind fun v22=>(some (v22,true))))))

def qbp (l_0:List Call)(order_1:List Int) : Option (Bool × Bool):=((jv l_0).bind fun v1=>((if (!v1)=true then (some true) else
  ((wq l_0 order_1).bind fun v7=>(some (!v7)))).bind fun v7=>(if v7=true then (some (false,false)) else ((yy l_0 order_1).bind fun v22=>(some (v22,
  true))))))

def yu (x8:Call)(i43:Nat)(x44:Call)(s42:Int) : Option (Oc Int (Oc Int (Int × Bool))):=(if ((decide (x8.Begin<x44.End))&&(decide
  (x44.Begin<x8.End)))=true then (some (.nxt (IntKind.wrap .i64 (s42+1)))) else (some (.nxt s42)))
def qce (s98:Int)  : Option (Oc Int (Int × Bool)):=(some (.nxt s98))
def k9 (l_0:List Call)(i7:Nat)(x8:Call)(s6:Int) : Option (Oc Int (Int × Bool)):=((sl l_0 0 (i7:Int)).bind fun l38=>(jn (zk
  (fun i43 x44 s97=>yu x8 i43 x44 s97) l38 s6) (fun s110=>qce s110)))
def qcb (s112:Int)  : Option (Int × Bool):=(some (s112,true))
def xh (l_0:List Call) : Option (Int × Bool):=((jv l_0).bind fun v1=>(if (!v1)=true then (some (0,
  false)) else (jn (zk (fun i7 x8 s111=>k9 l_0 i7 x8 s111) l_0 0) (fun s119=>qcb s119))))

def w7 (v_1:List Int)(v_2:Bool)(i6:Nat)(x7:Call)(i43:Nat)(x44:Call)(s42:Bool) : Option (Oc Bool (Oc Unit (List Int))):=((if (decide
  ((i43:Int)≠(i6:Int)))=true then ((ud v_1 (i43:Int)).bind fun v84=>(some (!v84))) else (some false)).bind fun v84=>((if v84=true then
  ((wh x44 x7 v_2).bind fun v112=>(some v112)) else (some false)).bind fun v112=>(if v112=true then (some (.nxt false)) else (some (.nxt s42)))))
def qbi (v_0:List Call)(v_1:List Int)(v_2:Bool)(rec:(List Call)→(List Int)→Bool→Option (List Int))(i6:Nat)(s140:Bool)  : Option (Oc Unit
  (List Int)):=(if (!s140)=true then (some (.nxt ())) else ((ku 8 ([] : List Int) v_1).bind fun l162=>((ku 8 l162 [(i6:Int)]).bind fun l177 =>
  ((rec v_0 l177 v_2).bind fun v186=>(if (decide ((0:Int)<(List.length v186:Int)))=true then (some (.ret v186)) else (some (.nxt ())))))))
def xa (v_0:List Call)(v_1:List Int)(v_2:Bool)(rec:(List Call)→(List Int)→Bool→Option (List Int))(i6:Nat)(x7:Call) : Option (Oc Unit
  (List Int)):=((ud v_1 (i6:Int)).bind fun v38=>(jn (zk (fun i43 x44 s139=>w7 v_1 v_2 i6 x7 i43 x44 s139) v_0 (!v38))
  (fun s200=>qbi v_0 v_1 v_2 rec i6 s200)))
def qdh  : Option (List Int):=(some [])
def wk (rec:(List Call)→(List Int)→Bool→Option (List Int))(v_0:List Call)(v_1:List Int)(v_2:Bool) : Option (List Int) :=
  ((jl v_0 v_1).bind fun v1=>(if (!v1)=true then (some []) else (if (decide ((List.length v_1:Int)=(List.length v_0:Int)))=true then (some v_1) else (jn
  (zk (fun i6 x7 _=>xa v_0 v_1 v_2 rec i6 x7 ) v_0 ()) (fun _=>qdh )))))
def kn:Nat→(List Call)→(List Int)→Bool→Option (List Int)
 | 0,_,_,_=>none
 | k+1,v_0,v_1,v_2=>wk (kn k) v_0 v_1 v_2

def qan (k:Nat)(l_0:List Call) : Option ((List Int) × Bool):=((jm l_0).bind fun v1=>(if (!v1)=true then (some ([],
  false)) else ((kn k l_0 [] false).bind fun v5=>(if (decide ((List.length v5:Int)≠(List.length l_0:Int)))=true then (some ([],false)) else (some (v5,
  true))))))

def qbg (c_0:L1Cur)(s1:Int)  : Option (Int × L1Cur):=(if (decide ((IntKind.wrap .i64 (c_0.at_+1))≤(List.length c_0.code:Int)))=true then (some (s1,
  (L1Cur.mk c_0.code (IntKind.wrap .i64 (c_0.at_+1)) (IntKind.wrap .u64 ((IntKind.wrap .u64 ((IntKind.wrap .u64 (c_0.seed*6364136223846793005)) +
  (IntKind.wrap .u64 s1)))+1442695040888963407))))) else (some ((IntKind.wrap .i64 (qhh .u64 (qkw .u64 (IntKind.wrap .u64 ((IntKind.wrap .u64 ((IntKind.wrap .u64
  (c_0.seed*6364136223846793005))+(IntKind.wrap .u64 s1)))+1442695040888963407)) 40) 255)),
  (L1Cur.mk c_0.code (IntKind.wrap .i64 (c_0.at_+1)) (IntKind.wrap .u64 ((IntKind.wrap .u64 ((IntKind.wrap .u64 (c_0.seed*6364136223846793005)) +
  (IntKind.wrap .u64 s1)))+1442695040888963407))))))
def qa7 (c_0:L1Cur) : Option (Int × L1Cur):=((if (decide (c_0.at_<(List.length c_0.code:Int)))=true then ((z2 c_0.code c_0.at_).bind fun x10=>(some
  (IntKind.wrap .i64 x10))) else (some 0)).bind (fun s25=>qbg c_0 s25))

def ju (c_0:L1Cur)(n_1:Int) : Option (Int × L1Cur):=(if (decide (n_1≤1))=true then (some (0,
  c_0)) else ((qa7 c_0).bind fun v2=>(if (decide ((200:Int)<n_1))=true then ((qa7 v2.2).bind fun v8=>(ck (n_1≠0) (some ((Int.tmod (IntKind.wrap .i64
  ((IntKind.wrap .i64 (v2.1*256))+v8.1)) n_1),v8.2)))) else (ck (n_1≠0) (some ((Int.tmod v2.1 n_1),v2.2))))))

def xn (c_0:L1Cur)(n_1:Int) : Option (Bool × L1Cur):=((ju c_0 n_1).bind fun v1=>(some ((decide (v1.1=0)),v1.2)))

def qa9 (c_0:L1Cur)(list_1:List Int) : Option (Int × L1Cur × (List Int)):=((ju c_0 (List.length list_1:Int)).bind fun v1 =>
  ((z2 list_1 v1.1).bind fun x6=>(some (x6,v1.2,list_1))))

def qar (s70:List Call)(s76:Int)(s78:List Int)(s177:Int)(s178:Call)(s211:List Int)(s265:L1Cur)(s266:Call)  : Option (Oc
  ((List Call) × Int × Int × L1Cur × (List Int) × (List Int)) ((List Call) × L1Cur)):=((ku 48 s70 [s266]).bind fun l305=>(some (.nxt (l305,s177,
  (IntKind.wrap .i64 (s76 - 1)),s265,(List.set s78 s178.Client.toNat s178.End),s211))))
def qao (s70:List Call)(s76:Int)(s78:List Int)(s177:Int)(s178:Call)(s210:L1Cur)(s211:List Int)(s214:Call)  : Option (Oc
  ((List Call) × Int × Int × L1Cur × (List Int) × (List Int)) ((List Call) × L1Cur)):=((xn s210 8).bind fun v260=>((if v260.1=true then
  ((ju v260.2 5).bind fun v276=>(if s214.Write=true then (some (v276.2,
  (Call.mk s214.Client s214.Object s214.Write (IntKind.wrap .i64 (v276.1+1)) s214.Begin s214.End))) else (some (v276.2,
  (Call.mk s214.Client s214.Object s214.Write v276.1 s214.Begin s214.End))))) else (some (v260.2,
  s214))).bind (fun s315=>qar s70 s76 s78 s177 s178 s211 s315.1 s315.2)))
def qax (s70:List Call)(s76:Int)(s78:List Int)(s81:List Int)(v170:Int × L1Cur)(s177:Int)(s178:Call)  : Option (Oc ((List Call) × Int × Int × L1Cur ×
  (List Int) × (List Int)) ((List Call) × L1Cur)):=((z2 s78 s178.Client).bind fun x202=>((if s178.Write=true then ((ju v170.2 4).bind fun v224 =>
  ((z2 s81 s178.Object).bind fun x231=>(some (v224.2,(List.set s81 s178.Object.toNat (IntKind.wrap .i64 ((1:Int)+v224.1))),
  (Call.mk s178.Client s178.Object s178.Write (IntKind.wrap .i64 ((1:Int)+v224.1)) s178.Begin s178.End))))) else ((z2 s81 s178.Object).bind fun x242=>(some (v170.2,s81,
  (Call.mk s178.Client s178.Object s178.Write x242 s178.Begin s178.End))))).bind (fun s316=>qao s70 s76 s78 s177 s178 s316.1 s316.2.1 s316.2.2)))
def qas (s70:List Call)(s75:Int)(s76:Int)(s78:List Int)(s81:List Int)(v109:Int × L1Cur)(v135:Int × L1Cur)(s147:Call)  : Option (Oc
  ((List Call) × Int × Int × L1Cur × (List Int) × (List Int)) ((List Call) × L1Cur)):=((ju v135.2 5).bind fun v170=>((if (decide ((IntKind.wrap .i64 (s75 +
  (IntKind.wrap .i64 ((1:Int)+v109.1))))<s147.Begin))=true then (some (s147.Begin,
  (Call.mk s147.Client s147.Object s147.Write s147.Value s147.Begin (IntKind.wrap .i64 (s147.Begin+1))))) else (some ((IntKind.wrap .i64 (s75+(IntKind.wrap .i64
  ((1:Int)+v109.1)))),(Call.mk s147.Client s147.Object s147.Write s147.Value s147.Begin (IntKind.wrap .i64 ((IntKind.wrap .i64 ((IntKind.wrap .i64 (s75 +
  (IntKind.wrap .i64 ((1:Int)+v109.1))))+1))+v170.1)))))).bind (fun s317=>qax s70 s76 s78 s81 v170 s317.1 s317.2)))
def y8 (s70:List Call)(s75:Int)(s76:Int)(s77:L1Cur)(s78:List Int)(s81:List Int) : Option (Oc ((List Call) × Int × Int × L1Cur × (List Int) ×
  (List Int)) ((List Call) × L1Cur)):=(if (decide ((0:Int)<s76))=true then ((ju s77 4).bind fun v109=>((ju v109.2 4).bind fun v114 =>
  ((ju v114.2 2).bind fun v119=>((xn v119.2 2).bind fun v124=>((ju v124.2 4).bind fun v135=>((z2 s78 v114.1).bind fun x142=>((if (decide
  ((IntKind.wrap .i64 ((IntKind.wrap .i64 (s75+(IntKind.wrap .i64 ((1:Int)+v109.1)))) - v135.1))<x142))=true then (some (Call.mk v114.1 v119.1 v124.1 0 x142 0)) else
  (some (Call.mk v114.1 v119.1 v124.1 0 (IntKind.wrap .i64 ((IntKind.wrap .i64 (s75+(IntKind.wrap .i64 ((1:Int)+v109.1)))) - v135.1)) 0))).bind
  (fun s318=>qas s70 s75 s76 s78 s81 v109 v135 s318)))))))) else (some (.brk (s70,s75,s76,s77,s78,s81))))
def qam (s321:List Call)(s344:Bool)(s345:L1Cur)  : Option ((List Call) × L1Cur):=(if s344=true then ((qa9 s345 [0,100,
  101]).bind fun v375=>((z2 s321 (0:Int)).bind fun x382=>(some ((List.set s321 (0:Int).toNat
  (Call.mk x382.Client x382.Object x382.Write x382.Value x382.Begin v375.1)),v375.2.1)))) else (some (s321,s345)))
def qap (s321:List Call)(s326:Int)(s327:Int)(s328:L1Cur)(s329:List Int)(s332:List Int)  : Option ((List Call) × L1Cur):=((if (decide ((0:Int) <
  (List.length s321:Int)))=true then ((xn s328 30).bind fun v355=>(some (v355.1,v355.2))) else (some (false,
  s328))).bind (fun s392=>qam s321 s392.1 s392.2))
def qcg (k:Nat)(l1:List Int)(l10:List Int)(s29:Int)(s30:L1Cur)  : Option ((List Call) × L1Cur):=(jn (yi
  (fun s320=>y8 s320.1 s320.2.1 s320.2.2.1 s320.2.2.2.1 s320.2.2.2.2.1 s320.2.2.2.2.2) k (([],0,s29,s30,l1,
  l10) : (List Call) × Int × Int × L1Cur × (List Int) × (List Int))) (fun s393=>qap s393.1 s393.2.1 s393.2.2.1 s393.2.2.2.1 s393.2.2.2.2.1 s393.2.2.2.2.2))
def uc (k:Nat)(v_0:L1Cur) : Option ((List Call) × L1Cur):=((mkN 8 4 (0:Int)).bind fun l1=>((mkN 8 3 (0:Int)).bind fun l10 =>
  ((ju v_0 8).bind fun v19=>((xn v19.2 20).bind fun v24=>((if v24.1=true then ((ju v24.2 2).bind fun v40=>(some ((IntKind.wrap .i64
  ((7:Int)+v40.1)),v40.2))) else (some (v19.1,v24.2))).bind (fun s394=>qcg k l1 l10 s394.1 s394.2))))))

def w8 (n_1:Int)(s7:List Int)(s12:Int) : Option (Oc ((List Int) × Int) ((List Int) × L1Cur)):=(if (decide (s12<n_1))=true then
  ((ku 8 s7 [s12]).bind fun l43=>(some (.nxt (l43,(IntKind.wrap .i64 (s12+1)))))) else (some (.brk (s7,s12))))
def w9 (s80:List Int)(s85:List Int)(s90:L1Cur) : Option (Oc ((List Int) × (List Int) × L1Cur) ((List Int) × L1Cur)):=(if (decide ((0:Int) <
  (List.length s80:Int)))=true then ((ju s90 (List.length s80:Int)).bind fun v114=>((z2 s80 v114.1).bind fun x119=>((ku 8 s85 [x119]).bind fun l130 =>
  ((sl s80 0 v114.1).bind fun l146=>((ku 8 ([] : List Int) l146).bind fun l153=>((sl s80 (IntKind.wrap .i64 (v114.1+1)) (List.length s80)).bind fun l162 =>
  ((ku 8 l153 l162).bind fun l169=>(some (.nxt (l169,l130,v114.2)))))))))) else (some (.brk (s80,s85,s90))))
def uw (n_1:Int)(s186:List Int)(s199:Bool)(s200:L1Cur)  : Option ((List Int) × L1Cur):=(if s199=true then ((ju s200 (IntKind.wrap .i64
  (n_1+1))).bind fun v225=>((z2 s186 (0:Int)).bind fun x230=>(some ((List.set s186 (0:Int).toNat v225.1),v225.2)))) else (some (s186,s200)))
def ux (n_1:Int)(s181:List Int)(s186:List Int)(s191:L1Cur)  : Option ((List Int) × L1Cur):=((if (decide ((0:Int)<n_1))=true then
  ((xn s191 30).bind fun v210=>(some (v210.1,v210.2))) else (some (false,s191))).bind (fun s240=>uw n_1 s186 s240.1 s240.2))
def qbd (k:Nat)(c_0:L1Cur)(n_1:Int)(s55:List Int)(s60:Int)  : Option ((List Int) × L1Cur):=(jn (yi
  (fun s180=>w9 s180.1 s180.2.1 s180.2.2) k ((s55,[],c_0) : (List Int) × (List Int) × L1Cur)) (fun s241=>ux n_1 s241.1 s241.2.1 s241.2.2))
def qac (k:Nat)(c_0:L1Cur)(n_1:Int) : Option ((List Int) × L1Cur):=(jn (yi (fun s54=>w8 n_1 s54.1 s54.2) k (([],
  0) : (List Int) × Int)) (fun s242=>qbd k c_0 n_1 s242.1 s242.2))

def yk (k:Nat)(v5:(List Call) × L1Cur)(v14:(List Int) × Bool)(s26:Bool)(s27:L1Cur)  : Option ((List Call) × (List Int)):=(if s26=true then
  (some (v5.1,v14.1)) else ((qac k s27 (List.length v5.1:Int)).bind fun v52=>(some (v5.1,v52.1))))
def wm (k:Nat)(code_0:List Int) : Option ((List Call) × (List Int)):=((uc k (L1Cur.mk code_0 0 0)).bind fun v5 =>
  ((qan k v5.1).bind fun v14=>((if v14.2=true then ((xn v5.2 2).bind fun v37=>(some (v37.1,v37.2))) else (some (false,
  v5.2))).bind (fun s61=>yk k v5 v14 s61.1 s61.2))))

def we (k:Nat)(code_0:List Int) : Option ((List Call) × Int):=((uc k (L1Cur.mk code_0 0 0)).bind fun v5=>((ju v5.2 5).bind fun v14=>(some
  (v5.1,(IntKind.wrap .i64 (v14.1 - 1))))))

def wd (b_1:List Call)(i2:Nat)(x3:Call) : Option (Oc Unit Bool):=((z2 b_1 (i2:Int)).bind fun x24=>(if (!((x3.Client == x24.Client) &&
  ((x3.Object == x24.Object)&&((x3.Write == x24.Write)&&((x3.Value == x24.Value)&&((x3.Begin == x24.Begin)&&((x3.End == x24.End)&&true)))))))=true then (some
  (.ret false)) else (some (.nxt ()))))
def qcj  : Option Bool:=(some true)
def ub (a_0:List Call)(b_1:List Call) : Option Bool:=(if (decide ((List.length a_0:Int)≠(List.length b_1:Int)))=true then (some false) else (jn (zk
  (fun i2 x3 _=>wd b_1 i2 x3 ) a_0 ()) (fun _=>qcj )))

def wj (v2:(List Call) × (List Int))(v108:(List Int) × Bool)(i135:Nat) : Option (Oc Unit (Oc Unit Bool)):=((z2 v108.1 (i135:Int)).bind fun x161 =>
  ((z2 v2.2 (i135:Int)).bind fun x166=>(if (decide (x161≠x166))=true then (if (decide (x166<x161))=true then (some (.ret (.ret false))) else (some (.brk
  ()))) else (some (.nxt ())))))
def qcy  : Option (Oc Unit Bool):=(some (.nxt ()))
def ug (k:Nat)(v_1:List Int)  : Option Bool:=((we k v_1).bind fun v244=>((qaw k v244.1 v244.2).bind fun v247 =>
  ((ul v244.1 v244.2).bind fun v259=>((if (v247.2 == v259.2)=true then ((ub v247.1 v259.1).bind fun v265=>(some v265)) else
  (some false)).bind fun v265=>(some v265)))))
def wn (k:Nat)(v_1:List Int)(v2:(List Call) × (List Int))(v24:Bool × Bool)  : Option Bool:=(jn (if (v24.2&&(!v24.1))=true then
  ((xh v2.1).bind fun v216=>(if ((!v216.2)||((decide ((1:Int)<(List.length v2.1:Int)))&&(decide (v216.1=(IntKind.wrap .i64 (Int.tdiv
  (IntKind.wrap .i64 ((List.length v2.1:Int)*(IntKind.wrap .i64 ((List.length v2.1:Int) - 1)))) 2))))))=true then (some (.ret false)) else (some (.nxt ())))) else (some
  (.nxt ()))) (fun _=>ug k v_1 ))
def um (k:Nat)(v_0:List Int)(v_1:List Int) : Option Bool:=(if (decide ((1048576:Int)<(IntKind.wrap .i64 ((List.length v_0:Int) +
  (List.length v_1:Int)))))=true then (some true) else ((wm k v_0).bind fun v2=>((qbp v2.1 v2.2).bind fun v18 =>
  ((qbb v2.1 v2.2).bind fun v21=>((xw v2.1 v2.2).bind fun v24=>((xv v2.1 v2.2).bind fun v27=>(if ((((!(v18.2 == v21.2)) ||
  (!(v18.1 == v21.1)))||(!(v24.2 == v27.2)))||(!(v24.1 == v27.1)))=true then (some false) else (jn (if ((v18.2&&v18.1)&&v24.1)=true then
  ((qav k v2.1).bind fun v108=>(if ((!v108.2)||(decide ((List.length v108.1:Int)≠(List.length v2.2:Int))))=true then (some (.ret false)) else (jn (ua
  (fun i135 _=>wj v2 v108 i135 ) (List.length v108.1:Int) ()) (fun _=>qcy )))) else (some (.nxt ())))
  (fun _=>wn k v_1 v2 v24 )))))))))
end Go.Proofs.Ytddkoiapboeemaa.X
