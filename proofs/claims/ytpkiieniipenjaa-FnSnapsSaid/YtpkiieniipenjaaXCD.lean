/- The seat's types and functions, as plain Lean has them. -/
import Derived.Test.YtpkiieniipenjaaZSlW
set_option linter.unusedVariables false
set_option linter.unusedSimpArgs false
set_option maxRecDepth 100000
namespace Go.Proofs.Ytpkiieniipenjaa.X
open Go
open Nat (reduceEqDiff)
structure BoundsError where
 x:Int
 y:Int
 signed:Bool
 code:Int
 deriving DecidableEq,Inhabited
def BoundsError.cells (x:BoundsError) : List XV:=[.int .i64 x.x,.int .i64 x.y,.bool x.signed,.int .u8 x.code]
structure Chan where
 From:Int
 To:Int
 Way:List Int
 deriving DecidableEq,Inhabited
def Chan.cells (x:Chan) : List XV:=[.int .i64 x.From,.int .i64 x.To,lst cI x.Way]
structure Picture where
 Taken:Bool
 Amount:Int
 In:List Int
 Closed:List Bool
 deriving DecidableEq,Inhabited
def Picture.cells (x:Picture) : List XV:=[.bool x.Taken,.int .i64 x.Amount,lst cI x.In,lst cB x.Closed]
structure Snap where
 Amounts:List Int
 Chans:List Chan
 Pictures:List Picture
 Sent:Int
 Total:Int
 deriving DecidableEq,Inhabited
def Snap.cells (x:Snap) : List XV:=[lst cI x.Amounts,lst Chan.cells x.Chans,lst Picture.cells x.Pictures,.int .i64 x.Sent,.int .i64 x.Total]
structure SnapStep where
 Kind:Int
 K:Int
 N:Int
 deriving DecidableEq,Inhabited
def SnapStep.cells (x:SnapStep) : List XV:=[.int .i64 x.Kind,.int .i64 x.K,.int .i64 x.N]
structure L1Cur where
 code:List Int
 at_:Int
 seed:Int
 deriving DecidableEq,Inhabited
def L1Cur.cells (x:L1Cur) : List XV:=[lst cU8 x.code,.int .i64 x.at_,.int .u64 x.seed]

def qbj (b_1:List Bool)(i2:Nat)(x3:Bool) : Option (Oc Unit Bool):=((zt b_1 (i2:Int)).bind fun x24=>(if (!(x3 == x24))=true then (some
  (.ret false)) else (some (.nxt ()))))
def qf4  : Option Bool:=(some true)
def qbx (a_0:List Bool)(b_1:List Bool) : Option Bool:=(if (decide ((List.length a_0:Int)≠(List.length b_1:Int)))=true then (some false) else (jn (jk
  (fun i2 x3 _=>qbj b_1 i2 x3 ) a_0 ()) (fun _=>qf4 )))

def qaq (b_1:List Int)(i2:Nat)(x3:Int) : Option (Oc Unit Bool):=((zt b_1 (i2:Int)).bind fun x24=>(if (decide (x3≠x24))=true then (some
  (.ret false)) else (some (.nxt ()))))
def qgu  : Option Bool:=(some true)
def xk (a_0:List Int)(b_1:List Int) : Option Bool:=(if (decide ((List.length a_0:Int)≠(List.length b_1:Int)))=true then (some false) else (jn (jk
  (fun i2 x3 _=>qaq b_1 i2 x3 ) a_0 ()) (fun _=>qgu )))

def qbi (v_0:Snap)(v_1:Snap)(i53:Nat) : Option (Oc Unit Bool):=((zt v_0.Chans (i53:Int)).bind fun x75=>((zt v_1.Chans (i53:Int)).bind fun x78 =>
  ((if (decide (x75.From≠x78.From))=true then (some true) else ((zt v_0.Chans (i53:Int)).bind fun x84=>((zt v_1.Chans (i53:Int)).bind fun x87=>(some (decide
  (x84.To≠x87.To)))))).bind fun v84=>(if v84=true then (some (.ret false)) else ((zt v_0.Chans (i53:Int)).bind fun x108=>((zt v_1.Chans
  (i53:Int)).bind fun x111=>((xk x108.Way x111.Way).bind fun v114=>(if (!v114)=true then (some (.ret false)) else (some (.nxt ()))))))))))
def qbk (v_0:Snap)(v_1:Snap)(i128:Nat) : Option (Oc Unit Bool):=((zt v_0.Pictures (i128:Int)).bind fun x150=>((zt v_1.Pictures
  (i128:Int)).bind fun x161=>((if ((!(x150.Taken == x161.Taken))||(decide (x150.Amount≠x161.Amount)))=true then (some true) else
  ((xk x150.In x161.In).bind fun v188=>(some (!v188)))).bind fun v188=>((if v188=true then (some true) else
  ((qbx x150.Closed x161.Closed).bind fun v209=>(some (!v209)))).bind fun v209=>(if v209=true then (some (.ret false)) else (some (.nxt ())))))))
def qf3  : Option Bool:=(some true)
def qde (v_0:Snap)(v_1:Snap)  : Option Bool:=(jn (w8 (fun i128 _=>qbk v_0 v_1 i128 ) (List.length v_0.Pictures:Int) ())
  (fun _=>qf3 ))
def um (v_0:Snap)(v_1:Snap) : Option Bool:=((xk v_0.Amounts v_1.Amounts).bind fun v13=>(if (((((!v13)||(decide (v_0.Sent≠v_1.Sent))) ||
  (decide (v_0.Total≠v_1.Total)))||(decide ((List.length v_0.Chans:Int)≠(List.length v_1.Chans:Int))))||(decide ((List.length v_0.Pictures:Int) ≠
  (List.length v_1.Pictures:Int))))=true then (some false) else (jn (w8 (fun i53 _=>qbi v_0 v_1 i53 ) (List.length v_0.Chans:Int) ())
  (fun _=>qde v_0 v_1 ))))

def zx (n_0:Int)(low_1:Int)(high_2:Int) : Bool:=((decide (low_1≤n_0))&&(decide (n_0≤high_2)))

def qej (i37:Nat)(l67:List Int)(l102:List Picture)(i123:Nat)(s118:Snap) : Option (Oc Snap (Oc Snap Snap)):=(if (decide ((i123:Int) ≠
  (i37:Int)))=true then ((ye 40 s118.Chans ([(Chan.mk (i37:Int) (i123:Int) [])])).bind fun l157=>(some (.nxt (Snap.mk l67 l157 l102 s118.Sent s118.Total)))) else
  (some (.nxt (Snap.mk l67 s118.Chans l102 s118.Sent s118.Total))))
def qhe (l67:List Int)(l102:List Picture)(s171:Snap)  : Option (Oc Snap Snap):=(some (.nxt (Snap.mk l67 s171.Chans l102 s171.Sent s171.Total)))
def qef (procs_0:Int)(amount_1:Int)(i37:Nat)(s24:Snap) : Option (Oc Snap Snap):=((ye 8 s24.Amounts [amount_1]).bind fun l67=>((mkN 8 procs_0
  (0:Int)).bind fun l78=>((mkN 1 procs_0 false).bind fun l87=>((ye 64 s24.Pictures [(Picture.mk false 0 l78 l87)]).bind fun l102=>(jn (w8
  (fun i123 s170=>qej i37 l67 l102 i123 s170) procs_0 (Snap.mk l67 s24.Chans l102 s24.Sent s24.Total)) (fun s187=>qhe l67 l102 s187))))))
def qhc (s189:Snap)  : Option Snap:=(some s189)
def wd (procs_0:Int)(amount_1:Int) : Option Snap:=(jn (w8 (fun i37 s188=>qef procs_0 amount_1 i37 s188) procs_0 (Snap.mk [] [] [] 0
  (IntKind.wrap .i64 (procs_0*amount_1)))) (fun s211=>qhc s211))

def yd (i41:Nat)(x42:Int)(s40:Int) : Option (Oc Int (Oc Int Int)):=(some (.nxt (IntKind.wrap .i64 (s40+x42))))
def qfr (s68:Int)  : Option (Oc Int Int):=(some (.nxt s68))
def wm (i9:Nat)(x10:Chan)(s8:Int) : Option (Oc Int Int):=(jn (jk (fun i41 x42 s67=>yd i41 x42 s67) x10.Way s8)
  (fun s78=>qfr s78))
def qc5 (s80:Int)  : Option Int:=(some s80)
def xe (s_0:Snap) : Option Int:=(jn (jk (fun i9 x10 s79=>wm i9 x10 s79) s_0.Chans 0) (fun s86=>qc5 s86))

def ue (v_1:Bool)(i1:Nat)(x2:Bool) : Option (Oc Unit Int):=(if (v_1 == x2)=true then (some (.ret (i1:Int))) else (some (.nxt ())))
def qei  : Option Int:=(some (-1))
def qbh (s_0:List Bool)(v_1:Bool) : Option Int:=(jn (jk (fun i1 x2 _=>ue v_1 i1 x2 ) s_0 ()) (fun _=>qei ))

def y9 (s_0:List Bool)(v_1:Bool) : Option Bool:=((qbh s_0 v_1).bind fun v1=>(some (decide ((0:Int)≤v1))))

def w7 (f_1:Int→Option Bool)(i1:Nat)(x2:Int) : Option (Oc Unit Int):=((f_1 x2).bind fun v23=>(if v23=true then (some (.ret (i1:Int))) else
  (some (.nxt ()))))
def qdd  : Option Int:=(some (-1))
def xz (s_0:List Int)(f_1:Int→Option Bool) : Option Int:=(jn (jk (fun i1 x2 _=>w7 f_1 i1 x2 ) s_0 ())
  (fun _=>qdd ))

def yj (s_0:List Int)(f_1:Int→Option Bool) : Option Bool:=((xz s_0 f_1).bind fun v1=>(some (decide ((0:Int)≤v1))))

def wq (n_0:Int) : Bool:=(!(zx n_0 0 1000000))

def qbf (x_0:List Int)(s20:Int)(s21:Int) : Option (Oc (Int × Int) Int):=(if (decide (s21<(List.length x_0:Int)))=true then
  ((zt x_0 s21).bind fun x44=>(some (.nxt ((mxI s20 x44),(IntKind.wrap .i64 (s21+1)))))) else (some (.brk (s20,s21))))
def qf8 (s50:Int)(s51:Int)  : Option Int:=(some s50)
def qdh (k:Nat)(x_0:List Int)  : Option Int:=((zt x_0 0).bind fun x15=>(jn (yy (fun s49=>qbf x_0 s49.1 s49.2) k (x15,
  1)) (fun s58=>qf8 s58.1 s58.2)))
def qbq (k:Nat)(x_0:List Int) : Option Int:=((if (decide ((List.length x_0:Int)<1))=true then none else (some ())).bind (fun _=>qdh k x_0 ))

def xu (k:Nat)(p_0:Picture)(own_1:Int)(procs_2:Int) : Option Bool:=((if ((decide ((List.length p_0.In:Int)≠procs_2))||(decide
  ((List.length p_0.Closed:Int)≠procs_2)))=true then (some true) else ((yj p_0.In (fun a0=>some (wq a0))).bind fun v19 =>
  (some v19))).bind fun v19=>(if v19=true then (some false) else (if (!p_0.Taken)=true then ((if (decide (p_0.Amount=0))=true then
  ((qbq k p_0.In).bind fun v38=>(some (decide (v38=0)))) else (some false)).bind fun v38=>((if v38=true then
  ((y9 p_0.Closed true).bind fun v54=>(some (!v54))) else (some false)).bind fun v54=>(some v54))) else ((if (zx p_0.Amount 0 1000)=true then
  ((zt p_0.In own_1).bind fun x69=>(some (decide (x69=0)))) else (some false)).bind fun v69=>((if v69=true then ((zt p_0.Closed own_1).bind fun x86 =>
  (some x86)) else (some false)).bind fun v86=>(some v86))))))

def qad (k:Nat)(v_0:Snap)(i46:Nat)(x47:Int)(s45:Int) : Option (Oc Int Bool):=((if (!(zx x47 0 1000))=true then (some true) else
  ((zt v_0.Pictures (i46:Int)).bind fun x73=>((xu k x73 (i46:Int) (List.length v_0.Amounts:Int)).bind fun v76=>(some (!v76))))).bind fun v73 =>
  (if v73=true then (some (.ret false)) else (some (.nxt (IntKind.wrap .i64 (s45+x47))))))
def yv (i229:Nat)(x230:Int)(s228:Int) : Option (Oc Int (Oc (List Chan) Bool)):=(if (!(zx x230 0 1000))=true then (some (.ret (.ret false))) else (if
  (decide (x230=0))=true then (some (.nxt (IntKind.wrap .i64 (s228+1)))) else (some (.nxt s228))))
def qc6 (v_0:Snap)(s140:List Chan)(x144:Chan)(s269:Int)(x285:Bool)(s308:Int)  : Option (Oc (List Chan) Bool):=((if (decide
  (s269≠s308))=true then (some true) else ((if x285=true then ((zt v_0.Pictures x144.From).bind fun x338=>(some (!x338.Taken))) else (some false)).bind fun v338 =>
  (some v338))).bind fun v335=>(if v335=true then (some (.ret false)) else (some (.nxt s140))))
def qby (v_0:Snap)(s140:List Chan)(x144:Chan)(s269:Int)  : Option (Oc (List Chan) Bool):=((zt v_0.Pictures x144.To).bind fun x282 =>
  ((zt x282.Closed x144.From).bind fun x285=>((zt v_0.Pictures x144.From).bind fun x288=>((if (x288.Taken&&(!x285))=true then (some 1) else (some 0)).bind
  (fun s377=>qc6 v_0 s140 x144 s269 x285 s377)))))
def qag (v_0:Snap)(i143:Nat)(x144:Chan)(s140:List Chan) : Option (Oc (List Chan) Bool):=((zt s140 (i143:Int)).bind fun x175=>(if (((decide
  (x144.From≠x175.From))||(decide (x144.To≠x175.To)))||(decide ((8:Int)<(List.length x144.Way:Int))))=true then (some (.ret false)) else (jn (jk
  (fun i229 x230 s268=>yv i229 x230 s268) x144.Way 0) (fun s378=>qby v_0 s140 x144 s378))))
def qdb (v_0:Snap)(s101:Int)(s380:List Chan)  : Option Bool:=((xe v_0).bind fun v390=>(some (decide ((IntKind.wrap .i64
  (s101+v390))=v_0.Total))))
def qbs (v_0:Snap)(s101:Int)  : Option Bool:=((wd (List.length v_0.Amounts:Int) 0).bind fun v109=>(jn (jk
  (fun i143 x144 s379=>qag v_0 i143 x144 s379) v_0.Chans v109.Chans) (fun s393=>qdb v_0 s101 s393)))
def ww (k:Nat)(v_0:Snap) : Option Bool:=(if (((((!(zx (List.length v_0.Amounts:Int) 2 4))||(decide ((List.length v_0.Pictures:Int) ≠
  (List.length v_0.Amounts:Int))))||(!(zx v_0.Sent 0 1000)))||(!(zx v_0.Total 0 1000)))||(decide ((List.length v_0.Chans:Int)≠(IntKind.wrap .i64
  ((List.length v_0.Amounts:Int)*(IntKind.wrap .i64 ((List.length v_0.Amounts:Int) - 1)))))))=true then (some false) else (jn (jk
  (fun i46 x47 s100=>qad k v_0 i46 x47 s100) v_0.Amounts 0) (fun s394=>qbs v_0 s394)))

def qa8 (k:Nat)(s_0:Snap) : Option (Int × Bool):=((ww k s_0).bind fun v7=>(if (!v7)=true then (some (0,
  false)) else ((xe s_0).bind fun v11=>(some (v11,true)))))

def qdr (k:Nat)(s_0:Snap) : Option Bool:=((ww k s_0).bind fun v7=>(some v7))

def uf (i69:Nat)(x70:Int)(s68:Int) : Option (Oc Int (Oc Int (Int × Bool))):=(some (.nxt (IntKind.wrap .i64 (s68+x70))))
def qf0 (s96:Int)  : Option (Oc Int (Int × Bool)):=(some (.nxt s96))
def u1 (i13:Nat)(x14:Picture)(s12:Int) : Option (Oc Int (Int × Bool)):=((if (!x14.Taken)=true then (some true) else
  ((y9 x14.Closed false).bind fun v46=>(some v46))).bind fun v46=>(if v46=true then (some (.ret (0,
  false))) else (jn (jk (fun i69 x70 s95=>uf i69 x70 s95) x14.In (IntKind.wrap .i64 (s12+x14.Amount))) (fun s106=>qf0 s106))))
def qf7 (s108:Int)  : Option (Int × Bool):=(some (s108,true))
def wh (k:Nat)(s_0:Snap) : Option (Int × Bool):=((ww k s_0).bind fun v7=>(if (!v7)=true then (some (0,
  false)) else (jn (jk (fun i13 x14 s107=>u1 i13 x14 s107) s_0.Pictures 0) (fun s114=>qf7 s114))))

def u4 (v_0:Snap)(v_1:Int)(i7:Nat)(s4:List Chan) : Option (Oc (List Chan) (Bool × Snap)):=((zt s4 (i7:Int)).bind fun x30=>(if ((decide
  (x30.From=v_1))&&(decide ((List.length x30.Way:Int)=8)))=true then (some (.ret (false,
  (Snap.mk v_0.Amounts s4 v_0.Pictures v_0.Sent v_0.Total)))) else (some (.nxt s4))))
def qbp (v_1:Int)(i95:Nat)(s92:List Chan) : Option (Oc (List Chan) (Bool × Snap)):=((zt s92 (i95:Int)).bind fun x117=>(if (decide
  (x117.From=v_1))=true then ((ye 8 x117.Way [0]).bind fun l140=>(some (.nxt (List.set s92 (i95:Int).toNat (Chan.mk x117.From x117.To l140))))) else (some (.nxt s92))))
def qdj (v_0:Snap)(v_1:Int)(s165:List Chan)  : Option (Bool × Snap):=((zt v_0.Pictures v_1).bind fun x173=>((zt v_0.Amounts v_1).bind fun x197 =>
  ((zt x173.Closed v_1).bind fun x206=>(some (true,
  (Snap.mk v_0.Amounts s165 (List.set v_0.Pictures v_1.toNat (Picture.mk true x197 x173.In (List.set x173.Closed v_1.toNat true))) v_0.Sent v_0.Total))))))
def qdl (v_0:Snap)(v_1:Int)(s80:List Chan)  : Option (Bool × Snap):=(jn (w8 (fun i95 s164=>qbp v_1 i95 s164)
  (List.length s80:Int) s80) (fun s221=>qdj v_0 v_1 s221))
def wx (v_0:Snap)(v_1:Int) : Option (Bool × Snap):=(jn (w8 (fun i7 s79=>u4 v_0 v_1 i7 s79) (List.length v_0.Chans:Int) v_0.Chans)
  (fun s222=>qdl v_0 v_1 s222))

def qf5 (v_1:SnapStep)(x65:Chan)(x154:Int)(v296:Bool × Snap)(x314:Chan)(x348:Int)(s363:List Chan)(s366:List Picture)  : Option
  (Bool × Snap):=(if (decide (x154=0))=true then ((zt s366 x65.To).bind fun x435=>((zt s363 v_1.K).bind fun x453=>((zt x435.Closed x453.From).bind fun x467 =>
  (some (true,(Snap.mk (List.set v296.2.Amounts x314.To.toNat (IntKind.wrap .i64 (x348+x154))) s363 (List.set s366 x65.To.toNat (Picture.mk x435.Taken x435.Amount x435.In
  (List.set x435.Closed x453.From.toNat true))) v296.2.Sent v296.2.Total)))))) else (some (true,
  (Snap.mk (List.set v296.2.Amounts x314.To.toNat (IntKind.wrap .i64 (x348+x154))) s363 s366 v296.2.Sent v296.2.Total))))
def qf1 (v_0:Snap)(v_1:SnapStep)(x65:Chan)(x154:Int)(x513:Int)(s528:List Chan)(s531:List Picture)  : Option (Bool × Snap):=(if (decide
  (x154=0))=true then ((zt s531 x65.To).bind fun x597=>((zt s528 v_1.K).bind fun x615=>((zt x597.Closed x615.From).bind fun x629=>(some (true,
  (Snap.mk (List.set v_0.Amounts x65.To.toNat (IntKind.wrap .i64 (x513+x154))) s528 (List.set s531 x65.To.toNat (Picture.mk x597.Taken x597.Amount x597.In
  (List.set x597.Closed x615.From.toNat true))) v_0.Sent v_0.Total)))))) else (some (true,
  (Snap.mk (List.set v_0.Amounts x65.To.toNat (IntKind.wrap .i64 (x513+x154))) s528 s531 v_0.Sent v_0.Total))))
def yf (v_0:Snap)(v_1:SnapStep) : Option (Bool × Snap):=(if ((decide (v_1.Kind≠1))&&(decide (v_1.N≠0)))=true then (some (false,
  v_0)) else (if (decide (v_1.Kind=3))=true then ((if (zx v_1.K 0 (IntKind.wrap .i64 ((List.length v_0.Amounts:Int) - 1)))=true then
  ((zt v_0.Pictures v_1.K).bind fun x21=>(some (!x21.Taken))) else (some false)).bind fun v21=>(if v21=true then ((wx v_0 v_1.K).bind fun v53=>(some
  (v53.1,v53.2))) else (some (false,v_0)))) else (if (!(zx v_1.K 0 (IntKind.wrap .i64 ((List.length v_0.Chans:Int) - 1))))=true then (some (false,
  v_0)) else ((zt v_0.Chans v_1.K).bind fun x65=>((zt v_0.Pictures x65.To).bind fun x81=>(if (decide (v_1.Kind=1))=true then
  ((zt v_0.Amounts x65.From).bind fun x87=>(if (((!(zx v_1.N 1 x87))||(decide ((List.length x65.Way:Int)=8)))||(decide (v_0.Sent=1000)))=true then (some
  (false,v_0)) else ((ye 8 x65.Way [v_1.N]).bind fun l128=>(some (true,
  (Snap.mk (List.set v_0.Amounts x65.From.toNat (IntKind.wrap .i64 (x87 - v_1.N))) (List.set v_0.Chans v_1.K.toNat (Chan.mk x65.From x65.To l128)) v_0.Pictures
  (IntKind.wrap .i64 (v_0.Sent+1)) v_0.Total)))))) else (if (decide (v_1.Kind=2))=true then (if (decide ((List.length x65.Way:Int)=0))=true then (some (false,
  v_0)) else ((zt x65.Way (0:Int)).bind fun x154=>((if ((decide ((0:Int)<x154))&&x81.Taken)=true then ((zt x81.Closed x65.From).bind fun x203=>(some
  (!x203))) else (some false)).bind fun v188=>((if v188=true then ((zt x81.In x65.From).bind fun x239=>(some (decide ((1000000:Int)<(IntKind.wrap .i64
  (x239+x154)))))) else (some false)).bind fun v224=>(if v224=true then (some (false,
  v_0)) else (if ((decide (x154=0))&&(!x81.Taken))=true then ((wx v_0 x65.To).bind fun v296=>(if (!v296.1)=true then (some (false,
  v296.2)) else ((zt v296.2.Chans v_1.K).bind fun x314=>((sl x314.Way 1 (List.length x314.Way)).bind fun l328=>((ye 8 ([] : List Int) l328).bind fun l335 =>
  ((zt v296.2.Amounts x314.To).bind fun x348=>((if v188=true then ((zt v296.2.Pictures x65.To).bind fun x378=>((zt x378.In
  ((Chan.mk x314.From x314.To l335).From)).bind fun x407=>(some ((List.set v296.2.Chans v_1.K.toNat (Chan.mk x314.From x314.To l335)),
  (List.set v296.2.Pictures x65.To.toNat (Picture.mk x378.Taken x378.Amount (List.set x378.In ((Chan.mk x314.From x314.To l335).From).toNat (IntKind.wrap .i64
  (x407+x154))) x378.Closed)))))) else (some ((List.set v296.2.Chans v_1.K.toNat (Chan.mk x314.From x314.To l335)),
  v296.2.Pictures))).bind (fun s486=>qf5 v_1 x65 x154 v296 x314 x348 s486.1 s486.2)))))))) else ((sl x65.Way 1 (List.length x65.Way)).bind fun l493=>((ye 8
  ([] : List Int) l493).bind fun l500=>((zt v_0.Amounts x65.To).bind fun x513=>((if v188=true then ((zt x81.In ((Chan.mk x65.From x65.To l500).From)).bind fun x569 =>
  (some ((List.set v_0.Chans v_1.K.toNat (Chan.mk x65.From x65.To l500)),
  (List.set v_0.Pictures x65.To.toNat (Picture.mk x81.Taken x81.Amount (List.set x81.In ((Chan.mk x65.From x65.To l500).From).toNat (IntKind.wrap .i64
  (x569+x154))) x81.Closed))))) else (some ((List.set v_0.Chans v_1.K.toNat (Chan.mk x65.From x65.To l500)),
  v_0.Pictures))).bind (fun s648=>qf1 v_0 v_1 x65 x154 x513 s648.1 s648.2))))))))))) else (some (false,v_0)))))))))

def qb7 (l21:List Int)(i42:Nat)(x43:Chan)(s37:Snap) : Option (Oc Snap Snap):=((ye 8 ([] : List Int) x43.Way).bind fun l78 =>
  ((ye 40 s37.Chans [(Chan.mk x43.From x43.To l78)]).bind fun l95=>(some (.nxt (Snap.mk l21 l95 [] s37.Sent s37.Total)))))
def qca (l21:List Int)(s108:Snap)(i130:Nat)(x131:Picture)(s125:Snap) : Option (Oc Snap Snap):=((ye 8 ([] : List Int) x131.In).bind fun l165 =>
  ((ye 1 ([] : List Bool) x131.Closed).bind fun l182=>((ye 64 s125.Pictures [(Picture.mk x131.Taken x131.Amount l165 l182)]).bind fun l199=>(some (.nxt
  (Snap.mk l21 s108.Chans l199 s125.Sent s125.Total))))))
def qgt (l21:List Int)(s108:Snap)(s212:Snap)  : Option Snap:=(some (Snap.mk l21 s108.Chans s212.Pictures s212.Sent s212.Total))
def qd4 (s_0:Snap)(l21:List Int)(s108:Snap)  : Option Snap:=(jn (jk (fun i130 x131 s211=>qca l21 s108 i130 x131 s211) s_0.Pictures
  (Snap.mk l21 s108.Chans [] s108.Sent s108.Total)) (fun s225=>qgt l21 s108 s225))
def qax (s_0:Snap) : Option Snap:=((ye 8 ([] : List Int) s_0.Amounts).bind fun l21=>(jn (jk
  (fun i42 x43 s107=>qb7 l21 i42 x43 s107) s_0.Chans (Snap.mk l21 [] [] s_0.Sent s_0.Total)) (fun s226=>qd4 s_0 l21 s226)))

def y5 (f_1:Picture→Option Bool)(i1:Nat)(x2:Picture) : Option (Oc Unit Int):=((f_1 x2).bind fun v23=>(if v23=true then (some (.ret
  (i1:Int))) else (some (.nxt ()))))
def qb2  : Option Int:=(some (-1))
def uc (s_0:List Picture)(f_1:Picture→Option Bool) : Option Int:=(jn (jk (fun i1 x2 _=>y5 f_1 i1 x2 ) s_0 ())
  (fun _=>qb2 ))

def y6 (s_0:List Picture)(f_1:Picture→Option Bool) : Option Bool:=((uc s_0 f_1).bind fun v1=>(some (decide
  ((0:Int)≤v1))))

def xa (p_0:Picture) : Bool:=p_0.Taken

def yg (f_1:Chan→Option Bool)(i1:Nat)(x2:Chan) : Option (Oc Unit Int):=((f_1 x2).bind fun v23=>(if v23=true then (some (.ret
  (i1:Int))) else (some (.nxt ()))))
def yu  : Option Int:=(some (-1))
def yh (s_0:List Chan)(f_1:Chan→Option Bool) : Option Int:=(jn (jk (fun i1 x2 _=>yg f_1 i1 x2 ) s_0 ())
  (fun _=>yu ))

def k9 (c_0:Chan) : Bool:=(decide ((0:Int)<(List.length c_0.Way:Int)))

def kj (s99:Int)(s100:Snap)(s101:List Int)(s104:List Chan)(s107:List Picture) : Option (Oc (Int × Snap × (List Int) × (List Chan) × (List Picture))
  (Snap × Int × Bool)):=((yh s104 (fun a0=>some (k9 a0))).bind fun v131=>(if (decide (v131<0))=true then (some (.ret
  ((Snap.mk s101 s104 s107 s100.Sent s100.Total),s99,
  true))) else ((yf (Snap.mk s101 s104 s107 s100.Sent s100.Total) (SnapStep.mk 2 v131 0)).bind fun v140=>(if (!v140.1)=true then (some (.ret
  ((Snap.mk [] [] [] 0 0),0,false))) else (some (.nxt ((IntKind.wrap .i64 (s99+1)),v140.2,v140.2.Amounts,v140.2.Chans,v140.2.Pictures)))))))
def qfm (s159:Int)(s160:Snap)(s161:List Int)(s164:List Chan)(s167:List Picture)  : Option (Snap × Int × Bool):=none
def yc (k:Nat)(s46:Bool)(s47:Snap)(s48:List Int)(s51:List Chan)(s54:List Picture)  : Option (Snap × Int × Bool):=(if s46=true then (some
  ((Snap.mk [] [] [] 0 0),0,false)) else (jn (yy (fun s158=>kj s158.1 s158.2.1 s158.2.2.1 s158.2.2.2.1 s158.2.2.2.2) k (0,
  (Snap.mk s48 s51 s54 s47.Sent s47.Total),s48,s51,s54)) (fun s176=>qfm s176.1 s176.2.1 s176.2.2.1 s176.2.2.2.1 s176.2.2.2.2)))
def yk (k:Nat)(s_0:Snap) : Option (Snap × Int × Bool):=((ww k s_0).bind fun v11=>(if (!v11)=true then (some ((Snap.mk [] [] [] 0 0),0,
  false)) else ((qax s_0).bind fun v17=>((y6 v17.Pictures (fun a0=>some (xa a0))).bind fun v43=>((if (!v43)=true then
  ((yf v17 (SnapStep.mk 3 0 0)).bind fun v66=>(some ((!v66.1),v66.2,v66.2.Amounts,v66.2.Chans,v66.2.Pictures))) else (some (false,v17,v17.Amounts,v17.Chans,
  v17.Pictures))).bind (fun s177=>yc k s177.1 s177.2.1 s177.2.2.1 s177.2.2.2.1 s177.2.2.2.2))))))

def qep (c_0:L1Cur)(s1:Int)  : Option (Int × L1Cur):=(if (decide ((IntKind.wrap .i64 (c_0.at_+1))≤(List.length c_0.code:Int)))=true then (some (s1,
  (L1Cur.mk c_0.code (IntKind.wrap .i64 (c_0.at_+1)) (IntKind.wrap .u64 ((IntKind.wrap .u64 ((IntKind.wrap .u64 (c_0.seed*6364136223846793005)) +
  (IntKind.wrap .u64 s1)))+1442695040888963407))))) else (some ((IntKind.wrap .i64 (qlr .u64 (qp9 .u64 (IntKind.wrap .u64 ((IntKind.wrap .u64 ((IntKind.wrap .u64
  (c_0.seed*6364136223846793005))+(IntKind.wrap .u64 s1)))+1442695040888963407)) 40) 255)),
  (L1Cur.mk c_0.code (IntKind.wrap .i64 (c_0.at_+1)) (IntKind.wrap .u64 ((IntKind.wrap .u64 ((IntKind.wrap .u64 (c_0.seed*6364136223846793005)) +
  (IntKind.wrap .u64 s1)))+1442695040888963407))))))
def qee (c_0:L1Cur) : Option (Int × L1Cur):=((if (decide (c_0.at_<(List.length c_0.code:Int)))=true then ((zt c_0.code c_0.at_).bind fun x10=>(some
  (IntKind.wrap .i64 x10))) else (some 0)).bind (fun s25=>qep c_0 s25))

def y4 (c_0:L1Cur)(n_1:Int) : Option (Int × L1Cur):=(if (decide (n_1≤1))=true then (some (0,
  c_0)) else ((qee c_0).bind fun v2=>(if (decide ((200:Int)<n_1))=true then ((qee v2.2).bind fun v8=>(ck (n_1≠0) (some ((Int.tmod (IntKind.wrap .i64
  ((IntKind.wrap .i64 (v2.1*256))+v8.1)) n_1),v8.2)))) else (ck (n_1≠0) (some ((Int.tmod v2.1 n_1),v2.2))))))

def qb3 (c_0:L1Cur)(list_1:List Int) : Option (Int × L1Cur × (List Int)):=((y4 c_0 (List.length list_1:Int)).bind fun v1 =>
  ((zt list_1 v1.1).bind fun x6=>(some (x6,v1.2,list_1))))

def qd6 (c_0:L1Cur)(n_1:Int) : Option (Bool × L1Cur):=((y4 c_0 n_1).bind fun v1=>(some ((decide (v1.1=0)),v1.2)))

def qbn (s43:List SnapStep)(s48:Int)(s166:L1Cur)(s167:SnapStep)  : Option (Oc ((List SnapStep) × Int × L1Cur) ((List SnapStep) × L1Cur)) :=
  ((ye 24 s43 [s167]).bind fun l211=>(some (.nxt (l211,(IntKind.wrap .i64 (s48 - 1)),s166))))
def qbg (s43:List SnapStep)(s48:Int)(s132:L1Cur)(s133:SnapStep)  : Option (Oc ((List SnapStep) × Int × L1Cur) ((List SnapStep) × L1Cur)) :=
  ((qd6 s132 60).bind fun v161=>((if v161.1=true then ((y4 v161.2 5).bind fun v177=>((y4 v177.2 14).bind fun v182 =>
  ((y4 v182.2 3).bind fun v187=>(some (v187.2,(SnapStep.mk v177.1 (IntKind.wrap .i64 (v182.1 - 1)) v187.1)))))) else (some (v161.2,
  s133))).bind (fun s221=>qbn s43 s48 s221.1 s221.2)))
def qbe (procs_1:Int)(s43:List SnapStep)(s48:Int)(s98:L1Cur)(s99:SnapStep)  : Option (Oc ((List SnapStep) × Int × L1Cur) ((List SnapStep) × L1Cur)) :=
  ((qd6 s98 12).bind fun v127=>((if v127.1=true then ((y4 v127.2 procs_1).bind fun v143=>(some (v143.2,(SnapStep.mk 3 v143.1 0)))) else (some (v127.2,
  s99))).bind (fun s222=>qbg s43 s48 s222.1 s222.2)))
def xb (procs_1:Int)(s43:List SnapStep)(s48:Int)(s49:L1Cur) : Option (Oc ((List SnapStep) × Int × L1Cur) ((List SnapStep) × L1Cur)):=(if (decide
  ((0:Int)<s48))=true then ((qb3 s49 [1,1,2,2,2,2,
  2]).bind fun v80=>((y4 v80.2.1 (IntKind.wrap .i64 ((IntKind.wrap .i64 (procs_1*(IntKind.wrap .i64 (procs_1 - 1))))+1))).bind fun v87=>((if (decide
  (v80.1=1))=true then ((y4 v87.2 9).bind fun v109=>(some (v109.2,(SnapStep.mk v80.1 v87.1 (IntKind.wrap .i64 ((1:Int)+v109.1)))))) else (some (v87.2,
  (SnapStep.mk v80.1 v87.1 0)))).bind (fun s223=>qbe procs_1 s43 s48 s223.1 s223.2)))) else (some (.brk (s43,s48,s49))))
def qbm (s226:List SnapStep)(s231:Int)(s232:L1Cur)  : Option ((List SnapStep) × L1Cur):=(some (s226,s232))
def qdf (k:Nat)(procs_1:Int)(s11:Int)(s12:L1Cur)  : Option ((List SnapStep) × L1Cur):=(jn (yy
  (fun s225=>xb procs_1 s225.1 s225.2.1 s225.2.2) k (([],s11,s12) : (List SnapStep) × Int × L1Cur)) (fun s241=>qbm s241.1 s241.2.1 s241.2.2))
def ul (k:Nat)(c_0:L1Cur)(procs_1:Int) : Option ((List SnapStep) × L1Cur):=((y4 c_0 40).bind fun v1=>((qd6 v1.2 12).bind fun v6 =>
  ((if v6.1=true then ((y4 v6.2 12).bind fun v22=>(some ((IntKind.wrap .i64 ((70:Int)+v22.1)),v22.2))) else (some (v1.1,
  v6.2))).bind (fun s242=>qdf k procs_1 s242.1 s242.2))))

def qes (procs_0:Int)(s12:Int)(s41:List Chan)(s46:Int) : Option (Oc ((List Chan) × Int) (Oc ((List Chan) × Int) (List Chan))):=(if (decide
  (s46<procs_0))=true then (if (decide (s12≠s46))=true then ((ye 40 s41 ([(Chan.mk s12 s46 [])])).bind fun l77=>(some (.nxt (l77,
  (IntKind.wrap .i64 (s46+1)))))) else (some (.nxt (s41,(IntKind.wrap .i64 (s46+1)))))) else (some (.brk (s41,s46))))
def qg9 (s12:Int)(s90:List Chan)(s95:Int)  : Option (Oc ((List Chan) × Int) (List Chan)):=(some (.nxt (s90,(IntKind.wrap .i64 (s12+1)))))
def qew (k:Nat)(procs_0:Int)(s7:List Chan)(s12:Int) : Option (Oc ((List Chan) × Int) (List Chan)):=(if (decide (s12<procs_0))=true then (jn (yy
  (fun s89=>qes procs_0 s12 s89.1 s89.2) k (s7,0)) (fun s104=>qg9 s12 s104.1 s104.2)) else (some (.brk (s7,s12))))
def qhf (s107:List Chan)(s112:Int)  : Option (List Chan):=(some s107)
def qcv (k:Nat)(procs_0:Int) : Option (List Chan):=(jn (yy (fun s106=>qew k procs_0 s106.1 s106.2) k (([],
  0) : (List Chan) × Int)) (fun s119=>qhf s119.1 s119.2))

def ja (n_0:Int)(lo_1:Int)(hi_2:Int) : Bool:=((decide (lo_1≤n_0))&&(decide (n_0≤hi_2)))

def qer (procs_0:Int)(amount_1:Int)(v18:List Chan)(s46:Int)(s47:Snap) : Option (Oc (Int × Snap) (Snap × Bool)):=(if (decide
  (s46<procs_0))=true then ((ye 8 s47.Amounts [amount_1]).bind fun l86=>((mkN 8 procs_0 (0:Int)).bind fun l97=>((mkN 1 procs_0 false).bind fun l106 =>
  ((ye 64 s47.Pictures [(Picture.mk false 0 l97 l106)]).bind fun l121=>(some (.nxt ((IntKind.wrap .i64 (s46+1)),
  (Snap.mk l86 v18 l121 s47.Sent s47.Total)))))))) else (some (.brk (s46,(Snap.mk s47.Amounts v18 s47.Pictures s47.Sent s47.Total)))))
def qhj (v18:List Chan)(s135:Int)(s136:Snap)  : Option (Snap × Bool):=(some ((Snap.mk s136.Amounts v18 s136.Pictures s136.Sent s136.Total),true))
def ku (k:Nat)(procs_0:Int)(amount_1:Int) : Option (Snap × Bool):=(if ((!(ja procs_0 2 4))||(!(ja amount_1 0 250)))=true then (some
  ((Snap.mk [] [] [] 0 0),false)) else ((qcv k procs_0).bind fun v18=>(jn (yy (fun s134=>qer procs_0 amount_1 v18 s134.1 s134.2) k (0,
  (Snap.mk [] v18 [] 0 (IntKind.wrap .i64 (procs_0*amount_1))))) (fun s155=>qhj v18 s155.1 s155.2))))

def qbr (v_0:Snap)(v_1:Int)(i17:Nat)(s14:List Chan) : Option (Oc (List Chan) (Snap × Bool)):=((zt s14 (i17:Int)).bind fun x41=>(if ((decide
  (x41.From=v_1))&&(decide ((List.length x41.Way:Int)=8)))=true then (some (.ret ((Snap.mk v_0.Amounts s14 v_0.Pictures v_0.Sent v_0.Total),
  false))) else (some (.nxt s14))))
def qc8 (v_1:Int)(i110:Nat)(s107:List Chan) : Option (Oc (List Chan) (Snap × Bool)):=((zt s107 (i110:Int)).bind fun x134=>(if (decide
  (x134.From=v_1))=true then ((ye 8 x134.Way [0]).bind fun l165=>(some (.nxt (List.set s107 (i110:Int).toNat (Chan.mk x134.From x134.To l165))))) else (some
  (.nxt s107))))
def qfa (v_0:Snap)(v_1:Int)(s190:List Chan)  : Option (Snap × Bool):=((zt v_0.Pictures v_1).bind fun x200=>((zt v_0.Amounts v_1).bind fun x224 =>
  ((zt x200.Closed v_1).bind fun x233=>(some ((Snap.mk v_0.Amounts s190 (List.set v_0.Pictures v_1.toNat (Picture.mk true x224 x200.In
  (List.set x200.Closed v_1.toNat true))) v_0.Sent v_0.Total),true)))))
def qfe (v_0:Snap)(v_1:Int)(s94:List Chan)  : Option (Snap × Bool):=(jn (w8 (fun i110 s189=>qc8 v_1 i110 s189) (List.length s94:Int) s94)
  (fun s250=>qfa v_0 v_1 s250))
def yw (v_0:Snap)(v_1:Int) : Option (Snap × Bool):=(jn (w8 (fun i17 s93=>qbr v_0 v_1 i17 s93) (List.length v_0.Chans:Int) v_0.Chans)
  (fun s251=>qfe v_0 v_1 s251))

def qdc (v_0:Snap)(v_1:Int)(x9:Chan)(x33:Int)(l51:List Int)(x65:Int)(s125:List Picture)  : Option (Snap × Bool):=(some ((Snap.mk
  (List.set v_0.Amounts x9.To.toNat (IntKind.wrap .i64 (x65+x33))) (List.set v_0.Chans v_1.toNat (Chan.mk x9.From x9.To l51)) s125 v_0.Sent v_0.Total),true))
def qh6 (x9:Chan)(s205:Snap)(s206:List Int)(s209:List Chan)(s212:List Picture)  : Option (Snap × Bool):=((zt s212 x9.To).bind fun x256 =>
  ((zt x256.Closed x9.From).bind fun x274=>(some ((Snap.mk s206 s209 (List.set s212 x9.To.toNat (Picture.mk x256.Taken x256.Amount x256.In
  (List.set x256.Closed x9.From.toNat true))) s205.Sent s205.Total),true))))
def qbc (v_0:Snap)(v_1:Int) : Option (Snap × Bool):=((zt v_0.Chans v_1).bind fun x9=>((zt x9.Way (0:Int)).bind fun x33=>((sl x9.Way 1
  (List.length x9.Way)).bind fun l44=>((ye 8 ([] : List Int) l44).bind fun l51=>(if (decide ((0:Int)<x33))=true then ((zt v_0.Amounts x9.To).bind fun x65 =>
  ((zt v_0.Pictures x9.To).bind fun x75=>((if x75.Taken=true then ((zt x75.Closed x9.From).bind fun x98=>(some (!x98))) else (some false)).bind fun v98 =>
  ((if v98=true then ((zt x75.In x9.From).bind fun x151=>(some (List.set v_0.Pictures x9.To.toNat (Picture.mk x75.Taken x75.Amount (List.set x75.In x9.From.toNat
  (IntKind.wrap .i64 (x151+x33))) x75.Closed)))) else (some v_0.Pictures)).bind (fun s175=>qdc v_0 v_1 x9 x33 l51 x65 s175))))) else
  ((zt v_0.Pictures x9.To).bind fun x176=>(jn (if (!x176.Taken)=true then ((yw (Snap.mk v_0.Amounts (List.set v_0.Chans v_1.toNat
  (Chan.mk x9.From x9.To l51)) v_0.Pictures v_0.Sent v_0.Total) x9.To).bind fun v223=>(if (!v223.2)=true then (some (.ret
  ((Snap.mk v223.1.Amounts v223.1.Chans v223.1.Pictures v_0.Sent v_0.Total),false))) else (some (.nxt (v223.1,v223.1.Amounts,v223.1.Chans,
  v223.1.Pictures))))) else (some (.nxt ((Snap.mk v_0.Amounts (List.set v_0.Chans v_1.toNat (Chan.mk x9.From x9.To l51)) v_0.Pictures v_0.Sent v_0.Total),v_0.Amounts,
  (List.set v_0.Chans v_1.toNat (Chan.mk x9.From x9.To l51)),v_0.Pictures)))) (fun s291=>qh6 x9 s291.1 s291.2.1 s291.2.2.1 s291.2.2.2))))))))

def yx (v_0:Snap)(v_1:SnapStep) : Option (Snap × Bool):=(if (decide (v_1.Kind=3))=true then ((if (((decide (v_1.N≠0))||(decide (v_1.K<0)))||(decide
  ((List.length v_0.Amounts:Int)≤v_1.K)))=true then (some true) else ((zt v_0.Pictures v_1.K).bind fun x39=>(some x39.Taken))).bind fun v39=>(if v39=true then
  (some (v_0,false)) else ((yw v_0 v_1.K).bind fun v74=>(some (v74.1,
  v74.2))))) else (if ((decide (v_1.K<0))||(decide ((List.length v_0.Chans:Int)≤v_1.K)))=true then (some (v_0,
  false)) else ((zt v_0.Chans v_1.K).bind fun x100=>(if (decide (v_1.Kind=1))=true then ((if (decide (v_1.N<1))=true then (some true) else
  ((zt v_0.Amounts x100.From).bind fun x128=>(some (decide (x128<v_1.N))))).bind fun v128=>(if ((v128||(decide ((List.length x100.Way:Int)=8)))||(decide
  (v_0.Sent=1000)))=true then (some (v_0,
  false)) else ((zt v_0.Amounts x100.From).bind fun x175=>((ye 8 x100.Way [v_1.N]).bind fun l191=>(some ((Snap.mk (List.set v_0.Amounts x100.From.toNat
  (IntKind.wrap .i64 (x175 - v_1.N))) (List.set v_0.Chans v_1.K.toNat (Chan.mk x100.From x100.To l191)) v_0.Pictures (IntKind.wrap .i64 (v_0.Sent+1)) v_0.Total),
  true)))))) else (if (decide (v_1.Kind=2))=true then (if ((decide (v_1.N≠0))||(decide ((List.length x100.Way:Int)=0)))=true then (some (v_0,
  false)) else ((qbc v_0 v_1.K).bind fun v235=>(some (v235.1,v235.2)))) else (some (v_0,false)))))))

def qds (l21:List Int)(i42:Nat)(x43:Chan)(s37:Snap) : Option (Oc Snap Snap):=((ye 8 ([] : List Int) x43.Way).bind fun l78 =>
  ((ye 40 s37.Chans [(Chan.mk x43.From x43.To l78)]).bind fun l95=>(some (.nxt (Snap.mk l21 l95 [] s37.Sent s37.Total)))))
def qdu (l21:List Int)(s108:Snap)(i130:Nat)(x131:Picture)(s125:Snap) : Option (Oc Snap Snap):=((ye 8 ([] : List Int) x131.In).bind fun l165 =>
  ((ye 1 ([] : List Bool) x131.Closed).bind fun l182=>((ye 64 s125.Pictures [(Picture.mk x131.Taken x131.Amount l165 l182)]).bind fun l199=>(some (.nxt
  (Snap.mk l21 s108.Chans l199 s125.Sent s125.Total))))))
def qis (l21:List Int)(s108:Snap)(s212:Snap)  : Option Snap:=(some (Snap.mk l21 s108.Chans s212.Pictures s212.Sent s212.Total))
def qfx (s_0:Snap)(l21:List Int)(s108:Snap)  : Option Snap:=(jn (jk (fun i130 x131 s211=>qdu l21 s108 i130 x131 s211) s_0.Pictures
  (Snap.mk l21 s108.Chans [] s108.Sent s108.Total)) (fun s225=>qis l21 s108 s225))
def ur (s_0:Snap) : Option Snap:=((ye 8 ([] : List Int) s_0.Amounts).bind fun l21=>(jn (jk (fun i42 x43 s107=>qds l21 i42 x43 s107) s_0.Chans
  (Snap.mk l21 [] [] s_0.Sent s_0.Total)) (fun s226=>qfx s_0 l21 s226)))

def qgz (s62:List Bool)(v136:Snap × Bool)(s151:Snap)  : Option (Oc ((List Bool) × Snap) (Snap × (List Bool) × Bool)) :=
  ((ye 1 s62 [v136.2]).bind fun l192=>(some (.nxt (l192,s151))))
def qai (i80:Nat)(x81:SnapStep)(s62:List Bool)(s67:Snap) : Option (Oc ((List Bool) × Snap) (Snap × (List Bool) × Bool)) :=
  ((ur s67).bind fun v116=>((yx v116 x81).bind fun v136=>((if v136.2=true then (some v136.1) else (some s67)).bind
  (fun s202=>qgz s62 v136 s202))))
def qgp (s204:List Bool)(s209:Snap)  : Option (Snap × (List Bool) × Bool):=((ur s209).bind fun v229=>(some (v229,s204,true)))
def uk (k:Nat)(procs_0:Int)(amount_1:Int)(l_2:List SnapStep) : Option (Snap × (List Bool) × Bool):=((ku k procs_0 amount_1).bind fun v5=>(if
  ((!v5.2)||(decide ((80:Int)<(List.length l_2:Int))))=true then (some ((Snap.mk [] [] [] 0 0),[],
  false)) else (jn (jk (fun i80 x81 s203=>qai i80 x81 s203.1 s203.2) l_2 (([],v5.1) : (List Bool) × Snap)) (fun s251=>qgp s251.1 s251.2))))

def qel (v54:Int × L1Cur × (List Int))(s91:Snap)  : Option (Snap × L1Cur):=((y4 v54.2.1 30).bind fun v142=>(if (decide (v142.1=0))=true then
  ((zt s91.Amounts (0:Int)).bind fun x148=>(some ((Snap.mk (List.set s91.Amounts (0:Int).toNat (IntKind.wrap .i64
  (x148+1))) s91.Chans s91.Pictures s91.Sent s91.Total),
  v142.2))) else (if (decide (v142.1=1))=true then ((zt s91.Pictures (0:Int)).bind fun x161=>((zt x161.Closed (1:Int)).bind fun x181=>(some
  ((Snap.mk s91.Amounts s91.Chans (List.set s91.Pictures (0:Int).toNat (Picture.mk x161.Taken x161.Amount x161.In (List.set x161.Closed (1:Int).toNat
  (!x181)))) s91.Sent s91.Total),v142.2)))) else (if (decide (v142.1=2))=true then ((zt s91.Chans (0:Int)).bind fun x199=>((ye 8 x199.Way [0]).bind fun l221 =>
  (some ((Snap.mk s91.Amounts (List.set s91.Chans (0:Int).toNat (Chan.mk x199.From x199.To l221)) s91.Pictures s91.Sent s91.Total),v142.2)))) else (some (s91,v142.2))))))
def qeu (k:Nat)(v5:Int × L1Cur)(v10:(List SnapStep) × L1Cur)(s19:List SnapStep)  : Option (Snap × L1Cur):=((qb3 v10.2 [0,5,100,
  250]).bind fun v54=>((uk k (IntKind.wrap .i64 ((2:Int)+v5.1)) v54.1 s19).bind fun v61=>((if (!v61.2.2)=true then ((ku k 2 5).bind fun v112 =>
  (some v112.1)) else (some v61.1)).bind (fun s243=>qel v54 s243))))
def qd8 (k:Nat)(v_0:L1Cur) : Option (Snap × L1Cur):=((y4 v_0 3).bind fun v5=>((ul k v5.2 (IntKind.wrap .i64 ((2:Int)+v5.1))).bind fun v10 =>
  ((if (decide ((80:Int)<(List.length v10.1:Int)))=true then ((sl v10.1 0 80).bind fun l32=>(some l32)) else (some v10.1)).bind
  (fun s244=>qeu k v5 v10 s244))))

def u7 (k:Nat)(code_0:List Int) : Option (Snap × SnapStep):=((qd8 k (L1Cur.mk code_0 0 0)).bind fun v13=>((ul k v13.2
  (List.length v13.1.Amounts:Int)).bind fun v38=>(if (decide ((List.length v38.1:Int)=0))=true then (some (v13.1,
  (SnapStep.mk 3 0 0))) else ((zt v38.1 (0:Int)).bind fun x52=>(some (v13.1,x52))))))

def qck (k:Nat)(s_0:Snap)(x_1:SnapStep) : Option (Snap × Bool):=((ww k s_0).bind fun v17=>(if (!v17)=true then (some ((Snap.mk [] [] [] 0 0),
  false)) else ((qax s_0).bind fun v23=>((yf v23 x_1).bind fun v49=>(if (!v49.1)=true then (some ((Snap.mk [] [] [] 0 0),false)) else (some (v49.2,
  true)))))))

def qbo (x7:Picture)(i81:Nat)(x82:Int) : Option (Oc Unit Bool):=((if (!(ja x82 0 1000000))=true then (some true) else ((if
  (!x7.Taken)=true then ((if (decide (x82≠0))=true then (some true) else ((zt x7.Closed (i81:Int)).bind fun x112=>(some x112))).bind fun v112=>(some v112)) else
  (some false)).bind fun v109=>(some v109))).bind fun v106=>(if v106=true then (some (.ret false)) else (some (.nxt ()))))
def qf6  : Option Bool:=(some true)
def qaf (v_0:Snap)(v_1:Int) : Option Bool:=((zt v_0.Pictures v_1).bind fun x7=>(if ((decide ((List.length x7.In:Int) ≠
  (List.length v_0.Amounts:Int)))||(decide ((List.length x7.Closed:Int)≠(List.length v_0.Amounts:Int))))=true then (some false) else ((if
  ((!(ja x7.Amount 0 1000))||((!x7.Taken)&&(decide (x7.Amount≠0))))=true then (some true) else ((zt x7.In v_1).bind fun x50=>(some (decide
  (x50≠0))))).bind fun v50=>((if v50=true then (some true) else ((zt x7.Closed v_1).bind fun x67=>(some (!(x67 == x7.Taken))))).bind fun v67=>(if v67=true then
  (some false) else (jn (jk (fun i81 x82 _=>qbo x7 i81 x82 ) x7.In ()) (fun _=>qf6 )))))))

def qa1 (i9:Nat)(x10:Int)(s8:Int) : Option (Oc Int Int):=(if (decide (x10=0))=true then (some (.nxt (IntKind.wrap .i64 (s8+1)))) else (some (.nxt s8)))
def qg7 (s35:Int)  : Option Int:=(some s35)
def qcs (c_0:Chan) : Option Int:=(jn (jk (fun i9 x10 s34=>qa1 i9 x10 s34) c_0.Way 0) (fun s41=>qg7 s41))

def qa0 (i41:Nat)(x42:Int)(s40:Int) : Option (Oc Int (Oc Int Int)):=(some (.nxt (IntKind.wrap .i64 (s40+x42))))
def qhl (s68:Int)  : Option (Oc Int Int):=(some (.nxt s68))
def qa4 (i9:Nat)(x10:Chan)(s8:Int) : Option (Oc Int Int):=(jn (jk (fun i41 x42 s67=>qa0 i41 x42 s67) x10.Way s8)
  (fun s78=>qhl s78))
def qhi (s80:Int)  : Option Int:=(some s80)
def qbz (s_0:Snap) : Option Int:=(jn (jk (fun i9 x10 s79=>qa4 i9 x10 s79) s_0.Chans 0) (fun s86=>qhi s86))

def qan (v_0:Snap)(i49:Nat)(x50:Int)(s48:Int) : Option (Oc Int Bool):=((if (!(ja x50 0 1000))=true then (some true) else ((qaf v_0
  (i49:Int)).bind fun v76=>(some (!v76)))).bind fun v76=>(if v76=true then (some (.ret false)) else (some (.nxt (IntKind.wrap .i64 (s48+x50))))))
def qah (i199:Nat)(x200:Int) : Option (Oc Unit (Oc (List Chan) Bool)):=(if (!(ja x200 0 1000))=true then (some (.ret (.ret false))) else (some (.nxt
  ())))
def qdy (v_0:Snap)(s112:List Chan)(x116:Chan)(s256:Int)  : Option (Oc (List Chan) Bool):=((zt v_0.Pictures x116.From).bind fun x278=>((if
  (x278.Taken&&(decide (s256≠1)))=true then (some true) else ((zt v_0.Pictures x116.From).bind fun x299=>(some ((!x299.Taken)&&(decide
  (s256≠0)))))).bind fun v299=>(if v299=true then (some (.ret false)) else (some (.nxt s112)))))
def qcf (v_0:Snap)(s112:List Chan)(x116:Chan)  : Option (Oc (List Chan) Bool):=((qcs x116).bind fun v247 =>
  ((zt v_0.Pictures x116.To).bind fun x250=>((zt x250.Closed x116.From).bind fun x253=>((if x253=true then (some (IntKind.wrap .i64 (v247+1))) else
  (some v247)).bind (fun s336=>qdy v_0 s112 x116 s336)))))
def qao (v_0:Snap)(i115:Nat)(x116:Chan)(s112:List Chan) : Option (Oc (List Chan) Bool):=((zt s112 (i115:Int)).bind fun x147=>(if (((decide
  (x116.From≠x147.From))||(decide (x116.To≠x147.To)))||(decide ((8:Int)<(List.length x116.Way:Int))))=true then (some (.ret false)) else (jn (jk
  (fun i199 x200 _=>qah i199 x200 ) x116.Way ()) (fun _=>qcf v_0 s112 x116 ))))
def qd3 (v_0:Snap)(s101:Int)(s339:List Chan)  : Option Bool:=((qbz v_0).bind fun v349=>(if (decide ((IntKind.wrap .i64
  (s101+v349))=v_0.Total))=true then (some (ja v_0.Total 0 1000)) else (some false)))
def qb6 (v_0:Snap)(v7:List Chan)(s101:Int)  : Option Bool:=(jn (jk (fun i115 x116 s338=>qao v_0 i115 x116 s338) v_0.Chans v7)
  (fun s353=>qd3 v_0 s101 s353))
def wc (k:Nat)(v_0:Snap) : Option Bool:=((qcv k (List.length v_0.Amounts:Int)).bind fun v7=>(if ((((!(ja
  (List.length v_0.Amounts:Int) 2 4))||(decide ((List.length v_0.Pictures:Int)≠(List.length v_0.Amounts:Int))))||(decide ((List.length v_0.Chans:Int) ≠
  (List.length v7:Int))))||(!(ja v_0.Sent 0 1000)))=true then (some false) else (jn (jk (fun i49 x50 s100=>qan v_0 i49 x50 s100) v_0.Amounts 0)
  (fun s354=>qb6 v_0 v7 s354))))

def qcg (k:Nat)(s_0:Snap)(x_1:SnapStep) : Option (Snap × Bool):=((wc k s_0).bind fun v17=>(if (!v17)=true then (some ((Snap.mk [] [] [] 0 0),
  false)) else ((ur s_0).bind fun v27=>((yx v27 x_1).bind fun v47=>(if (!v47.2)=true then (some ((Snap.mk [] [] [] 0 0),
  false)) else ((ur v47.1).bind fun v65=>(some (v65,true))))))))

def qdi (k:Nat)(code_0:List Int) : Option Snap:=((qd8 k (L1Cur.mk code_0 0 0)).bind fun v9=>(some v9.1))

def qar (k:Nat)(code_0:List Int) : Option Snap:=((qdi k code_0).bind fun v5=>(some v5))

def qaz (i7:Nat)(x8:Chan) : Option (Oc Unit Int):=(if (decide ((0:Int)<(List.length x8.Way:Int)))=true then (some (.ret (i7:Int))) else (some (.nxt
  ())))
def qcp  : Option Int:=(some (-1))
def qaj (s_0:Snap) : Option Int:=(jn (jk (fun i7 x8 _=>qaz i7 x8 ) s_0.Chans ()) (fun _=>qcp ))

def uw (i51:Nat)(s47:Bool)(s48:List Picture) : Option (Oc (Bool × (List Picture)) (Snap × Int × Bool)):=((zt s48 (i51:Int)).bind fun x75=>(some
  (.nxt ((s47||x75.Taken),s48))))
def yl (s189:Bool)(s190:Int)(s191:Int)(s192:Snap)(s193:List Int)(s196:List Chan)(s199:List Picture) : Option (Oc (Bool × Int × Int × Snap ×
  (List Int) × (List Chan) × (List Picture)) (Snap × Int × Bool)):=(if (s189&&(decide ((0:Int)≤s191)))=true then ((qbc
  (Snap.mk s193 s196 s199 s192.Sent s192.Total) s191).bind fun v238=>((qaj v238.1).bind fun v251=>(some (.nxt (v238.2,(IntKind.wrap .i64 (s190+1)),v251,v238.1,
  v238.1.Amounts,v238.1.Chans,v238.1.Pictures))))) else (some (.brk (s189,s190,s191,(Snap.mk s193 s196 s199 s192.Sent s192.Total),s193,s196,s199))))
def xv (s257:Bool)(s258:Int)(s259:Int)(s260:Snap)(s261:List Int)(s264:List Chan)(s267:List Picture)  : Option (Snap × Int × Bool):=(if
  (!s257)=true then (some ((Snap.mk [] [] [] 0 0),0,false)) else ((ur (Snap.mk s261 s264 s267 s260.Sent s260.Total)).bind fun v281=>(some (v281,s258,true))))
def ux (k:Nat)(s132:Bool)(s133:Snap)(s134:List Int)(s137:List Chan)(s140:List Picture)  : Option (Snap × Int × Bool):=((qaj
  (Snap.mk s134 s137 s140 s133.Sent s133.Total)).bind fun v173=>(jn (yy
  (fun s256=>yl s256.1 s256.2.1 s256.2.2.1 s256.2.2.2.1 s256.2.2.2.2.1 s256.2.2.2.2.2.1 s256.2.2.2.2.2.2) k (s132,0,v173,
  (Snap.mk s134 s137 s140 s133.Sent s133.Total),s134,s137,
  s140)) (fun s303=>xv s303.1 s303.2.1 s303.2.2.1 s303.2.2.2.1 s303.2.2.2.2.1 s303.2.2.2.2.2.1 s303.2.2.2.2.2.2)))
def xx (k:Nat)(v17:Snap)(s121:Bool)(s122:List Picture)  : Option (Snap × Int × Bool):=((if (!s121)=true then ((yw
  (Snap.mk v17.Amounts v17.Chans s122 v17.Sent v17.Total) 0).bind fun v152=>(some (v152.2,v152.1,v152.1.Amounts,v152.1.Chans,v152.1.Pictures))) else (some (true,
  (Snap.mk v17.Amounts v17.Chans s122 v17.Sent v17.Total),v17.Amounts,v17.Chans,
  s122))).bind (fun s304=>ux k s304.1 s304.2.1 s304.2.2.1 s304.2.2.2.1 s304.2.2.2.2))
def xd (k:Nat)(s_0:Snap) : Option (Snap × Int × Bool):=((wc k s_0).bind fun v11=>(if (!v11)=true then (some ((Snap.mk [] [] [] 0 0),0,
  false)) else ((ur s_0).bind fun v17=>(jn (w8 (fun i51 s120=>uw i51 s120.1 s120.2) (List.length v17.Pictures:Int) (false,
  v17.Pictures)) (fun s305=>xx k v17 s305.1 s305.2)))))

def u6 (x14:Picture)(i45:Nat)(x46:Bool)(s44:Int) : Option (Oc Int (Oc Int (Int × Bool))):=(if (!x46)=true then (some (.ret (.ret (0,
  false)))) else ((zt x14.In (i45:Int)).bind fun x78=>(some (.nxt (IntKind.wrap .i64 (s44+x78))))))
def qdk (x14:Picture)(s83:Int)  : Option (Oc Int (Int × Bool)):=(some (.nxt (IntKind.wrap .i64 (s83+x14.Amount))))
def u3 (i13:Nat)(x14:Picture)(s12:Int) : Option (Oc Int (Int × Bool)):=(jn (jk (fun i45 x46 s82=>u6 x14 i45 x46 s82) x14.Closed s12)
  (fun s94=>qdk x14 s94))
def qf9 (s96:Int)  : Option (Int × Bool):=(some (s96,true))
def xq (k:Nat)(s_0:Snap) : Option (Int × Bool):=((wc k s_0).bind fun v7=>(if (!v7)=true then (some (0,
  false)) else (jn (jk (fun i13 x14 s95=>u3 i13 x14 s95) s_0.Pictures 0) (fun s102=>qf9 s102))))

def qcd (k:Nat)(s_0:Snap) : Option (Int × Bool):=((wc k s_0).bind fun v7=>(if (!v7)=true then (some (0,
  false)) else ((qbz s_0).bind fun v11=>(some (v11,true)))))

def qap (code_0:List Int) : Option (Int × Int):=((y4 (L1Cur.mk code_0 0 0) 7).bind fun v5=>((qb3 v5.2 [(-1),0,10,250,
  251]).bind fun v16=>(some (v5.1,v16.1))))

def qct (procs_0:Int)(amount_1:Int) : Option (Snap × Bool):=(if ((!(zx procs_0 2 4))||(!(zx amount_1 0 250)))=true then (some
  ((Snap.mk [] [] [] 0 0),false)) else ((wd procs_0 amount_1).bind fun v18=>(some (v18,true))))

def qcr (k:Nat)(v_0:List Int)(v_1:List Int) : Option Bool:=(if (decide ((1048576:Int)<(IntKind.wrap .i64 ((List.length v_0:Int) +
  (List.length v_1:Int)))))=true then (some true) else ((u7 k v_0).bind fun v2=>((qck k v2.1 v2.2).bind fun v38 =>
  ((qcg k v2.1 v2.2).bind fun v66=>(if (!(v38.2 == v66.2))=true then (some false) else ((um v38.1 v66.1).bind fun v95=>(if (!v95)=true then
  (some false) else ((qdr k v2.1).bind fun v99=>((wc k v2.1).bind fun v102=>(if ((!(v99 == v102))||(v38.2&&(decide
  (v38.1.Total≠v2.1.Total))))=true then (some false) else ((qar k v_1).bind fun v123=>((yk k v123).bind fun v151 =>
  ((xd k v123).bind fun v179=>((wh k v123).bind fun v207=>((xq k v123).bind fun v210=>((qa8 k v123).bind fun v213 =>
  ((qcd k v123).bind fun v216=>((qap v_1).bind fun v219=>((qct v219.1 v219.2).bind fun v222=>((ku k v219.1 v219.2).bind fun v233 =>
  ((if ((v151.2.2 == v179.2.2)&&(decide (v151.2.1=v179.2.1)))=true then ((um v151.1 v179.1).bind fun v285=>(some v285)) else (some false)).bind fun v285 =>
  ((if (((((v285&&(v207.2 == v210.2))&&(decide (v207.1=v210.1)))&&(v213.2 == v216.2))&&(decide (v213.1=v216.1)))&&(v222.2 == v233.2))=true then
  ((um v222.1 v233.1).bind fun v377=>(some v377)) else (some false)).bind fun v377=>(some v377)))))))))))))))))))))))
end Go.Proofs.Ytpkiieniipenjaa.X
