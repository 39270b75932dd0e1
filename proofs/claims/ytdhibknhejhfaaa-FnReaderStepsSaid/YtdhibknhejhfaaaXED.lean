/- The seat's types and functions, as plain Lean has them. -/
import Derived.Test.YtdhibknhejhfaaaZSlW
set_option linter.unusedVariables false
set_option linter.unusedSimpArgs false
set_option maxRecDepth 100000
namespace Go.Proofs.Ytdhibknhejhfaaa.X
open Go
open Nat (reduceEqDiff)
structure BoundsError where
 x:Int
 y:Int
 signed:Bool
 code:Int
 deriving DecidableEq,Inhabited
def BoundsError.cells (x:BoundsError) : List XV:=[.int .i64 x.x,.int .i64 x.y,.bool x.signed,.int .u8 x.code]
structure Reader where
 In:Bool
 Generation:Int
 Share:List Int
 Read:List Int
 deriving DecidableEq,Inhabited
def Reader.cells (x:Reader) : List XV:=[.bool x.In,.int .i64 x.Generation,lst cI x.Share,lst cI x.Read]
structure Readers_ where
 Generation:Int
 Readers:List Reader
 Committed:List Int
 Ends:List Int
 deriving DecidableEq,Inhabited
def Readers_.cells (x:Readers_) : List XV:=[.int .i64 x.Generation,lst Reader.cells x.Readers,lst cI x.Committed,lst cI x.Ends]
structure GroupStep where
 Kind:Int
 K:Int
 Part:Int
 N:Int
 deriving DecidableEq,Inhabited
def GroupStep.cells (x:GroupStep) : List XV:=[.int .i64 x.Kind,.int .i64 x.K,.int .i64 x.Part,.int .i64 x.N]
structure L1Cur where
 code:List Int
 at_:Int
 seed:Int
 deriving DecidableEq,Inhabited
def L1Cur.cells (x:L1Cur) : List XV:=[lst cU8 x.code,.int .i64 x.at_,.int .u64 x.seed]

def qaa (b_1:List Int)(i2:Nat)(x3:Int) : Option (Oc Unit Bool):=((zz b_1 (i2:Int)).bind fun x24=>(if (decide (x3≠x24))=true then (some
  (.ret false)) else (some (.nxt ()))))
def qfq  : Option Bool:=(some true)
def kz (a_0:List Int)(b_1:List Int) : Option Bool:=(if (decide ((List.length a_0:Int)≠(List.length b_1:Int)))=true then (some false) else (jn (jl
  (fun i2 x3 _=>qaa b_1 i2 x3 ) a_0 ()) (fun _=>qfq )))

def qaj (v_0:Readers_)(v_1:Readers_)(i57:Nat) : Option (Oc Unit Bool):=((zz v_0.Readers (i57:Int)).bind fun x79=>((zz v_1.Readers
  (i57:Int)).bind fun x90=>((if ((!(x79.In == x90.In))||(decide (x79.Generation≠x90.Generation)))=true then (some true) else
  ((kz x79.Share x90.Share).bind fun v117=>(some (!v117)))).bind fun v117=>((if v117=true then (some true) else
  ((kz x79.Read x90.Read).bind fun v138=>(some (!v138)))).bind fun v138=>(if v138=true then (some (.ret false)) else (some (.nxt ())))))))
def qd2  : Option Bool:=(some true)
def xa (v_0:Readers_)(v_1:Readers_) : Option Bool:=((if (decide (v_0.Generation≠v_1.Generation))=true then (some true) else
  ((kz v_0.Committed v_1.Committed).bind fun v16=>(some (!v16)))).bind fun v16=>((if v16=true then (some true) else
  ((kz v_0.Ends v_1.Ends).bind fun v33=>(some (!v33)))).bind fun v33=>(if (v33||(decide ((List.length v_0.Readers:Int) ≠
  (List.length v_1.Readers:Int))))=true then (some false) else (jn (yk (fun i57 _=>qaj v_0 v_1 i57 ) (List.length v_0.Readers:Int) ())
  (fun _=>qd2 )))))

def zq (n_0:Int)(low_1:Int)(high_2:Int) : Bool:=((decide (low_1≤n_0))&&(decide (n_0≤high_2)))

def kq (f_1:Int→Option Bool)(i1:Nat)(x2:Int) : Option (Oc Unit Int):=((f_1 x2).bind fun v23=>(if v23=true then (some (.ret (i1:Int))) else
  (some (.nxt ()))))
def qcx  : Option Int:=(some (-1))
def k9 (s_0:List Int)(f_1:Int→Option Bool) : Option Int:=(jn (jl (fun i1 x2 _=>kq f_1 i1 x2 ) s_0 ())
  (fun _=>qcx ))

def ko (s_0:List Int)(f_1:Int→Option Bool) : Option Bool:=((k9 s_0 f_1).bind fun v1=>(some (decide ((0:Int)≤v1))))

def yf (e_0:Int) : Bool:=(!(zq e_0 0 100))

def wi (ends_1:List Int)(l36:List Int)(l55:List Int)(i76:Nat)(s71:Readers_) : Option (Oc Readers_ (Readers_ × Bool)):=((mkN 8
  (List.length ends_1:Int) (0:Int)).bind fun l99=>((k7 64 s71.Readers ([(Reader.mk false 0 [] l99)])).bind fun l114=>(some (.nxt
  (Readers_.mk s71.Generation l114 l36 l55)))))
def qev (l36:List Int)(l55:List Int)(s127:Readers_)  : Option (Readers_ × Bool):=(some ((Readers_.mk s127.Generation s127.Readers l36 l55),true))
def ki (readers_0:Int)(ends_1:List Int) : Option (Readers_ × Bool):=((if ((!(zq readers_0 1 5))||(!(zq
  (List.length ends_1:Int) 1 6)))=true then (some true) else ((ko ends_1 (fun a0=>some (yf a0))).bind fun v18 =>
  (some v18))).bind fun v18=>(if v18=true then (some ((Readers_.mk 0 [] [] []),
  false)) else ((mkN 8 (List.length ends_1:Int) (0:Int)).bind fun l36=>((k7 8 ([] : List Int) ends_1).bind fun l55=>(jn (yk
  (fun i76 s126=>wi ends_1 l36 l55 i76 s126) readers_0 (Readers_.mk 0 [] l36 l55)) (fun s140=>qev l36 l55 s140))))))

def w8 (v_1:Int)(i1:Nat)(x2:Int) : Option (Oc Unit Int):=(if (decide (v_1=x2))=true then (some (.ret (i1:Int))) else (some (.nxt ())))
def qd0  : Option Int:=(some (-1))
def qbo (s_0:List Int)(v_1:Int) : Option Int:=(jn (jl (fun i1 x2 _=>w8 v_1 i1 x2 ) s_0 ()) (fun _=>qd0 ))

def kn (s_0:List Int)(v_1:Int) : Option Bool:=((qbo s_0 v_1).bind fun v1=>(some (decide ((0:Int)≤v1))))

def w6 (k_1:Int)(i11:Nat)(x12:Reader)(s9:Int)(s10:Int) : Option (Oc (Int × Int) (List Int)):=(if x12.In=true then (if (decide
  ((i11:Int)<k_1))=true then (some (.nxt ((IntKind.wrap .i64 (s9+1)),(IntKind.wrap .i64 (s10+1))))) else (some (.nxt ((IntKind.wrap .i64 (s9+1)),
  s10)))) else (some (.nxt (s9,s10))))
def wy (s50:Int)(s51:Int)(i76:Nat)(s71:List Int) : Option (Oc (List Int) (List Int)):=(ck (s50≠0) (if (decide ((Int.tmod
  (i76:Int) s50)=s51))=true then ((k7 8 s71 [(i76:Int)]).bind fun l108=>(some (.nxt l108))) else (some (.nxt s71))))
def qcy (s120:List Int)  : Option (List Int):=(some s120)
def qak (r_0:Readers_)(s50:Int)(s51:Int)  : Option (List Int):=(jn (yk (fun i76 s119=>wy s50 s51 i76 s119)
  (List.length r_0.Ends:Int) ([] : List Int)) (fun s131=>qcy s131))
def ya (r_0:Readers_)(k_1:Int) : Option (List Int):=(jn (jl (fun i11 x12 s49=>w6 k_1 i11 x12 s49.1 s49.2) r_0.Readers (0,
  0)) (fun s132=>qak r_0 s132.1 s132.2))

def qa3 (list_0:List Int)(many_1:Int)(i1:Nat)(x2:Int) : Option (Oc Unit Bool):=((if (!(zq x2 0 (IntKind.wrap .i64 (many_1 - 1))))=true then
  (some true) else ((if (decide ((0:Int)<(i1:Int)))=true then ((zz list_0 (IntKind.wrap .i64 ((i1:Int) - 1))).bind fun x30=>(some (decide (x2≤x30)))) else
  (some false)).bind fun v30=>(some v30))).bind fun v27=>(if v27=true then (some (.ret false)) else (some (.nxt ()))))
def qeu  : Option Bool:=(some true)
def ue (list_0:List Int)(many_1:Int) : Option Bool:=(jn (jl (fun i1 x2 _=>qa3 list_0 many_1 i1 x2 ) list_0 ())
  (fun _=>qeu ))

def qaf (s2_1:List Int)(i2:Nat)(x3:Int) : Option (Oc Unit Bool):=((zz s2_1 (i2:Int)).bind fun x24=>(if (decide (x3≠x24))=true then (some
  (.ret false)) else (some (.nxt ()))))
def qd3  : Option Bool:=(some true)
def u5 (s1_0:List Int)(s2_1:List Int) : Option Bool:=(if (decide ((List.length s1_0:Int)≠(List.length s2_1:Int)))=true then (some false) else (jn
  (jl (fun i2 x3 _=>qaf s2_1 i2 x3 ) s1_0 ()) (fun _=>qd3 )))

def qar (v_0:Readers_)(i54:Nat)(x55:Int) : Option (Oc Unit Bool):=((zz v_0.Ends (i54:Int)).bind fun x77=>(if (!(zq x55 0 x77))=true then
  (some (.ret false)) else (some (.nxt ()))))
def xk (v_0:Readers_)(x93:Reader)(i208:Nat)(x209:Int) : Option (Oc Unit (Oc Unit Bool)):=((zz v_0.Ends (i208:Int)).bind fun x236=>((if
  (!(zq x209 0 x236))=true then (some true) else ((if (decide (x209≠0))=true then ((kn x93.Share (i208:Int)).bind fun v245=>(some (!v245))) else
  (some false)).bind fun v245=>(some v245))).bind fun v242=>(if v242=true then (some (.ret (.ret false))) else (some (.nxt ())))))
def qa0 (v_0:Readers_)(i92:Nat)(x93:Reader)  : Option (Oc Unit Bool):=(if (x93.In&&(decide (x93.Generation=v_0.Generation)))=true then
  ((ya v_0 (i92:Int)).bind fun v322=>((u5 x93.Share v322).bind fun v334=>(if (!v334)=true then (some (.ret false)) else (some (.nxt
  ()))))) else (some (.nxt ())))
def xp (v_0:Readers_)(i92:Nat)(x93:Reader) : Option (Oc Unit Bool):=((if (decide ((List.length x93.Read:Int) ≠
  (List.length v_0.Ends:Int)))=true then (some true) else ((ue x93.Share (List.length v_0.Ends:Int)).bind fun v126=>(some (!v126)))).bind fun v126=>(if
  ((v126||(!(zq x93.Generation 0 v_0.Generation)))||((!x93.In)&&((decide (x93.Generation≠0))||(decide ((0:Int)<(List.length x93.Share:Int))))))=true then
  (some (.ret false)) else (jn (jl (fun i208 x209 _=>xk v_0 x93 i208 x209 ) x93.Read ()) (fun _=>qa0 v_0 i92 x93 ))))
def qem  : Option Bool:=(some true)
def qcd (v_0:Readers_)  : Option Bool:=(jn (jl (fun i92 x93 _=>xp v_0 i92 x93 ) v_0.Readers ()) (fun _=>qem ))
def yi (v_0:Readers_) : Option Bool:=((ki (List.length v_0.Readers:Int) v_0.Ends).bind fun v7=>(if (((!v7.2)||(decide
  ((List.length v_0.Committed:Int)≠(List.length v_0.Ends:Int))))||(!(zq v_0.Generation 0 1000)))=true then (some false) else (jn (jl
  (fun i54 x55 _=>qar v_0 i54 x55 ) v_0.Committed ()) (fun _=>qcd v_0 ))))

def u7 (r_0:Readers_) : Option Bool:=((yi r_0).bind fun v7=>(some v7))

def qef (n_1:Int)(i1:Nat)(x2:Int) : Option (Oc Unit Bool):=(if (decide (x2=n_1))=true then (some (.ret true)) else (some (.nxt ())))
def qiz  : Option Bool:=(some false)
def qfu (l_0:List Int)(n_1:Int) : Option Bool:=(jn (jl (fun i1 x2 _=>qef n_1 i1 x2 ) l_0 ()) (fun _=>qiz ))

def ye (f_1:Reader→Option Bool)(i1:Nat)(x2:Reader) : Option (Oc Unit Int):=((f_1 x2).bind fun v23=>(if v23=true then (some (.ret
  (i1:Int))) else (some (.nxt ()))))
def qbt  : Option Int:=(some (-1))
def yu (s_0:List Reader)(f_1:Reader→Option Bool) : Option Int:=(jn (jl (fun i1 x2 _=>ye f_1 i1 x2 ) s_0 ())
  (fun _=>qbt ))

def uz (x_0:Reader)(cap_0:Readers_)(cap_1:Int) : Option Bool:=((if (x_0.In&&(decide (x_0.Generation=cap_0.Generation)))=true then
  ((kn x_0.Share cap_1).bind fun v19=>(some v19)) else (some false)).bind fun v19=>(some v19))

def wq (r_0:Readers_)(part_1:Int) : Option (Int × Bool):=((yi r_0).bind fun v13=>(if (!v13)=true then (some (0,
  false)) else ((yu r_0.Readers (fun a0=>uz a0 r_0 part_1)).bind fun v17=>(if (decide (v17<0))=true then (some (0,
  false)) else (some (v17,true))))))

def qa2 (r_0:Readers_)(i13:Nat)(x14:Int)(s12:Int) : Option (Oc Int (Int × Bool)):=((zz r_0.Committed (i13:Int)).bind fun x36=>(some (.nxt
  (IntKind.wrap .i64 (s12+(IntKind.wrap .i64 (x14 - x36)))))))
def qej (s41:Int)  : Option (Int × Bool):=(some (s41,true))
def yy (r_0:Readers_) : Option (Int × Bool):=((yi r_0).bind fun v7=>(if (!v7)=true then (some (0,
  false)) else (jn (jl (fun i13 x14 s40=>qa2 r_0 i13 x14 s40) r_0.Ends 0) (fun s48=>qej s48))))

def zx (n_0:Int)(lo_1:Int)(hi_2:Int) : Bool:=((decide (lo_1≤n_0))&&(decide (n_0≤hi_2)))

def qc9 (s10:Int)(x13:Reader)(s45:Int)  : Option (Oc (Int × Int) (List Int)):=(if x13.In=true then (some (.nxt ((IntKind.wrap .i64 (s10+1)),
  s45))) else (some (.nxt (s10,s45))))
def qbq (k_1:Int)(i12:Nat)(x13:Reader)(s10:Int)(s11:Int) : Option (Oc (Int × Int) (List Int)):=((if (decide ((i12:Int)=k_1))=true then
  (some s10) else (some s11)).bind (fun s70=>qc9 s10 x13 s70))
def qbm (s72:Int)(s73:Int)(i92:Nat)(s87:List Int) : Option (Oc (List Int) (List Int)):=((if (decide ((0:Int)<s72))=true then (ck (s72≠0) (some
  (decide ((Int.tmod (i92:Int) s72)=s73)))) else (some false)).bind fun v118=>(if v118=true then ((k7 8 s87 [(i92:Int)]).bind fun l142=>(some (.nxt l142))) else
  (some (.nxt s87))))
def qfm (s154:List Int)  : Option (List Int):=(some s154)
def qdd (r_0:Readers_)(s72:Int)(s73:Int)  : Option (List Int):=(jn (yk (fun i92 s153=>qbm s72 s73 i92 s153) (List.length r_0.Ends:Int)
  ([] : (List Int))) (fun s165=>qfm s165))
def ug (r_0:Readers_)(k_1:Int) : Option (List Int):=(jn (jl (fun i12 x13 s71=>qbq k_1 i12 x13 s71.1 s71.2) r_0.Readers (0,
  0)) (fun s166=>qdd r_0 s166.1 s166.2))

def qc5 (n_1:Int)(i1:Nat)(x2:Int) : Option (Oc Unit Bool):=(if (decide (x2=n_1))=true then (some (.ret true)) else (some (.nxt ())))
def qhh  : Option Bool:=(some false)
def ul (l_0:List Int)(n_1:Int) : Option Bool:=(jn (jl (fun i1 x2 _=>qc5 n_1 i1 x2 ) l_0 ()) (fun _=>qhh ))

def qb3 (l_0:List Int)(many_1:Int)(i1:Nat)(x2:Int) : Option (Oc Unit Bool):=((if ((decide (x2<0))||(decide (many_1≤x2)))=true then
  (some true) else ((if (decide ((0:Int)<(i1:Int)))=true then ((zz l_0 (IntKind.wrap .i64 ((i1:Int) - 1))).bind fun x44=>(some (decide (x2≤x44)))) else
  (some false)).bind fun v44=>(some v44))).bind fun v41=>(if v41=true then (some (.ret false)) else (some (.nxt ()))))
def qf4  : Option Bool:=(some true)
def qcf (l_0:List Int)(many_1:Int) : Option Bool:=(jn (jl (fun i1 x2 _=>qb3 l_0 many_1 i1 x2 ) l_0 ()) (fun _=>qf4 ))

def qc6 (a_0:List Int)(i1:Nat)(x2:Int) : Option (Oc Unit Bool):=((ul a_0 x2).bind fun v23=>(if (!v23)=true then (some (.ret false)) else (some
  (.nxt ()))))
def qhi  : Option Bool:=(some true)
def qfc (a_0:List Int)(b_1:List Int) : Option Bool:=(jn (jl (fun i1 x2 _=>qc6 a_0 i1 x2 ) b_1 ()) (fun _=>qhi ))

def qb7 (a_0:List Int)(b_1:List Int) : Option Bool:=((qfc a_0 b_1).bind fun v1=>(some (v1&&(decide ((List.length a_0:Int) =
  (List.length b_1:Int))))))

def qa9 (v_0:Readers_)(x7:Reader)(i80:Nat)(x81:Int) : Option (Oc Unit Bool):=((zz v_0.Ends (i80:Int)).bind fun x104=>((if
  (!(zx x81 0 x104))=true then (some true) else ((ul x7.Share (i80:Int)).bind fun v110=>(some ((!v110)&&(decide (x81≠0)))))).bind fun v110 =>
  (if v110=true then (some (.ret false)) else (some (.nxt ())))))
def qc1 (v_0:Readers_)(v_1:Int)(x7:Reader)  : Option Bool:=(if ((!x7.In)||(decide (x7.Generation≠v_0.Generation)))=true then (some true) else
  ((ug v_0 v_1).bind fun v166=>((qb7 x7.Share v166).bind fun v178=>(some v178))))
def qbb (v_0:Readers_)(v_1:Int) : Option Bool:=((zz v_0.Readers v_1).bind fun x7=>((if (!(zx x7.Generation 0 v_0.Generation))=true then
  (some true) else ((qcf x7.Share (List.length v_0.Ends:Int)).bind fun v21=>(some (!v21)))).bind fun v21=>(if ((v21||(decide ((List.length x7.Read:Int) ≠
  (List.length v_0.Ends:Int))))||((!x7.In)&&((decide (x7.Generation≠0))||(decide ((0:Int)<(List.length x7.Share:Int))))))=true then (some false) else (jn
  (jl (fun i80 x81 _=>qa9 v_0 x7 i80 x81 ) x7.Read ()) (fun _=>qc1 v_0 v_1 x7 )))))

def qag (v_0:Readers_)(i32:Nat)(x33:Int) : Option (Oc Unit Bool):=((if (!(zx x33 0 100))=true then (some true) else ((zz v_0.Committed
  (i32:Int)).bind fun x57=>(some (!(zx x57 0 x33))))).bind fun v57=>(if v57=true then (some (.ret false)) else (some (.nxt ()))))
def qae (v_0:Readers_)(i84:Nat) : Option (Oc Unit Bool):=((qbb v_0 (i84:Int)).bind fun v105=>(if (!v105)=true then (some
  (.ret false)) else (some (.nxt ()))))
def qdz  : Option Bool:=(some true)
def qbz (v_0:Readers_)  : Option Bool:=(jn (yk (fun i84 _=>qae v_0 i84 ) (List.length v_0.Readers:Int) ())
  (fun _=>qdz ))
def yb (v_0:Readers_) : Option Bool:=(if ((((!(zx (List.length v_0.Readers:Int) 1 5))||(!(zx (List.length v_0.Ends:Int) 1 6)))||(decide
  ((List.length v_0.Committed:Int)≠(List.length v_0.Ends:Int))))||(!(zx v_0.Generation 0 1000)))=true then (some false) else (jn (jl
  (fun i32 x33 _=>qag v_0 i32 x33 ) v_0.Ends ()) (fun _=>qbz v_0 )))

def qdx (v_0:Readers_)(v205:List Int)(i236:Nat)(s233:List Int) : Option (Oc (List Int) (Oc (Readers_ × Reader × (List Int)) (Readers_ × Bool))) :=
  ((zz v205 (i236:Int)).bind fun x261=>((zz v_0.Committed x261).bind fun x266=>((zz s233 x261).bind fun x271=>(some (.nxt (List.set s233 x261.toNat x266))))))
def qgb (v_0:Readers_)(x70:Reader)(v205:List Int)(s283:List Int)  : Option (Oc (Readers_ × Reader × (List Int)) (Readers_ × Bool)):=(some (.nxt (v_0,
  (Reader.mk x70.In v_0.Generation v205 s283),v_0.Committed)))
def yz (v_0:Readers_)(v_1:GroupStep)(s118:Readers_)(s119:Reader)(s128:List Int)  : Option (Readers_ × Bool):=(some ((Readers_.mk s118.Generation
  (List.set v_0.Readers v_1.K.toNat s119) s128 v_0.Ends),true))
def jm (v_0:Readers_)(v_1:GroupStep) : Option (Readers_ × Bool):=(if ((((decide (v_1.K<0))||(decide ((List.length v_0.Readers:Int)≤v_1.K)))||((decide
  (v_1.Kind<4))&&(decide (v_1.Part≠0))))||((decide (v_1.Kind≠4))&&(decide (v_1.N≠0))))=true then (some (v_0,
  false)) else ((zz v_0.Readers v_1.K).bind fun x70=>(jn (if (((decide (v_1.Kind=1))&&(!x70.In))&&(decide (v_0.Generation<1000)))=true then ((mkN 8
  (List.length v_0.Ends:Int) (0:Int)).bind fun l141=>(some (.nxt ((Readers_.mk (IntKind.wrap .i64 (v_0.Generation+1)) v_0.Readers v_0.Committed v_0.Ends),
  (Reader.mk true 0 [] l141),v_0.Committed)))) else (if (!x70.In)=true then (some (.ret (v_0,
  false))) else (if ((decide (v_1.Kind=2))&&(decide (v_0.Generation<1000)))=true then ((mkN 8 (List.length v_0.Ends:Int) (0:Int)).bind fun l175=>(some (.nxt
  ((Readers_.mk (IntKind.wrap .i64 (v_0.Generation+1)) v_0.Readers v_0.Committed v_0.Ends),(Reader.mk false 0 [] l175),
  v_0.Committed)))) else (if ((decide (v_1.Kind=3))&&(decide (x70.Generation≠v_0.Generation)))=true then ((ug v_0 v_1.K).bind fun v205=>((mkN 8
  (List.length v_0.Ends:Int) (0:Int)).bind fun l219=>(jn (yk (fun i236 s282=>qdx v_0 v205 i236 s282) (List.length v205:Int) l219)
  (fun s295=>qgb v_0 x70 v205 s295)))) else ((if (decide (v_1.Kind=4))=true then ((ul x70.Share v_1.Part).bind fun v299=>(some v299)) else
  (some false)).bind fun v299=>(if (v299&&(decide ((1:Int)≤v_1.N)))=true then ((zz v_0.Ends v_1.Part).bind fun x327=>((zz x70.Read v_1.Part).bind fun x332 =>
  (if (decide ((IntKind.wrap .i64 (x327 - x332))≤v_1.N))=true then (some (.nxt (v_0,(Reader.mk x70.In x70.Generation x70.Share (List.set x70.Read v_1.Part.toNat x327)),
  v_0.Committed))) else (some (.nxt (v_0,(Reader.mk x70.In x70.Generation x70.Share (List.set x70.Read v_1.Part.toNat (IntKind.wrap .i64 (x332+v_1.N)))),
  v_0.Committed)))))) else ((if ((decide (v_1.Kind=5))&&(decide (x70.Generation=v_0.Generation)))=true then ((ul x70.Share v_1.Part).bind fun v364 =>
  (some v364)) else (some false)).bind fun v364=>(if v364=true then ((zz x70.Read v_1.Part).bind fun x381=>((zz v_0.Committed v_1.Part).bind fun x386=>(if (decide
  (x386<x381))=true then (some (.nxt ((Readers_.mk v_0.Generation v_0.Readers (List.set v_0.Committed v_1.Part.toNat x381) v_0.Ends),x70,
  (List.set v_0.Committed v_1.Part.toNat x381)))) else (some (.nxt (v_0,x70,v_0.Committed)))))) else (some (.ret (v_0,
  false))))))))))) (fun s424=>yz v_0 v_1 s424.1 s424.2.1 s424.2.2))))

def qcs (l27:List Int)(l36:List Int)(i57:Nat)(x58:Reader)(s52:Readers_) : Option (Oc Readers_ Readers_):=((k7 8
  ([] : List Int) x58.Share).bind fun l92=>((k7 8 ([] : List Int) x58.Read).bind fun l109 =>
  ((k7 64 s52.Readers [(Reader.mk x58.In x58.Generation l92 l109)]).bind fun l126=>(some (.nxt (Readers_.mk s52.Generation l126 l27 l36))))))
def qgo (l27:List Int)(l36:List Int)(s139:Readers_)  : Option Readers_:=(some (Readers_.mk s139.Generation s139.Readers l27 l36))
def uu (r_0:Readers_) : Option Readers_:=((k7 8 ([] : List Int) r_0.Committed).bind fun l27=>((k7 8 ([] : List Int) r_0.Ends).bind fun l36=>(jn (jl
  (fun i57 x58 s138=>qcs l27 l36 i57 x58 s138) r_0.Readers (Readers_.mk r_0.Generation [] l27 l36)) (fun s152=>qgo l27 l36 s152))))

def qad (r_0:Readers_)(x_1:GroupStep) : Option (Readers_ × Bool):=((yb r_0).bind fun v17=>(if (!v17)=true then (some
  ((Readers_.mk 0 [] [] []),false)) else ((uu r_0).bind fun v27=>((jm v27 x_1).bind fun v47=>(if (!v47.2)=true then (some ((Readers_.mk 0 [] [] []),
  false)) else ((uu v47.1).bind fun v65=>(some (v65,true))))))))

def qbl (v_0:Readers_)(v168:List Int)(i218:Nat)(s215:List Int) : Option (Oc (List Int) (Bool × Readers_)):=((zz v168
  (i218:Int)).bind fun x241=>((zz v_0.Committed x241).bind fun x246=>((zz s215 x241).bind fun x251=>(some (.nxt (List.set s215 x241.toNat x246))))))
def qdo (v_0:Readers_)(v_1:GroupStep)(x56:Reader)(v168:List Int)(s263:List Int)  : Option (Bool × Readers_):=(some (true,
  (Readers_.mk v_0.Generation (List.set v_0.Readers v_1.K.toNat (Reader.mk ((Reader.mk x56.In v_0.Generation x56.Share x56.Read).In)
  ((Reader.mk x56.In v_0.Generation x56.Share x56.Read).Generation) v168 s263)) v_0.Committed v_0.Ends)))
def z5 (v_0:Readers_)(v_1:GroupStep)(x56:Reader)(s85:Bool)  : Option (Bool × Readers_):=(if s85=true then (if (decide
  (v_0.Generation=1000))=true then (some (false,v_0)) else ((mkN 8 (List.length v_0.Ends:Int) (0:Int)).bind fun l109=>(some (true,
  (Readers_.mk (IntKind.wrap .i64 (v_0.Generation+1)) (List.set v_0.Readers v_1.K.toNat (Reader.mk (decide (v_1.Kind=1)) 0 [] l109)) v_0.Committed v_0.Ends))))) else (if
  (decide (v_1.Kind=3))=true then (if (decide (x56.Generation=v_0.Generation))=true then (some (false,
  v_0)) else ((ya (Readers_.mk v_0.Generation (List.set v_0.Readers v_1.K.toNat
  (Reader.mk x56.In v_0.Generation x56.Share x56.Read)) v_0.Committed v_0.Ends) v_1.K).bind fun v168=>((mkN 8 (List.length v_0.Ends:Int) (0:Int)).bind fun l199=>(jn
  (yk (fun i218 s262=>qbl v_0 v168 i218 s262) (List.length v168:Int) l199) (fun s277=>qdo v_0 v_1 x56 v168 s277))))) else (if
  (decide (v_1.Kind=4))=true then ((kn x56.Share v_1.Part).bind fun v294=>(if ((!v294)||(decide (v_1.N<1)))=true then (some (false,
  v_0)) else ((zz x56.Read v_1.Part).bind fun x312=>((zz v_0.Ends v_1.Part).bind fun x317=>(some (true,
  (Readers_.mk v_0.Generation (List.set v_0.Readers v_1.K.toNat (Reader.mk x56.In x56.Generation x56.Share (List.set x56.Read v_1.Part.toNat (IntKind.wrap .i64 (x312 +
  (mnI v_1.N (IntKind.wrap .i64 (x317 - x312)))))))) v_0.Committed v_0.Ends))))))) else (if (decide (v_1.Kind=5))=true then (if (!(decide
  (x56.Generation=v_0.Generation)))=true then (some (false,v_0)) else ((kn x56.Share v_1.Part).bind fun v349=>(if (!v349)=true then (some (false,
  v_0)) else ((zz v_0.Committed v_1.Part).bind fun x357=>((zz x56.Read v_1.Part).bind fun x362=>(some (true,
  (Readers_.mk v_0.Generation v_0.Readers (List.set v_0.Committed v_1.Part.toNat (mxI x357 x362)) v_0.Ends)))))))) else (some (false,v_0))))))
def kd (v_0:Readers_)(v_1:GroupStep) : Option (Bool × Readers_):=(if (((!(zq v_1.K 0 (IntKind.wrap .i64 ((List.length v_0.Readers:Int) - 1)))) ||
  ((decide (v_1.Kind≠4))&&(decide (v_1.N≠0))))||(((decide (v_1.Kind≠4))&&(decide (v_1.Kind≠5)))&&(decide (v_1.Part≠0))))=true then (some (false,
  v_0)) else ((zz v_0.Readers v_1.K).bind fun x56=>(if (x56.In == (decide (v_1.Kind=1)))=true then (some (false,
  v_0)) else ((if (decide (v_1.Kind=1))=true then (some (decide (v_1.Kind=1))) else (some (decide (v_1.Kind=2)))).bind
  (fun s376=>z5 v_0 v_1 x56 s376)))))

def qai (l27:List Int)(l36:List Int)(i57:Nat)(x58:Reader)(s52:Readers_) : Option (Oc Readers_ Readers_):=((k7 8
  ([] : List Int) x58.Share).bind fun l92=>((k7 8 ([] : List Int) x58.Read).bind fun l109 =>
  ((k7 64 s52.Readers [(Reader.mk x58.In x58.Generation l92 l109)]).bind fun l126=>(some (.nxt (Readers_.mk s52.Generation l126 l27 l36))))))
def qd1 (l27:List Int)(l36:List Int)(s139:Readers_)  : Option Readers_:=(some (Readers_.mk s139.Generation s139.Readers l27 l36))
def qac (r_0:Readers_) : Option Readers_:=((k7 8 ([] : List Int) r_0.Committed).bind fun l27=>((k7 8 ([] : List Int) r_0.Ends).bind fun l36=>(jn (jl
  (fun i57 x58 s138=>qai l27 l36 i57 x58 s138) r_0.Readers (Readers_.mk r_0.Generation [] l27 l36)) (fun s152=>qd1 l27 l36 s152))))

def u2 (r_0:Readers_)(x_1:GroupStep) : Option (Readers_ × Bool):=((yi r_0).bind fun v17=>(if (!v17)=true then (some
  ((Readers_.mk 0 [] [] []),false)) else ((qac r_0).bind fun v23=>((kd v23 x_1).bind fun v49=>(if (!v49.1)=true then (some
  ((Readers_.mk 0 [] [] []),false)) else (some (v49.2,true)))))))

def qdp (c_0:L1Cur)(s1:Int)  : Option (Int × L1Cur):=(if (decide ((IntKind.wrap .i64 (c_0.at_+1))≤(List.length c_0.code:Int)))=true then (some (s1,
  (L1Cur.mk c_0.code (IntKind.wrap .i64 (c_0.at_+1)) (IntKind.wrap .u64 ((IntKind.wrap .u64 ((IntKind.wrap .u64 (c_0.seed*6364136223846793005)) +
  (IntKind.wrap .u64 s1)))+1442695040888963407))))) else (some ((IntKind.wrap .i64 (qki .u64 (qon .u64 (IntKind.wrap .u64 ((IntKind.wrap .u64 ((IntKind.wrap .u64
  (c_0.seed*6364136223846793005))+(IntKind.wrap .u64 s1)))+1442695040888963407)) 40) 255)),
  (L1Cur.mk c_0.code (IntKind.wrap .i64 (c_0.at_+1)) (IntKind.wrap .u64 ((IntKind.wrap .u64 ((IntKind.wrap .u64 (c_0.seed*6364136223846793005)) +
  (IntKind.wrap .u64 s1)))+1442695040888963407))))))
def qdh (c_0:L1Cur) : Option (Int × L1Cur):=((if (decide (c_0.at_<(List.length c_0.code:Int)))=true then ((zz c_0.code c_0.at_).bind fun x10=>(some
  (IntKind.wrap .i64 x10))) else (some 0)).bind (fun s25=>qdp c_0 s25))

def kc (c_0:L1Cur)(n_1:Int) : Option (Int × L1Cur):=(if (decide (n_1≤1))=true then (some (0,
  c_0)) else ((qdh c_0).bind fun v2=>(if (decide ((200:Int)<n_1))=true then ((qdh v2.2).bind fun v8=>(ck (n_1≠0) (some ((Int.tmod (IntKind.wrap .i64
  ((IntKind.wrap .i64 (v2.1*256))+v8.1)) n_1),v8.2)))) else (ck (n_1≠0) (some ((Int.tmod v2.1 n_1),v2.2))))))

def qa4 (c_0:L1Cur)(list_1:List Int) : Option (Int × L1Cur × (List Int)):=((kc c_0 (List.length list_1:Int)).bind fun v1 =>
  ((zz list_1 v1.1).bind fun x6=>(some (x6,v1.2,list_1))))

def qda (c_0:L1Cur)(n_1:Int) : Option (Bool × L1Cur):=((kc c_0 n_1).bind fun v1=>(some ((decide (v1.1=0)),v1.2)))

def qay (s44:List GroupStep)(s49:Int)(s162:L1Cur)(s163:GroupStep)  : Option (Oc ((List GroupStep) × Int × L1Cur) ((List GroupStep) × L1Cur)) :=
  ((k7 32 s44 [s163]).bind fun l212=>(some (.nxt (l212,(IntKind.wrap .i64 (s49 - 1)),s162))))
def qa1 (s44:List GroupStep)(s49:Int)(s128:L1Cur)(s129:GroupStep)  : Option (Oc ((List GroupStep) × Int × L1Cur) ((List GroupStep) × L1Cur)) :=
  ((qda s128 60).bind fun v157=>((if v157.1=true then ((kc v157.2 7).bind fun v173=>((kc v173.2 7).bind fun v178 =>
  ((kc v178.2 8).bind fun v183=>((kc v183.2 3).bind fun v188=>(some (v188.2,
  (GroupStep.mk v173.1 (IntKind.wrap .i64 (v178.1 - 1)) (IntKind.wrap .i64 (v183.1 - 1)) v188.1))))))) else (some (v157.2,
  s129))).bind (fun s222=>qay s44 s49 s222.1 s222.2)))
def qas (s44:List GroupStep)(s49:Int)(s99:L1Cur)(s100:GroupStep)  : Option (Oc ((List GroupStep) × Int × L1Cur) ((List GroupStep) × L1Cur)):=((if
  (decide (s100.Kind=4))=true then ((kc s99 4).bind fun v139=>(some (v139.2,
  (GroupStep.mk s100.Kind s100.K s100.Part (IntKind.wrap .i64 ((1:Int)+v139.1)))))) else (some (s99,s100))).bind (fun s223=>qa1 s44 s49 s223.1 s223.2))
def yp (readers_1:Int)(parts_2:Int)(s44:List GroupStep)(s49:Int)(s50:L1Cur) : Option (Oc ((List GroupStep) × Int × L1Cur)
  ((List GroupStep) × L1Cur)):=(if (decide ((0:Int)<s49))=true then ((qa4 s50 [1,1,2,3,3,3,4,4,4,5,5,
  5]).bind fun v81=>((kc v81.2.1 readers_1).bind fun v88=>((if (decide ((4:Int)≤v81.1))=true then ((kc v88.2 parts_2).bind fun v110=>(some (v110.2,
  (GroupStep.mk v81.1 v88.1 v110.1 0)))) else (some (v88.2,
  (GroupStep.mk v81.1 v88.1 0 0)))).bind (fun s224=>qas s44 s49 s224.1 s224.2)))) else (some (.brk (s44,s49,s50))))
def qat (s227:List GroupStep)(s232:Int)(s233:L1Cur)  : Option ((List GroupStep) × L1Cur):=(some (s227,s233))
def qb9 (k:Nat)(readers_1:Int)(parts_2:Int)(s11:Int)(s12:L1Cur)  : Option ((List GroupStep) × L1Cur):=(jn (uo
  (fun s226=>yp readers_1 parts_2 s226.1 s226.2.1 s226.2.2) k (([],s11,
  s12) : (List GroupStep) × Int × L1Cur)) (fun s242=>qat s242.1 s242.2.1 s242.2.2))
def ws (k:Nat)(c_0:L1Cur)(readers_1:Int)(parts_2:Int) : Option ((List GroupStep) × L1Cur):=((kc c_0 40).bind fun v1 =>
  ((qda v1.2 8).bind fun v6=>((if v6.1=true then ((kc v6.2 12).bind fun v22=>(some ((IntKind.wrap .i64 ((70:Int)+v22.1)),v22.2))) else (some (v1.1,
  v6.2))).bind (fun s243=>qb9 k readers_1 parts_2 s243.1 s243.2))))

def xh (i18:Nat)(x19:Int) : Option (Oc Unit (Readers_ × Bool)):=(if (!(zx x19 0 100))=true then (some (.ret ((Readers_.mk 0 [] [] []),
  false))) else (some (.nxt ())))
def xx (readers_0:Int)(ends_1:List Int)(l57:List Int)(l76:List Int)(s93:Int)(s94:Readers_) : Option (Oc (Int × Readers_) (Readers_ × Bool)) :=
  (if (decide (s93<readers_0))=true then ((mkN 8 (List.length ends_1:Int) (0:Int)).bind fun l123=>((k7 64 s94.Readers
  ([(Reader.mk false 0 [] l123)])).bind fun l138=>(some (.nxt ((IntKind.wrap .i64 (s93+1)),(Readers_.mk s94.Generation l138 l57 l76)))))) else (some (.brk (s93,
  (Readers_.mk s94.Generation s94.Readers l57 l76)))))
def qek (l57:List Int)(l76:List Int)(s152:Int)(s153:Readers_)  : Option (Readers_ × Bool):=(some ((Readers_.mk s153.Generation s153.Readers l57 l76),
  true))
def qci (k:Nat)(readers_0:Int)(ends_1:List Int)  : Option (Readers_ × Bool):=((mkN 8 (List.length ends_1:Int) (0:Int)).bind fun l57=>((k7 8
  ([] : List Int) ends_1).bind fun l76=>(jn (uo (fun s151=>xx readers_0 ends_1 l57 l76 s151.1 s151.2) k (0,
  (Readers_.mk 0 [] l57 l76))) (fun s168=>qek l57 l76 s168.1 s168.2))))
def kt (k:Nat)(readers_0:Int)(ends_1:List Int) : Option (Readers_ × Bool):=(if ((!(zx readers_0 1 5))||(!(zx
  (List.length ends_1:Int) 1 6)))=true then (some ((Readers_.mk 0 [] [] []),
  false)) else (jn (jl (fun i18 x19 _=>xh i18 x19 ) ends_1 ()) (fun _=>qci k readers_0 ends_1 )))

def qby (s62:List Bool)(v136:Readers_ × Bool)(s151:Readers_)  : Option (Oc ((List Bool) × Readers_) (Readers_ × (List Bool) × Bool)) :=
  ((k7 1 s62 [v136.2]).bind fun l192=>(some (.nxt (l192,s151))))
def y3 (i80:Nat)(x81:GroupStep)(s62:List Bool)(s67:Readers_) : Option (Oc ((List Bool) × Readers_) (Readers_ × (List Bool) × Bool)) :=
  ((uu s67).bind fun v116=>((jm v116 x81).bind fun v136=>((if v136.2=true then (some v136.1) else (some s67)).bind
  (fun s202=>qby s62 v136 s202))))
def qb0 (s204:List Bool)(s209:Readers_)  : Option (Readers_ × (List Bool) × Bool):=((uu s209).bind fun v229=>(some (v229,s204,true)))
def wa (k:Nat)(readers_0:Int)(ends_1:List Int)(l_2:List GroupStep) : Option (Readers_ × (List Bool) × Bool) :=
  ((kt k readers_0 ends_1).bind fun v5=>(if ((!v5.2)||(decide ((80:Int)<(List.length l_2:Int))))=true then (some ((Readers_.mk 0 [] [] []),[],
  false)) else (jn (jl (fun i80 x81 s203=>y3 i80 x81 s203.1 s203.2) l_2 (([],
  v5.1) : (List Bool) × Readers_)) (fun s251=>qb0 s251.1 s251.2))))

def qbg (s13:List Int)(s18:Int)(s19:L1Cur) : Option (Oc ((List Int) × Int × L1Cur) ((List Int) × L1Cur)):=(if (decide ((0:Int)<s18))=true then
  ((qa4 s19 [0,3,5,100]).bind fun v48=>((k7 8 s13 [v48.1]).bind fun l61=>(some (.nxt (l61,(IntKind.wrap .i64 (s18 - 1)),v48.2.1))))) else (some (.brk (s13,
  s18,s19))))
def qcb (s73:List Int)(s78:Int)(s79:L1Cur)  : Option ((List Int) × L1Cur):=((qda s79 30).bind fun v86=>(if v86.1=true then ((qa4 v86.2 [(-1),
  101]).bind fun v98=>((zz s73 (0:Int)).bind fun x105=>(some ((List.set s73 (0:Int).toNat v98.1),v98.2.1)))) else (some (s73,v86.2))))
def qdf (k:Nat)(c_0:L1Cur) : Option ((List Int) × L1Cur):=((kc c_0 6).bind fun v1=>(jn (uo (fun s72=>qbg s72.1 s72.2.1 s72.2.2) k (([],
  (IntKind.wrap .i64 ((1:Int)+v1.1)),v1.2) : (List Int) × Int × L1Cur)) (fun s115=>qcb s115.1 s115.2.1 s115.2.2)))

def qb1 (v19:(List GroupStep) × L1Cur)(s88:Readers_)  : Option (Readers_ × L1Cur):=((kc v19.2 30).bind fun v145=>(if (decide (v145.1=0))=true then
  ((qa4 v145.2 [(-1),1000,1001]).bind fun v157=>(some ((Readers_.mk v157.1 s88.Readers s88.Committed s88.Ends),
  v157.2.1))) else (if (decide (v145.1=1))=true then ((kc v145.2 200).bind fun v169=>((zz s88.Committed (0:Int)).bind fun x174=>(some
  ((Readers_.mk s88.Generation s88.Readers (List.set s88.Committed (0:Int).toNat v169.1) s88.Ends),
  v169.2)))) else (if (decide (v145.1=2))=true then ((zz s88.Readers (0:Int)).bind fun x193=>(some ((Readers_.mk s88.Generation (List.set s88.Readers (0:Int).toNat
  (Reader.mk x193.In x193.Generation [0] x193.Read)) s88.Committed s88.Ends),v145.2))) else (some (s88,v145.2))))))
def qb2 (k:Nat)(v5:Int × L1Cur)(v10:(List Int) × L1Cur)(v19:(List GroupStep) × L1Cur)(s28:List GroupStep)  : Option (Readers_ × L1Cur) :=
  ((wa k (IntKind.wrap .i64 ((1:Int)+v5.1)) v10.1 s28).bind fun v58=>((if (!v58.2.2)=true then ((kt k 1 [3]).bind fun v115 =>
  (some v115.1)) else (some v58.1)).bind (fun s226=>qb1 v19 s226)))
def xv (k:Nat)(c_0:L1Cur) : Option (Readers_ × L1Cur):=((kc c_0 5).bind fun v5=>((qdf k v5.2).bind fun v10=>((ws k v10.2
  (IntKind.wrap .i64 ((1:Int)+v5.1)) (List.length v10.1:Int)).bind fun v19=>((if (decide ((80:Int)<(List.length v19.1:Int)))=true then
  ((sl v19.1 0 80).bind fun l41=>(some l41)) else (some v19.1)).bind (fun s227=>qb2 k v5 v10 v19 s227)))))

def wo (k:Nat)(code_0:List Int) : Option (Readers_ × GroupStep):=((xv k (L1Cur.mk code_0 0 0)).bind fun v13=>((ws k v13.2
  (List.length v13.1.Readers:Int) (List.length v13.1.Ends:Int)).bind fun v38=>(if (decide ((List.length v38.1:Int)=0))=true then (some (v13.1,
  (GroupStep.mk 1 0 0 0))) else ((zz v38.1 (0:Int)).bind fun x52=>(some (v13.1,x52))))))

def xl (r_0:Readers_)(k_1:Int) : Option ((List Int) × Bool):=((yi r_0).bind fun v7=>((if ((!v7)||(!(zq k_1 0 (IntKind.wrap .i64
  ((List.length r_0.Readers:Int) - 1)))))=true then (some true) else ((zz r_0.Readers k_1).bind fun x22=>(some (!x22.In)))).bind fun v22=>(if v22=true then (some
  ([],false)) else ((ya r_0 k_1).bind fun v37=>(some (v37,true))))))

def u1 (k:Nat)(code_0:List Int) : Option (Readers_ × Int):=((xv k (L1Cur.mk code_0 0 0)).bind fun v9=>((kc v9.2 (IntKind.wrap .i64
  ((List.length v9.1.Readers:Int)+1))).bind fun v34=>(some (v9.1,v34.1))))

def qbh (r_0:Readers_)(k_1:Int) : Option ((List Int) × Bool):=((yb r_0).bind fun v7=>((if (((!v7)||(decide (k_1<0)))||(decide
  ((List.length r_0.Readers:Int)≤k_1)))=true then (some true) else ((zz r_0.Readers k_1).bind fun x31=>(some (!x31.In)))).bind fun v31=>(if v31=true then (some
  ([],false)) else ((ug r_0 k_1).bind fun v46=>(some (v46,true))))))

def u6 (k:Nat)(code_0:List Int) : Option (Readers_ × Int):=((xv k (L1Cur.mk code_0 0 0)).bind fun v9=>((kc v9.2 (IntKind.wrap .i64
  ((List.length v9.1.Ends:Int)+2))).bind fun v34=>(some (v9.1,(IntKind.wrap .i64 (v34.1 - 1))))))

def x4 (r_0:Readers_)(part_1:Int)(i29:Nat)(x30:Reader) : Option (Oc Unit (Int × Bool)):=((if (x30.In&&(decide
  (x30.Generation=r_0.Generation)))=true then ((ul x30.Share part_1).bind fun v77=>(some v77)) else (some false)).bind fun v77=>(if v77=true then (some (.ret
  ((i29:Int),true))) else (some (.nxt ()))))
def qdk  : Option (Int × Bool):=(some (0,false))
def xn (r_0:Readers_)(part_1:Int) : Option (Int × Bool):=((yb r_0).bind fun v7=>(if (((!v7)||(decide (part_1<0)))||(decide
  ((List.length r_0.Ends:Int)≤part_1)))=true then (some (0,
  false)) else (jn (jl (fun i29 x30 _=>x4 r_0 part_1 i29 x30 ) r_0.Readers ()) (fun _=>qdk ))))

def qbn (k:Nat)(code_0:List Int) : Option Readers_:=((xv k (L1Cur.mk code_0 0 0)).bind fun v9=>(some v9.1))

def qah (k:Nat)(code_0:List Int) : Option Readers_:=((qbn k code_0).bind fun v5=>(some v5))

def qb6 (r_0:Readers_)(i13:Nat)(x14:Int)(s12:Int) : Option (Oc Int (Int × Bool)):=((zz r_0.Committed (i13:Int)).bind fun x36=>(some (.nxt
  (IntKind.wrap .i64 (s12+(IntKind.wrap .i64 (x14 - x36)))))))
def qeq (s41:Int)  : Option (Int × Bool):=(some (s41,true))
def uc (r_0:Readers_) : Option (Int × Bool):=((yb r_0).bind fun v7=>(if (!v7)=true then (some (0,
  false)) else (jn (jl (fun i13 x14 s40=>qb6 r_0 i13 x14 s40) r_0.Ends 0) (fun s48=>qeq s48))))

def w7 (k:Nat)(code_0:List Int) : Option (Int × (List Int)):=((kc (L1Cur.mk code_0 0 0) 7).bind fun v5=>((qdf k v5.2).bind fun v10=>(some
  (v5.1,v10.1))))

def qb4 (readers_0:Int)(ends_1:List Int) : Option (Readers_ × Bool):=((ki readers_0 ends_1).bind fun v5=>(some (v5.1,v5.2)))

def ym (i267:Nat)(x268:Int)(s262:List Int) : Option (Oc (List Int) (Oc ((List Int) × (List Reader)) (Oc Unit Bool))) :=
  ((qfu s262 x268).bind fun v294=>(if v294=true then (some (.ret (.ret (.ret false)))) else ((k7 8 s262 [x268]).bind fun l311=>(some (.nxt l311)))))
def qbd (s186:List Reader)(s322:List Int)  : Option (Oc ((List Int) × (List Reader)) (Oc Unit Bool)):=(some (.nxt (s322,s186)))
def we (v38:Readers_ × Bool)(i189:Nat)(s181:List Int)(s186:List Reader) : Option (Oc ((List Int) × (List Reader)) (Oc Unit Bool)):=((zz s186
  (i189:Int)).bind fun x213=>((xl (Readers_.mk v38.1.Generation s186 v38.1.Committed v38.1.Ends) (i189:Int)).bind fun v245=>(if
  (!(v245.2 == x213.In))=true then (some (.ret (.ret false))) else (jn (jl (fun i267 x268 s321=>ym i267 x268 s321) v245.1 s181)
  (fun s338=>qbd s186 s338)))))
def wd (i363:Nat)(s359:Bool)(s360:List Reader) : Option (Oc (Bool × (List Reader)) (Oc Unit Bool)):=((zz s360 (i363:Int)).bind fun x388=>(some
  (.nxt ((s359||x388.In),s360))))
def qbf (v38:Readers_ × Bool)(s340:List Int)(s435:Bool)(s436:List Reader)  : Option (Oc Unit Bool):=(if (s435&&(decide
  ((List.length s340:Int)≠(List.length v38.1.Ends:Int))))=true then (some (.ret false)) else (some (.nxt ())))
def qbj (v38:Readers_ × Bool)(s340:List Int)(s345:List Reader)  : Option (Oc Unit Bool):=(jn (yk
  (fun i363 s434=>wd i363 s434.1 s434.2) (List.length s345:Int) (false,s345)) (fun s458=>qbf v38 s340 s458.1 s458.2))
def ud (k:Nat)(v_1:List Int)  : Option Bool:=((u1 k v_1).bind fun v465=>((xl v465.1 v465.2).bind fun v493 =>
  ((qbh v465.1 v465.2).bind fun v496=>((u6 k v_1).bind fun v499=>((wq v499.1 v499.2).bind fun v527 =>
  ((xn v499.1 v499.2).bind fun v530=>((qah k v_1).bind fun v533=>((yy v533).bind fun v561=>((uc v533).bind fun v564 =>
  ((w7 k v_1).bind fun v567=>((qb4 v567.1 v567.2).bind fun v579=>((kt k v567.1 v567.2).bind fun v590=>((if
  (v493.2 == v496.2)=true then ((kz v493.1 v496.1).bind fun v621=>(some v621)) else (some false)).bind fun v621=>((if (((((v621&&(v527.2 == v530.2)) &&
  (decide (v527.1=v530.1)))&&(v561.2 == v564.2))&&(decide (v561.1=v564.1)))&&(v579.2 == v590.2))=true then ((xa v579.1 v590.1).bind fun v713 =>
  (some v713)) else (some false)).bind fun v713=>(some v713)))))))))))))))
def xu (k:Nat)(v_0:List Int)(v_1:List Int) : Option Bool:=(if (decide ((1048576:Int)<(IntKind.wrap .i64 ((List.length v_0:Int) +
  (List.length v_1:Int)))))=true then (some true) else ((wo k v_0).bind fun v2=>((u2 v2.1 v2.2).bind fun v38 =>
  ((qad v2.1 v2.2).bind fun v66=>(if (!(v38.2 == v66.2))=true then (some false) else ((xa v38.1 v66.1).bind fun v95=>(if (!v95)=true then
  (some false) else ((u7 v2.1).bind fun v99=>((yb v2.1).bind fun v102=>(if (!(v99 == v102))=true then (some false) else (jn
  (if v38.2=true then ((u7 v38.1).bind fun v114=>(if (!v114)=true then (some (.ret false)) else
  ((kz v38.1.Committed v2.1.Committed).bind fun v119=>((if (!v119)=true then ((if (decide (v2.2.Kind≠5))=true then (some true) else
  ((zz v2.1.Readers v2.2.K).bind fun x128=>(some (decide (x128.Generation≠v2.1.Generation))))).bind fun v128=>(some v128)) else (some false)).bind fun v125 =>
  (if v125=true then (some (.ret false)) else (jn (yk (fun i189 s339=>we v38 i189 s339.1 s339.2) (List.length v38.1.Readers:Int) (([],
  v38.1.Readers) : (List Int) × (List Reader))) (fun s459=>qbj v38 s459.1 s459.2))))))) else (some (.nxt ())))
  (fun _=>ud k v_1 ))))))))))))
end Go.Proofs.Ytdhibknhejhfaaa.X
