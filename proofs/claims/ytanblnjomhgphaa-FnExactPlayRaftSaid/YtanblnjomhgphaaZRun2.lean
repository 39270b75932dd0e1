/- Running X's code by rewriting: the other operations; regions of open order. -/
import Derived.Test.YtanblnjomhgphaaZRun
open List renaming nil_append→a0y
set_option linter.unusedVariables false
set_option linter.unusedSimpArgs false
namespace Go.Proofs.Ytanblnjomhgphaa.X
open Go

def pst (W:Nat→Bool)(h:Heap)(n:Nat)(v0:XV)(v1:XV) : Option (XV × Heap):=q8 W (XO.ev fun _ => .undef) h (.st n (.c v0) (.c v1))
def wx (W:Nat→Bool)(h:Heap)(ty esz bytes:Nat)(v0:XV)(v1:XV) : Option (XV × Heap):=q8 W (XO.ev fun _ => .undef) h (.app ty esz bytes (.c v0) (.c v1))
def q1a (W:Nat→Bool)(h:Heap)(ty:Nat)(zero:List XV)(v0:XV) : Option (XV × Heap):=q8 W (XO.ev fun _ => .undef) h (.clr ty zero (.c v0))
def qqw (W:Nat→Bool)(h:Heap)(ty n:Nat)(v0:XV) : Option (XV × Heap):=q8 W (XO.ev fun _ => .undef) h (.box ty n (.c v0))
def qmx (W:Nat→Bool)(h:Heap)(ty:Nat)(zero:List XV)  : Option (XV × Heap):=q8 W (XO.ev fun _ => .undef) h (.new ty zero)
def qkw (W:Nat→Bool)(h:Heap)(ty esz bytes:Nat)(zero:List XV)(v0:XV)(v1:XV) : Option (XV × Heap):=q8 W (XO.ev fun _ => .undef) h (.mkS ty esz bytes zero (.c v0) (.c v1))
def ww (h:Heap)(ty esz:Nat)(x:XV)(lo hi mx:Option XV) : Option XV :=
 match ky lo,ky hi,ky mx with
 | some l,some e,some m=>yy h ty esz x l e m
 | _,_,_=>none
def qhd (zero:List XV)(ps:List (Nat × Nat × XV)) : Option XV:=(fill zero ps).map .agg
def wy (h:Heap)(ty len:Nat)(zero:List XV)(ps:List (Nat × Nat × XV)) : Option (XV × Heap):=(fill zero ps).map fun cs=>(.row h.length 0 len len,h++[⟨cs,ty,true⟩])
def qhc (mx:Bool) : List XV→Option XV
 | .int k a::r=>qet mx a k r
 | _=>none
def evp (fr:Fr)(p:Nat × Nat × XO) : Nat × Nat × XV:=(p.1,p.2.1,p.2.2.ev fr)

def Put1D (E:Env)(W:Nat→Bool)(o:Option XV)(d:Option Nat)(hs:Nat)(r:List XOper)(ld wr:List Nat)(k:List It)(Q:QE)(fr:Fr)(h:Heap) : Prop :=
 match o with
 | some v=>Run E W (.draw hs r ld wr::k) Q (fr.put d v) h
 | none=>False
def Put2D (E:Env)(W:Nat→Bool)(o:Option (XV × Heap))(d:Option Nat)(hs:Nat)(r:List XOper)(ld wr:List Nat)(k:List It)(Q:QE)(fr:Fr) : Prop :=
 match o with
 | some (v,h)=>Run E W (.draw hs r ld wr::k) Q (fr.put d v) h
 | none=>False
def LdD (E:Env)(W:Nat→Bool)(n:Option Nat)(v:XV)(d:Option Nat)(hs:Nat)(r:List XOper)(ld wr:List Nat)(k:List It)(Q:QE)(fr:Fr)(h:Heap) : Prop :=
 match v with
 | .ptr b o=>(b<hs∧wr.contains b=false)∧Put1D E W (xld h n (.ptr b o)) d hs r (b::ld) wr k Q fr h
 | v=>Put1D E W (xld h n v) d hs r ld wr k Q fr h
def GuardD (E:Env)(W:Nat→Bool)(v:XV)(want:Bool)(o:XOper)(hs:Nat)(r:List XOper)(ld wr:List Nat)(k:List It)(Q:QE)(fr:Fr)(h:Heap) : Prop :=
 match v with
 | .bool b=>if b=want then Run E W (.draw hs (o::r) ld wr::k) Q fr h else Run E W (.draw hs r ld wr::k) Q (fr.put o.dst (.tup [])) h
 | .tup _=>Run E W (.draw hs r ld wr::k) Q (fr.put o.dst (.tup [])) h
 | _=>False
def CallD (E:Env)(W:Nat→Bool)(f:XV)(args:List XV)(d:Option Nat)(hs:Nat)(r:List XOper)(ld wr:List Nat)(k:List It)(Q:QE)(fr:Fr)(h:Heap) : Prop :=
 CallW E W f args h (fun v h'=>Run E W (.draw hs r ld wr::k) Q (fr.put d v) h')
def CallQ (E:Env)(W:Nat→Bool)(f:XV)(args:List XV)(ms:List Nat)(d:Option Nat)(hs:Nat)(r:List XOper)(ld wr:List Nat)(k:List It)(Q:QE)(fr:Fr)(h:Heap) : Prop :=
 wa ms ld=true∧CallW E (u6 W hs ms) f args h (fun v h'=>Run E W (.draw hs r ld (ms++wr)::k) Q (fr.put d v) h')
def qjp (E:Env)(f:XV)(args:List XV) : List Nat :=
 match f with
 | .fn g caps=>if E.mode g≠0 then [] else (args++caps).flatMap qrg
 | _=>[]
def QuietD (E:Env)(W:Nat→Bool)(o:(Nat→Bool)→Option (XV × Heap))(ms:List Nat)(d:Option Nat)(hs:Nat)(r:List XOper)(ld wr:List Nat)(k:List It)(Q:QE)(fr:Fr) : Prop :=
 wa ms ld=true∧Put2D E W (o (u6 W hs ms)) d hs r ld (ms++wr) k Q fr

section
variable {E:Env}{W:Nat→Bool}{k:List It}{Q:QE}{fr:Fr}{h:Heap}{r:List XOper}{d:Option Nat}{cl hs:Nat}{ld wr:List Nat}{kk:IntKind}

theorem zd {n:Nat}{x y:XO} : Run E W (.ops (⟨d,.st n x y,none,cl⟩::r)::k) Q fr h=Put2 E W (pst W h n (x.ev fr) (y.ev fr)) d r k Q fr:=by
 rw [run_pure (fun _ _ e=>by cases e)]; rfl
theorem wc {ty esz bytes:Nat}{x y:XO} : Run E W (.ops (⟨d,.app ty esz bytes x y,none,cl⟩::r)::k) Q fr h=Put2 E W (wx W h ty esz bytes (x.ev fr) (y.ev fr)) d r k Q fr:=by
 rw [run_pure (fun _ _ e=>by cases e)]; rfl
theorem zal {ty:Nat}{zero:List XV}{x:XO} : Run E W (.ops (⟨d,.clr ty zero x,none,cl⟩::r)::k) Q fr h=Put2 E W (q1a W h ty zero (x.ev fr)) d r k Q fr:=by
 rw [run_pure (fun _ _ e=>by cases e)]; rfl
theorem kt {ty n:Nat}{x:XO} : Run E W (.ops (⟨d,.box ty n x,none,cl⟩::r)::k) Q fr h=Put2 E W (qqw W h ty n (x.ev fr)) d r k Q fr:=by
 rw [run_pure (fun _ _ e=>by cases e)]; rfl
theorem jm {ty:Nat}{zero:List XV} : Run E W (.ops (⟨d,.new ty zero,none,cl⟩::r)::k) Q fr h=Put2 E W (qmx W h ty zero ) d r k Q fr:=by
 rw [run_pure (fun _ _ e=>by cases e)]; rfl
theorem qj3 {ty esz bytes:Nat}{zero:List XV}{x y:XO} : Run E W (.ops (⟨d,.mkS ty esz bytes zero x y,none,cl⟩::r)::k) Q fr h=Put2 E W (qkw W h ty esz bytes zero (x.ev fr) (y.ev fr)) d r k Q fr:=by
 rw [run_pure (fun _ _ e=>by cases e)]; rfl
theorem qmi {ty esz:Nat}{x:XO}{lo hi mx:Option XO} : Run E W (.ops (⟨d,.slc ty esz x lo hi mx,none,cl⟩::r)::k) Q fr h=Put1 E W (ww h ty esz (x.ev fr) (lo.map (XO.ev fr)) (hi.map (XO.ev fr)) (mx.map (XO.ev fr))) d r k Q fr h:=by
 rw [run_pure (fun _ _ e=>by cases e)]
 refine qa3 ?_
 simp only [q8,ww]
 cases ky (lo.map (XO.ev fr)) <;> try rfl
 cases ky (hi.map (XO.ev fr)) <;> try rfl
 cases ky (mx.map (XO.ev fr)) <;> try rfl
 rename_i l e m
 dsimp only
 cases yy h ty esz (x.ev fr) l e m <;> rfl
theorem run_build {zero:List XV}{ps:List (Nat × Nat × XO)} : Run E W (.ops (⟨d,.build zero ps,none,cl⟩::r)::k) Q fr h=Put1 E W (qhd zero (ps.map (evp fr))) d r k Q fr h:=by
 rw [run_pure (fun _ _ e=>by cases e)]
 refine qa3 ?_
 simp only [q8,qhd]
 have e:ps.map (fun p=>(p.1,p.2.1,XO.ev fr p.2.2))=ps.map (evp fr):=rfl
 rw [e]
 cases fill zero (ps.map (evp fr)) <;> rfl
theorem kc {ty len:Nat}{zero:List XV}{ps:List (Nat × Nat × XO)} : Run E W (.ops (⟨d,.buildS ty len zero ps,none,cl⟩::r)::k) Q fr h=Put2 E W (wy h ty len zero (ps.map (evp fr))) d r k Q fr:=by
 rw [run_pure (fun _ _ e=>by cases e)]
 congr 1
 simp only [q8,wy]
 have e:ps.map (fun p=>(p.1,p.2.1,XO.ev fr p.2.2))=ps.map (evp fr):=rfl
 rw [e]
 cases fill zero (ps.map (evp fr)) <;> rfl
theorem zap {mx:Bool}{xs:List XO} : Run E W (.ops (⟨d,.mnx mx xs,none,cl⟩::r)::k) Q fr h=Put1 E W (qhc mx (xs.map (XO.ev fr))) d r k Q fr h:=by
 rw [run_pure (fun _ _ e=>by cases e)]
 refine qa3 ?_
 simp only [q8]
 cases xs.map (XO.ev fr) with
 | nil=>rfl
 | cons v vs =>
  cases v <;> try rfl
  rename_i k0 a0
  simp only [qhc]
  cases qet mx a0 k0 vs <;> rfl

theorem za:Run E W (.draw hs [] ld wr::k) Q fr h=Run E W k Q fr h:=(rfl)
theorem qh {v:XV} : Put1D E W (some v) d hs r ld wr k Q fr h=Run E W (.draw hs r ld wr::k) Q (fr.put d v) h:=(rfl)
theorem qy {op:XOp}{g:Nat}{want:Bool} : Run E W (.draw hs (⟨d,op,some (g,want),cl⟩::r) ld wr::k) Q fr h=GuardD E W (fr g) want ⟨d,op,none,cl⟩ hs r ld wr k Q fr h:=by
 show WD E W hs (⟨d,op,some (g,want),cl⟩::r) ld wr _ fr h=_
 simp only [WD,GuardD]
 cases fr g <;> rfl
theorem z5 {o:XOper} : GuardD E W (.bool true) true o hs r ld wr k Q fr h=Run E W (.draw hs (o::r) ld wr::k) Q fr h:=by simp [GuardD]
theorem z6 {o:XOper} : GuardD E W (.bool false) false o hs r ld wr k Q fr h=Run E W (.draw hs (o::r) ld wr::k) Q fr h:=by simp [GuardD]
theorem qa5 {o:XOper} : GuardD E W (.bool false) true o hs r ld wr k Q fr h=Run E W (.draw hs r ld wr::k) Q (fr.put o.dst (.tup [])) h:=by simp [GuardD]
theorem xy {o:XOper} : GuardD E W (.bool true) false o hs r ld wr k Q fr h=Run E W (.draw hs r ld wr::k) Q (fr.put o.dst (.tup [])) h:=by simp [GuardD]
theorem qlh {o:XOper}{want:Bool}{vs:List XV} : GuardD E W (.tup vs) want o hs r ld wr k Q fr h=Run E W (.draw hs r ld wr::k) Q (fr.put o.dst (.tup [])) h:=(rfl)
theorem ye {o:XOper}{t want:Bool}(h1:t=true→GuardD E W (.bool true) want o hs r ld wr k Q fr h)(h2:t=false→GuardD E W (.bool false) want o hs r ld wr k Q fr h) : GuardD E W (.bool t) want o hs r ld wr k Q fr h:=by
 cases t
 ·exact h2 rfl
 ·exact h1 rfl
theorem xd {op:XOp} : Run E W (.draw hs (⟨d,op,none,4⟩::r) ld wr::k) Q fr h=Put2D E W (q8 (fun _=>false) (XO.ev fr) h op) d hs r ld wr k Q fr:=by
 simp only [Run,yq,WD,OpD,Put2D]
 rw [if_neg (by decide),if_pos trivial]
 cases q8 (fun _=>false) (XO.ev fr) h op <;> rfl
theorem qhf {op:XOp}(hf:j6 (XO.ev fr) op=[]) : Run E W (.draw hs (⟨d,op,none,1⟩::r) ld wr::k) Q fr h=Put2D E W (q8 (fun _=>false) (XO.ev fr) h op) d hs r ld wr k Q fr:=by
 simp only [Run,yq,WD,OpD,Put2D,hf]
 rw [if_pos trivial]
 simp only [List.all_nil,wa,true_and,a0y]
 cases q8 (fun _=>false) (XO.ev fr) h op <;> rfl
theorem y6 {o:Option XV} : Put2D E W (o.map fun v=>(v,h)) d hs r ld wr k Q fr=Put1D E W o d hs r ld wr k Q fr h:=by
 cases o <;> rfl
theorem qxj {op:BinOp}{x y:XO} : q8 W (XO.ev fr) h (.bin op x y)=(wj op (x.ev fr) (y.ev fr)).map fun v=>(v,h):=by
 simp only [q8]; cases wj op (x.ev fr) (y.ev fr) <;> rfl
theorem zef {op:UnOp}{x:XO} : q8 W (XO.ev fr) h (.un op x)=(xun op (x.ev fr)).map fun v=>(v,h):=by
 simp only [q8]; cases xun op (x.ev fr) <;> rfl
theorem q14 {n:Option Nat}{x:XO} : q8 W (XO.ev fr) h (.ld n x)=(xld h n (x.ev fr)).map fun v=>(v,h):=by
 cases n with
 | none =>
  simp only [q8]
  cases x.ev fr <;> simp only [xld] <;> try rfl
  ·rename_i cs o
   cases cs[o]? <;> rfl
  ·rename_i b o
   cases qac h b o <;> rfl
 | some n =>
  simp only [q8]
  cases x.ev fr <;> simp only [xld] <;> try rfl
  ·split <;> rfl
  ·rename_i b o
   cases kn h b o n <;> rfl
theorem q99 {off:Nat}{x:XO} : q8 W (XO.ev fr) h (.fa off x)=(xfa off (x.ev fr)).map fun v=>(v,h):=by
 simp only [q8]; cases x.ev fr <;> rfl
theorem ze8 {esz:Nat}{x i:XO} : q8 W (XO.ev fr) h (.ia esz x i)=(xia esz (x.ev fr) (i.ev fr)).map fun v=>(v,h):=by
 simp only [q8]
 cases x.ev fr <;> cases i.ev fr <;> simp only [xia] <;> try rfl
 ·rename_i es kk n
  by_cases h0:0≤n
  ·rw [if_pos h0,if_pos h0]
   cases es[n.toNat]? with
   | none=>rfl
   | some cs =>
    dsimp only
    by_cases hc:cs.length=esz
    ·rw [if_pos hc,if_pos hc]; rfl
    ·rw [if_neg hc,if_neg hc]; rfl
  ·rw [if_neg h0,if_neg h0]; rfl
 ·split <;> rfl
theorem qr7 {x:XO} : q8 W (XO.ev fr) h (.len x)=(qgd (x.ev fr)).map fun v=>(v,h):=by
 simp only [q8]; cases x.ev fr <;> rfl
theorem za6 {c x y:XO} : q8 W (XO.ev fr) h (.pick c x y)=(qlz (c.ev fr) (x.ev fr) (y.ev fr)).map fun v=>(v,h):=by
 simp only [q8]
 cases c.ev fr <;> try rfl
 rename_i t
 cases t <;> rfl
theorem qs7 {x:XO}{i:Nat} : q8 W (XO.ev fr) h (.ext x i)=(qi0 i (x.ev fr)).map fun v=>(v,h):=by
 simp only [q8]
 cases x.ev fr <;> try rfl
 rename_i vs
 simp only [qi0]
 cases vs[i]? <;> rfl
theorem zc0 {x:XO} : q8 W (XO.ev fr) h (.chk x)=(qq2 (x.ev fr)).map fun v=>(v,h):=by
 simp only [q8]; cases x.ev fr <;> rfl
theorem zco {n:Bool}{x y:XO} : q8 W (XO.ev fr) h (.eqb n x y)=(qqt n (x.ev fr) (y.ev fr)).map fun v=>(v,h):=by
 simp only [q8]
 cases x.ev fr <;> cases y.ev fr <;> rfl
theorem zds {kk:IntKind}{x:XO} : q8 W (XO.ev fr) h (.cvt kk x)=(qrd kk (x.ev fr)).map fun v=>(v,h):=by
 simp only [q8]; cases x.ev fr <;> rfl
theorem qss {ty esz:Nat}{x:XO}{lo hi mx:Option XO} : q8 W (XO.ev fr) h (.slc ty esz x lo hi mx)=(ww h ty esz (x.ev fr) (lo.map (XO.ev fr)) (hi.map (XO.ev fr)) (mx.map (XO.ev fr))).map fun v=>(v,h):=by
 simp only [q8,ww]
 cases ky (lo.map (XO.ev fr)) <;> try rfl
 cases ky (hi.map (XO.ev fr)) <;> try rfl
 cases ky (mx.map (XO.ev fr)) <;> try rfl
 rename_i l e m
 dsimp only
 cases yy h ty esz (x.ev fr) l e m <;> rfl
theorem qz0 {zero:List XV}{ps:List (Nat × Nat × XO)} : q8 W (XO.ev fr) h (.build zero ps)=(qhd zero (ps.map (evp fr))).map fun v=>(v,h):=by
 simp only [q8,qhd]
 have e:ps.map (fun p=>(p.1,p.2.1,XO.ev fr p.2.2))=ps.map (evp fr):=rfl
 rw [e]
 cases fill zero (ps.map (evp fr)) <;> rfl
theorem zbx {mx:Bool}{xs:List XO} : q8 W (XO.ev fr) h (.mnx mx xs)=(qhc mx (xs.map (XO.ev fr))).map fun v=>(v,h):=by
 simp only [q8]
 cases xs.map (XO.ev fr) with
 | nil=>rfl
 | cons v vs =>
  cases v <;> try rfl
  rename_i k0 a0
  simp only [qhc]
  cases qet mx a0 k0 vs <;> rfl
theorem q9h {x:XO} : q8 W (XO.ev fr) h (.mv x)=(some (x.ev fr)).map fun v=>(v,h):=(rfl)
theorem zdw {op:BinOp}{x y:XO} : Run E W (.draw hs (⟨d,.bin op x y,none,1⟩::r) ld wr::k) Q fr h=Put1D E W (wj op (x.ev fr) (y.ev fr)) d hs r ld wr k Q fr h:=by
 rw [qhf rfl,qxj,y6]
theorem kd {op:BinOp}{x y:XO} : Run E W (.draw hs (⟨d,.bin op x y,none,4⟩::r) ld wr::k) Q fr h=Put1D E W (wj op (x.ev fr) (y.ev fr)) d hs r ld wr k Q fr h:=by
 rw [xd,qxj,y6]
theorem qfw {op:UnOp}{x:XO} : Run E W (.draw hs (⟨d,.un op x,none,4⟩::r) ld wr::k) Q fr h=Put1D E W (xun op (x.ev fr)) d hs r ld wr k Q fr h:=by
 rw [xd,zef,y6]
theorem zh {n:Option Nat}{x:XO} : Run E W (.draw hs (⟨d,.ld n x,none,4⟩::r) ld wr::k) Q fr h=Put1D E W (xld h n (x.ev fr)) d hs r ld wr k Q fr h:=by
 rw [xd,q14,y6]
theorem qls {off:Nat}{x:XO} : Run E W (.draw hs (⟨d,.fa off x,none,1⟩::r) ld wr::k) Q fr h=Put1D E W (xfa off (x.ev fr)) d hs r ld wr k Q fr h:=by
 rw [qhf rfl,q99,y6]
theorem zj {off:Nat}{x:XO} : Run E W (.draw hs (⟨d,.fa off x,none,4⟩::r) ld wr::k) Q fr h=Put1D E W (xfa off (x.ev fr)) d hs r ld wr k Q fr h:=by
 rw [xd,q99,y6]
theorem qjv {x i:XO} : Run E W (.draw hs (⟨d,.sidx x i,none,4⟩::r) ld wr::k) Q fr h=Put1D E W (qjw (x.ev fr) (i.ev fr)) d hs r ld wr k Q fr h:=by
 rw [xd,za0,y6]
theorem kz {esz:Nat}{x i:XO} : Run E W (.draw hs (⟨d,.ia esz x i,none,4⟩::r) ld wr::k) Q fr h=Put1D E W (xia esz (x.ev fr) (i.ev fr)) d hs r ld wr k Q fr h:=by
 rw [xd,ze8,y6]
theorem zbt {x:XO} : Run E W (.draw hs (⟨d,.len x,none,1⟩::r) ld wr::k) Q fr h=Put1D E W (qgd (x.ev fr)) d hs r ld wr k Q fr h:=by
 rw [qhf rfl,qr7,y6]
theorem wo {x:XO} : Run E W (.draw hs (⟨d,.len x,none,4⟩::r) ld wr::k) Q fr h=Put1D E W (qgd (x.ev fr)) d hs r ld wr k Q fr h:=by
 rw [xd,qr7,y6]
theorem kf {c x y:XO} : Run E W (.draw hs (⟨d,.pick c x y,none,4⟩::r) ld wr::k) Q fr h=Put1D E W (qlz (c.ev fr) (x.ev fr) (y.ev fr)) d hs r ld wr k Q fr h:=by
 rw [xd,za6,y6]
theorem zci {x:XO}{i:Nat} : Run E W (.draw hs (⟨d,.ext x i,none,1⟩::r) ld wr::k) Q fr h=Put1D E W (qi0 i (x.ev fr)) d hs r ld wr k Q fr h:=by
 rw [qhf rfl,qs7,y6]
theorem zcs {x:XO}{i:Nat} : Run E W (.draw hs (⟨d,.ext x i,none,4⟩::r) ld wr::k) Q fr h=Put1D E W (qi0 i (x.ev fr)) d hs r ld wr k Q fr h:=by
 rw [xd,qs7,y6]
theorem jx {x:XO} : Run E W (.draw hs (⟨d,.chk x,none,4⟩::r) ld wr::k) Q fr h=Put1D E W (qq2 (x.ev fr)) d hs r ld wr k Q fr h:=by
 rw [xd,zc0,y6]
theorem zcn {n:Bool}{x y:XO} : Run E W (.draw hs (⟨d,.eqb n x y,none,4⟩::r) ld wr::k) Q fr h=Put1D E W (qqt n (x.ev fr) (y.ev fr)) d hs r ld wr k Q fr h:=by
 rw [xd,zco,y6]
theorem zdn {kk:IntKind}{x:XO} : Run E W (.draw hs (⟨d,.cvt kk x,none,4⟩::r) ld wr::k) Q fr h=Put1D E W (qrd kk (x.ev fr)) d hs r ld wr k Q fr h:=by
 rw [xd,zds,y6]
theorem zbp {ty esz:Nat}{x:XO}{lo hi mx:Option XO} : Run E W (.draw hs (⟨d,.slc ty esz x lo hi mx,none,1⟩::r) ld wr::k) Q fr h=Put1D E W (ww h ty esz (x.ev fr) (lo.map (XO.ev fr)) (hi.map (XO.ev fr)) (mx.map (XO.ev fr))) d hs r ld wr k Q fr h:=by
 rw [qhf rfl,qss,y6]
theorem qlp {ty esz:Nat}{x:XO}{lo hi mx:Option XO} : Run E W (.draw hs (⟨d,.slc ty esz x lo hi mx,none,4⟩::r) ld wr::k) Q fr h=Put1D E W (ww h ty esz (x.ev fr) (lo.map (XO.ev fr)) (hi.map (XO.ev fr)) (mx.map (XO.ev fr))) d hs r ld wr k Q fr h:=by
 rw [xd,qss,y6]
theorem qfc {zero:List XV}{ps:List (Nat × Nat × XO)} : Run E W (.draw hs (⟨d,.build zero ps,none,4⟩::r) ld wr::k) Q fr h=Put1D E W (qhd zero (ps.map (evp fr))) d hs r ld wr k Q fr h:=by
 rw [xd,qz0,y6]
theorem qlr {mx:Bool}{xs:List XO} : Run E W (.draw hs (⟨d,.mnx mx xs,none,4⟩::r) ld wr::k) Q fr h=Put1D E W (qhc mx (xs.map (XO.ev fr))) d hs r ld wr k Q fr h:=by
 rw [xd,zbx,y6]
theorem qld {x:XO} : Run E W (.draw hs (⟨d,.mv x,none,1⟩::r) ld wr::k) Q fr h=Put1D E W (some (x.ev fr)) d hs r ld wr k Q fr h:=by
 rw [qhf rfl,q9h,y6]
theorem zx {x:XO} : Run E W (.draw hs (⟨d,.mv x,none,4⟩::r) ld wr::k) Q fr h=Put1D E W (some (x.ev fr)) d hs r ld wr k Q fr h:=by
 rw [xd,q9h,y6]
theorem wm {f:XO}{args:List XO} : Run E W (.draw hs (⟨d,.call f args,none,3⟩::r) ld wr::k) Q fr h=CallD E W (f.ev fr) (args.map (XO.ev fr)) d hs r ld wr k Q fr h:=by
 simp only [Run,yq,WD,OpD,CallD]
 rw [if_neg (by decide),if_neg (by decide),if_neg (by decide),if_pos trivial]
 rfl
theorem qkd {f:XO}{args:List XO} : Run E W (.draw hs (⟨d,.call f args,none,2⟩::r) ld wr::k) Q fr h=CallQ E W (f.ev fr) (args.map (XO.ev fr)) (qjp E (f.ev fr) (args.map (XO.ev fr))) d hs r ld wr k Q fr h:=by
 simp only [Run,yq,WD,OpD,CallQ]
 rw [if_neg (by decide),if_neg (by decide),if_pos trivial]
 rfl
theorem qt4 {op:XOp}(hop:∀ f args,op ≠ .call f args) : Run E W (.draw hs (⟨d,op,none,3⟩::r) ld wr::k) Q fr h=Put2D E W (q8 W (XO.ev fr) h op) d hs r ld wr k Q fr:=by
 simp only [Run,yq,WD,OpD,Put2D]
 rw [if_neg (by decide),if_neg (by decide),if_neg (by decide),if_pos trivial]
 cases op <;> first | exact absurd rfl (hop _ _) | (simp only [OpW]; split <;> simp_all)
theorem qj0 {n:Option Nat}{x:XO} : Run E W (.draw hs (⟨d,.ld n x,none,1⟩::r) ld wr::k) Q fr h=LdD E W n (x.ev fr) d hs r ld wr k Q fr h:=by
 simp only [Run,yq,WD,OpD]
 rw [if_pos trivial,q14]
 cases hv:XO.ev fr x
 case ptr b o =>
  have e:j6 (XO.ev fr) (.ld n x)=[b]:=by simp only [j6,hv]
  rw [e]
  simp only [LdD,List.all_cons,List.all_nil,Bool.and_true,decide_eq_true_eq,Bool.not_eq_true',List.cons_append,a0y,and_assoc,wa,Put1D]
  cases xld h n (XV.ptr b o) <;> rfl
 all_goals
  have e:j6 (XO.ev fr) (.ld n x)=[]:=by simp only [j6,hv]
  rw [e]
  simp only [LdD,List.all_nil,wa,true_and,a0y,Put1D]
  generalize xld h n _=o
  cases o <;> rfl
end
end Go.Proofs.Ytanblnjomhgphaa.X
