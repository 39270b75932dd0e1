/- Running X's code by rewriting: the other operations; regions of open order. -/
import Derived.Test.YtefgfcalgjmhjaaZRun
set_option linter.unusedVariables false
set_option linter.unusedSimpArgs false
namespace Go.Proofs.Ytefgfcalgjmhjaa.X
open Go

def pst (W:Nat→Bool)(h:Heap)(n:Nat)(v0:XV)(v1:XV) : Option (XV × Heap):=qs W (XO.ev fun _ => .undef) h (.st n (.c v0) (.c v1))
def qag (W:Nat→Bool)(h:Heap)(ty esz bytes:Nat)(v0:XV)(v1:XV) : Option (XV × Heap):=qs W (XO.ev fun _ => .undef) h (.app ty esz bytes (.c v0) (.c v1))
def qtw (W:Nat→Bool)(h:Heap)(ty:Nat)(zero:List XV)(v0:XV) : Option (XV × Heap):=qs W (XO.ev fun _ => .undef) h (.clr ty zero (.c v0))
def qn1 (W:Nat→Bool)(h:Heap)(ty n:Nat)(v0:XV) : Option (XV × Heap):=qs W (XO.ev fun _ => .undef) h (.box ty n (.c v0))
def qjl (W:Nat→Bool)(h:Heap)(ty:Nat)(zero:List XV)  : Option (XV × Heap):=qs W (XO.ev fun _ => .undef) h (.new ty zero)
def qno (W:Nat→Bool)(h:Heap)(ty esz bytes:Nat)(zero:List XV)(v0:XV)(v1:XV) : Option (XV × Heap):=qs W (XO.ev fun _ => .undef) h (.mkS ty esz bytes zero (.c v0) (.c v1))
def xj (h:Heap)(ty esz:Nat)(x:XV)(lo hi mx:Option XV) : Option XV :=
 match kp lo,kp hi,kp mx with
 | some l,some e,some m=>yx h ty esz x l e m
 | _,_,_=>none
def qe2 (zero:List XV)(ps:List (Nat × Nat × XV)) : Option XV:=(fill zero ps).map .agg
def qbb (h:Heap)(ty len:Nat)(zero:List XV)(ps:List (Nat × Nat × XV)) : Option (XV × Heap):=(fill zero ps).map fun cs=>(.row h.length 0 len len,h++[⟨cs,ty,true⟩])
def qgb (mx:Bool) : List XV→Option XV
 | .int k a::r=>qdn mx a k r
 | _=>none
def evp (fr:Fr)(p:Nat × Nat × XO) : Nat × Nat × XV:=(p.1,p.2.1,p.2.2.ev fr)

def Put1D (E:Env)(W:Nat→Bool)(o:Option XV)(d:Option Nat)(hs:Nat)(r:List XOper)(ld wr:List Nat)(k:List It)(Q:QE)(fr:Fr)(h:Heap) : Prop :=
 match o with
 | some v=>Run E W (.draw hs r ld wr::k) Q (fr.put d v) h
 | none=>False
def Put2D (E:Env)(W:Nat→Bool)(o:Option (XV × Heap))(d:Option Nat)(hs:Nat)(r:List XOper)(ld wr:List Nat)(k:List It)(Q:QE)(fr:Fr) : Prop :=
 match o with
 | some (v,h)=>Run E W (.draw hs r ld wr::k) Q (fr.put d v) h
 | none=>False
def LdD (E:Env)(W:Nat→Bool)(n:Option Nat)(v:XV)(d:Option Nat)(hs:Nat)(r:List XOper)(ld wr:List Nat)(k:List It)(Q:QE)(fr:Fr)(h:Heap) : Prop :=
 match v with
 | .ptr b o=>(b<hs∧wr.contains b=false)∧Put1D E W (xld h n (.ptr b o)) d hs r (b::ld) wr k Q fr h
 | v=>Put1D E W (xld h n v) d hs r ld wr k Q fr h
def GuardD (E:Env)(W:Nat→Bool)(v:XV)(want:Bool)(o:XOper)(hs:Nat)(r:List XOper)(ld wr:List Nat)(k:List It)(Q:QE)(fr:Fr)(h:Heap) : Prop :=
 match v with
 | .bool b=>if b=want then Run E W (.draw hs (o::r) ld wr::k) Q fr h else Run E W (.draw hs r ld wr::k) Q (fr.put o.dst (.tup [])) h
 | .tup _=>Run E W (.draw hs r ld wr::k) Q (fr.put o.dst (.tup [])) h
 | _=>False
def CallD (E:Env)(W:Nat→Bool)(f:XV)(args:List XV)(d:Option Nat)(hs:Nat)(r:List XOper)(ld wr:List Nat)(k:List It)(Q:QE)(fr:Fr)(h:Heap) : Prop :=
 CallW E W f args h (fun v h'=>Run E W (.draw hs r ld wr::k) Q (fr.put d v) h')
def CallQ (E:Env)(W:Nat→Bool)(f:XV)(args:List XV)(ms:List Nat)(d:Option Nat)(hs:Nat)(r:List XOper)(ld wr:List Nat)(k:List It)(Q:QE)(fr:Fr)(h:Heap) : Prop :=
 yb ms ld=true∧CallW E (qam W hs ms) f args h (fun v h'=>Run E W (.draw hs r ld (ms++wr)::k) Q (fr.put d v) h')
def qgs (E:Env)(f:XV)(args:List XV) : List Nat :=
 match f with
 | .fn g caps=>if E.mode g≠0 then [] else (args++caps).flatMap qic
 | _=>[]
def QuietD (E:Env)(W:Nat→Bool)(o:(Nat→Bool)→Option (XV × Heap))(ms:List Nat)(d:Option Nat)(hs:Nat)(r:List XOper)(ld wr:List Nat)(k:List It)(Q:QE)(fr:Fr) : Prop :=
 yb ms ld=true∧Put2D E W (o (qam W hs ms)) d hs r ld (ms++wr) k Q fr

section
variable {E:Env}{W:Nat→Bool}{k:List It}{Q:QE}{fr:Fr}{h:Heap}{r:List XOper}{d:Option Nat}{cl hs:Nat}{ld wr:List Nat}{kk:IntKind}

theorem zm {n:Nat}{x y:XO} : Run E W (.ops (⟨d,.st n x y,none,cl⟩::r)::k) Q fr h=Put2 E W (pst W h n (x.ev fr) (y.ev fr)) d r k Q fr:=by
 rw [run_pure (fun _ _ e=>by cases e)]; rfl
theorem wv {ty esz bytes:Nat}{x y:XO} : Run E W (.ops (⟨d,.app ty esz bytes x y,none,cl⟩::r)::k) Q fr h=Put2 E W (qag W h ty esz bytes (x.ev fr) (y.ev fr)) d r k Q fr:=by
 rw [run_pure (fun _ _ e=>by cases e)]; rfl
theorem q06 {ty:Nat}{zero:List XV}{x:XO} : Run E W (.ops (⟨d,.clr ty zero x,none,cl⟩::r)::k) Q fr h=Put2 E W (qtw W h ty zero (x.ev fr)) d r k Q fr:=by
 rw [run_pure (fun _ _ e=>by cases e)]; rfl
theorem wu {ty n:Nat}{x:XO} : Run E W (.ops (⟨d,.box ty n x,none,cl⟩::r)::k) Q fr h=Put2 E W (qn1 W h ty n (x.ev fr)) d r k Q fr:=by
 rw [run_pure (fun _ _ e=>by cases e)]; rfl
theorem jt {ty:Nat}{zero:List XV} : Run E W (.ops (⟨d,.new ty zero,none,cl⟩::r)::k) Q fr h=Put2 E W (qjl W h ty zero ) d r k Q fr:=by
 rw [run_pure (fun _ _ e=>by cases e)]; rfl
theorem qmx {ty esz bytes:Nat}{zero:List XV}{x y:XO} : Run E W (.ops (⟨d,.mkS ty esz bytes zero x y,none,cl⟩::r)::k) Q fr h=Put2 E W (qno W h ty esz bytes zero (x.ev fr) (y.ev fr)) d r k Q fr:=by
 rw [run_pure (fun _ _ e=>by cases e)]; rfl
theorem qcm {ty esz:Nat}{x:XO}{lo hi mx:Option XO} : Run E W (.ops (⟨d,.slc ty esz x lo hi mx,none,cl⟩::r)::k) Q fr h=Put1 E W (xj h ty esz (x.ev fr) (lo.map (XO.ev fr)) (hi.map (XO.ev fr)) (mx.map (XO.ev fr))) d r k Q fr h:=by
 rw [run_pure (fun _ _ e=>by cases e)]
 refine u9 ?_
 simp only [qs,xj]
 cases kp (lo.map (XO.ev fr)) <;> try rfl
 cases kp (hi.map (XO.ev fr)) <;> try rfl
 cases kp (mx.map (XO.ev fr)) <;> try rfl
 rename_i l e m
 dsimp only
 cases yx h ty esz (x.ev fr) l e m <;> rfl
theorem run_build {zero:List XV}{ps:List (Nat × Nat × XO)} : Run E W (.ops (⟨d,.build zero ps,none,cl⟩::r)::k) Q fr h=Put1 E W (qe2 zero (ps.map (evp fr))) d r k Q fr h:=by
 rw [run_pure (fun _ _ e=>by cases e)]
 refine u9 ?_
 simp only [qs,qe2]
 have e:ps.map (fun p=>(p.1,p.2.1,XO.ev fr p.2.2))=ps.map (evp fr):=rfl
 rw [e]
 cases fill zero (ps.map (evp fr)) <;> rfl
theorem kz {ty len:Nat}{zero:List XV}{ps:List (Nat × Nat × XO)} : Run E W (.ops (⟨d,.buildS ty len zero ps,none,cl⟩::r)::k) Q fr h=Put2 E W (qbb h ty len zero (ps.map (evp fr))) d r k Q fr:=by
 rw [run_pure (fun _ _ e=>by cases e)]
 congr 1
 simp only [qs,qbb]
 have e:ps.map (fun p=>(p.1,p.2.1,XO.ev fr p.2.2))=ps.map (evp fr):=rfl
 rw [e]
 cases fill zero (ps.map (evp fr)) <;> rfl
theorem q02 {mx:Bool}{xs:List XO} : Run E W (.ops (⟨d,.mnx mx xs,none,cl⟩::r)::k) Q fr h=Put1 E W (qgb mx (xs.map (XO.ev fr))) d r k Q fr h:=by
 rw [run_pure (fun _ _ e=>by cases e)]
 refine u9 ?_
 simp only [qs]
 cases xs.map (XO.ev fr) with
 | nil=>rfl
 | cons v vs =>
  cases v <;> try rfl
  rename_i k0 a0
  simp only [qgb]
  cases qdn mx a0 k0 vs <;> rfl

theorem qx:Run E W (.draw hs [] ld wr::k) Q fr h=Run E W k Q fr h:=(rfl)
theorem qg {v:XV} : Put1D E W (some v) d hs r ld wr k Q fr h=Run E W (.draw hs r ld wr::k) Q (fr.put d v) h:=(rfl)
theorem qo {op:XOp}{g:Nat}{want:Bool} : Run E W (.draw hs (⟨d,op,some (g,want),cl⟩::r) ld wr::k) Q fr h=GuardD E W (fr g) want ⟨d,op,none,cl⟩ hs r ld wr k Q fr h:=by
 show WD E W hs (⟨d,op,some (g,want),cl⟩::r) ld wr _ fr h=_
 simp only [WD,GuardD]
 cases fr g <;> rfl
theorem zj {o:XOper} : GuardD E W (.bool true) true o hs r ld wr k Q fr h=Run E W (.draw hs (o::r) ld wr::k) Q fr h:=by simp [GuardD]
theorem z7 {o:XOper} : GuardD E W (.bool false) false o hs r ld wr k Q fr h=Run E W (.draw hs (o::r) ld wr::k) Q fr h:=by simp [GuardD]
theorem yn {o:XOper} : GuardD E W (.bool false) true o hs r ld wr k Q fr h=Run E W (.draw hs r ld wr::k) Q (fr.put o.dst (.tup [])) h:=by simp [GuardD]
theorem qac {o:XOper} : GuardD E W (.bool true) false o hs r ld wr k Q fr h=Run E W (.draw hs r ld wr::k) Q (fr.put o.dst (.tup [])) h:=by simp [GuardD]
theorem qga {o:XOper}{want:Bool}{vs:List XV} : GuardD E W (.tup vs) want o hs r ld wr k Q fr h=Run E W (.draw hs r ld wr::k) Q (fr.put o.dst (.tup [])) h:=(rfl)
theorem jj {o:XOper}{t want:Bool}(h1:t=true→GuardD E W (.bool true) want o hs r ld wr k Q fr h)(h2:t=false→GuardD E W (.bool false) want o hs r ld wr k Q fr h) : GuardD E W (.bool t) want o hs r ld wr k Q fr h:=by
 cases t
 ·exact h2 rfl
 ·exact h1 rfl
theorem w5 {op:XOp} : Run E W (.draw hs (⟨d,op,none,4⟩::r) ld wr::k) Q fr h=Put2D E W (qs (fun _=>false) (XO.ev fr) h op) d hs r ld wr k Q fr:=by
 simp only [Run,kx,WD,OpD,Put2D]
 rw [if_neg (by decide),if_pos trivial]
 cases qs (fun _=>false) (XO.ev fr) h op <;> rfl
theorem qcp {op:XOp}(hf:ji (XO.ev fr) op=[]) : Run E W (.draw hs (⟨d,op,none,1⟩::r) ld wr::k) Q fr h=Put2D E W (qs (fun _=>false) (XO.ev fr) h op) d hs r ld wr k Q fr:=by
 simp only [Run,kx,WD,OpD,Put2D,hf]
 rw [if_pos trivial]
 simp only [List.all_nil,yb,true_and,List.nil_append]
 cases qs (fun _=>false) (XO.ev fr) h op <;> rfl
theorem kt {o:Option XV} : Put2D E W (o.map fun v=>(v,h)) d hs r ld wr k Q fr=Put1D E W o d hs r ld wr k Q fr h:=by
 cases o <;> rfl
theorem qo8 {op:BinOp}{x y:XO} : qs W (XO.ev fr) h (.bin op x y)=(wb op (x.ev fr) (y.ev fr)).map fun v=>(v,h):=by
 simp only [qs]; cases wb op (x.ev fr) (y.ev fr) <;> rfl
theorem q3a {op:UnOp}{x:XO} : qs W (XO.ev fr) h (.un op x)=(xun op (x.ev fr)).map fun v=>(v,h):=by
 simp only [qs]; cases xun op (x.ev fr) <;> rfl
theorem qv9 {n:Option Nat}{x:XO} : qs W (XO.ev fr) h (.ld n x)=(xld h n (x.ev fr)).map fun v=>(v,h):=by
 cases n with
 | none =>
  simp only [qs]
  cases x.ev fr <;> simp only [xld] <;> try rfl
  ·rename_i cs o
   cases cs[o]? <;> rfl
  ·rename_i b o
   cases ue h b o <;> rfl
 | some n =>
  simp only [qs]
  cases x.ev fr <;> simp only [xld] <;> try rfl
  ·split <;> rfl
  ·rename_i b o
   cases jl h b o n <;> rfl
theorem qwm {off:Nat}{x:XO} : qs W (XO.ev fr) h (.fa off x)=(xfa off (x.ev fr)).map fun v=>(v,h):=by
 simp only [qs]; cases x.ev fr <;> rfl
theorem qux {esz:Nat}{x i:XO} : qs W (XO.ev fr) h (.ia esz x i)=(xia esz (x.ev fr) (i.ev fr)).map fun v=>(v,h):=by
 simp only [qs]
 cases x.ev fr <;> cases i.ev fr <;> simp only [xia] <;> try rfl
 ·rename_i es kk n
  by_cases h0:0≤n
  ·rw [if_pos h0,if_pos h0]
   cases es[n.toNat]? with
   | none=>rfl
   | some cs =>
    dsimp only
    by_cases hc:cs.length=esz
    ·rw [if_pos hc,if_pos hc]; rfl
    ·rw [if_neg hc,if_neg hc]; rfl
  ·rw [if_neg h0,if_neg h0]; rfl
 ·split <;> rfl
theorem qoi {x:XO} : qs W (XO.ev fr) h (.len x)=(qdz (x.ev fr)).map fun v=>(v,h):=by
 simp only [qs]; cases x.ev fr <;> rfl
theorem q1g {c x y:XO} : qs W (XO.ev fr) h (.pick c x y)=(qi4 (c.ev fr) (x.ev fr) (y.ev fr)).map fun v=>(v,h):=by
 simp only [qs]
 cases c.ev fr <;> try rfl
 rename_i t
 cases t <;> rfl
theorem qrc {x:XO}{i:Nat} : qs W (XO.ev fr) h (.ext x i)=(qf4 i (x.ev fr)).map fun v=>(v,h):=by
 simp only [qs]
 cases x.ev fr <;> try rfl
 rename_i vs
 simp only [qf4]
 cases vs[i]? <;> rfl
theorem q1y {x:XO} : qs W (XO.ev fr) h (.chk x)=(qnv (x.ev fr)).map fun v=>(v,h):=by
 simp only [qs]; cases x.ev fr <;> rfl
theorem q28 {n:Bool}{x y:XO} : qs W (XO.ev fr) h (.eqb n x y)=(qoc n (x.ev fr) (y.ev fr)).map fun v=>(v,h):=by
 simp only [qs]
 cases x.ev fr <;> cases y.ev fr <;> rfl
theorem q2t {kk:IntKind}{x:XO} : qs W (XO.ev fr) h (.cvt kk x)=(qni kk (x.ev fr)).map fun v=>(v,h):=by
 simp only [qs]; cases x.ev fr <;> rfl
theorem qsg {ty esz:Nat}{x:XO}{lo hi mx:Option XO} : qs W (XO.ev fr) h (.slc ty esz x lo hi mx)=(xj h ty esz (x.ev fr) (lo.map (XO.ev fr)) (hi.map (XO.ev fr)) (mx.map (XO.ev fr))).map fun v=>(v,h):=by
 simp only [qs,xj]
 cases kp (lo.map (XO.ev fr)) <;> try rfl
 cases kp (hi.map (XO.ev fr)) <;> try rfl
 cases kp (mx.map (XO.ev fr)) <;> try rfl
 rename_i l e m
 dsimp only
 cases yx h ty esz (x.ev fr) l e m <;> rfl
theorem qs5 {zero:List XV}{ps:List (Nat × Nat × XO)} : qs W (XO.ev fr) h (.build zero ps)=(qe2 zero (ps.map (evp fr))).map fun v=>(v,h):=by
 simp only [qs,qe2]
 have e:ps.map (fun p=>(p.1,p.2.1,XO.ev fr p.2.2))=ps.map (evp fr):=rfl
 rw [e]
 cases fill zero (ps.map (evp fr)) <;> rfl
theorem qqg {mx:Bool}{xs:List XO} : qs W (XO.ev fr) h (.mnx mx xs)=(qgb mx (xs.map (XO.ev fr))).map fun v=>(v,h):=by
 simp only [qs]
 cases xs.map (XO.ev fr) with
 | nil=>rfl
 | cons v vs =>
  cases v <;> try rfl
  rename_i k0 a0
  simp only [qgb]
  cases qdn mx a0 k0 vs <;> rfl
theorem qu6 {x:XO} : qs W (XO.ev fr) h (.mv x)=(some (x.ev fr)).map fun v=>(v,h):=(rfl)
theorem q2m {op:BinOp}{x y:XO} : Run E W (.draw hs (⟨d,.bin op x y,none,1⟩::r) ld wr::k) Q fr h=Put1D E W (wb op (x.ev fr) (y.ev fr)) d hs r ld wr k Q fr h:=by
 rw [qcp rfl,qo8,kt]
theorem yd {op:BinOp}{x y:XO} : Run E W (.draw hs (⟨d,.bin op x y,none,4⟩::r) ld wr::k) Q fr h=Put1D E W (wb op (x.ev fr) (y.ev fr)) d hs r ld wr k Q fr h:=by
 rw [w5,qo8,kt]
theorem qf7 {op:UnOp}{x:XO} : Run E W (.draw hs (⟨d,.un op x,none,4⟩::r) ld wr::k) Q fr h=Put1D E W (xun op (x.ev fr)) d hs r ld wr k Q fr h:=by
 rw [w5,q3a,kt]
theorem zl {n:Option Nat}{x:XO} : Run E W (.draw hs (⟨d,.ld n x,none,4⟩::r) ld wr::k) Q fr h=Put1D E W (xld h n (x.ev fr)) d hs r ld wr k Q fr h:=by
 rw [w5,qv9,kt]
theorem qa1 {off:Nat}{x:XO} : Run E W (.draw hs (⟨d,.fa off x,none,1⟩::r) ld wr::k) Q fr h=Put1D E W (xfa off (x.ev fr)) d hs r ld wr k Q fr h:=by
 rw [qcp rfl,qwm,kt]
theorem zr {off:Nat}{x:XO} : Run E W (.draw hs (⟨d,.fa off x,none,4⟩::r) ld wr::k) Q fr h=Put1D E W (xfa off (x.ev fr)) d hs r ld wr k Q fr h:=by
 rw [w5,qwm,kt]
theorem q3s {esz:Nat}{x i:XO} : Run E W (.draw hs (⟨d,.ia esz x i,none,1⟩::r) ld wr::k) Q fr h=Put1D E W (xia esz (x.ev fr) (i.ev fr)) d hs r ld wr k Q fr h:=by
 rw [qcp rfl,qux,kt]
theorem wt {esz:Nat}{x i:XO} : Run E W (.draw hs (⟨d,.ia esz x i,none,4⟩::r) ld wr::k) Q fr h=Put1D E W (xia esz (x.ev fr) (i.ev fr)) d hs r ld wr k Q fr h:=by
 rw [w5,qux,kt]
theorem qot {x:XO} : Run E W (.draw hs (⟨d,.len x,none,1⟩::r) ld wr::k) Q fr h=Put1D E W (qdz (x.ev fr)) d hs r ld wr k Q fr h:=by
 rw [qcp rfl,qoi,kt]
theorem qdw {x:XO} : Run E W (.draw hs (⟨d,.len x,none,4⟩::r) ld wr::k) Q fr h=Put1D E W (qdz (x.ev fr)) d hs r ld wr k Q fr h:=by
 rw [w5,qoi,kt]
theorem jd {c x y:XO} : Run E W (.draw hs (⟨d,.pick c x y,none,4⟩::r) ld wr::k) Q fr h=Put1D E W (qi4 (c.ev fr) (x.ev fr) (y.ev fr)) d hs r ld wr k Q fr h:=by
 rw [w5,q1g,kt]
theorem q2u {x:XO}{i:Nat} : Run E W (.draw hs (⟨d,.ext x i,none,1⟩::r) ld wr::k) Q fr h=Put1D E W (qf4 i (x.ev fr)) d hs r ld wr k Q fr h:=by
 rw [qcp rfl,qrc,kt]
theorem qpi {x:XO}{i:Nat} : Run E W (.draw hs (⟨d,.ext x i,none,4⟩::r) ld wr::k) Q fr h=Put1D E W (qf4 i (x.ev fr)) d hs r ld wr k Q fr h:=by
 rw [w5,qrc,kt]
theorem ko {x:XO} : Run E W (.draw hs (⟨d,.chk x,none,4⟩::r) ld wr::k) Q fr h=Put1D E W (qnv (x.ev fr)) d hs r ld wr k Q fr h:=by
 rw [w5,q1y,kt]
theorem q15 {n:Bool}{x y:XO} : Run E W (.draw hs (⟨d,.eqb n x y,none,4⟩::r) ld wr::k) Q fr h=Put1D E W (qoc n (x.ev fr) (y.ev fr)) d hs r ld wr k Q fr h:=by
 rw [w5,q28,kt]
theorem q1t {kk:IntKind}{x:XO} : Run E W (.draw hs (⟨d,.cvt kk x,none,4⟩::r) ld wr::k) Q fr h=Put1D E W (qni kk (x.ev fr)) d hs r ld wr k Q fr h:=by
 rw [w5,q2t,kt]
theorem q2l {ty esz:Nat}{x:XO}{lo hi mx:Option XO} : Run E W (.draw hs (⟨d,.slc ty esz x lo hi mx,none,1⟩::r) ld wr::k) Q fr h=Put1D E W (xj h ty esz (x.ev fr) (lo.map (XO.ev fr)) (hi.map (XO.ev fr)) (mx.map (XO.ev fr))) d hs r ld wr k Q fr h:=by
 rw [qcp rfl,qsg,kt]
theorem qg4 {ty esz:Nat}{x:XO}{lo hi mx:Option XO} : Run E W (.draw hs (⟨d,.slc ty esz x lo hi mx,none,4⟩::r) ld wr::k) Q fr h=Put1D E W (xj h ty esz (x.ev fr) (lo.map (XO.ev fr)) (hi.map (XO.ev fr)) (mx.map (XO.ev fr))) d hs r ld wr k Q fr h:=by
 rw [w5,qsg,kt]
theorem qh5 {zero:List XV}{ps:List (Nat × Nat × XO)} : Run E W (.draw hs (⟨d,.build zero ps,none,4⟩::r) ld wr::k) Q fr h=Put1D E W (qe2 zero (ps.map (evp fr))) d hs r ld wr k Q fr h:=by
 rw [w5,qs5,kt]
theorem q2j {mx:Bool}{xs:List XO} : Run E W (.draw hs (⟨d,.mnx mx xs,none,1⟩::r) ld wr::k) Q fr h=Put1D E W (qgb mx (xs.map (XO.ev fr))) d hs r ld wr k Q fr h:=by
 rw [qcp rfl,qqg,kt]
theorem q2w {mx:Bool}{xs:List XO} : Run E W (.draw hs (⟨d,.mnx mx xs,none,4⟩::r) ld wr::k) Q fr h=Put1D E W (qgb mx (xs.map (XO.ev fr))) d hs r ld wr k Q fr h:=by
 rw [w5,qqg,kt]
theorem qkn {x:XO} : Run E W (.draw hs (⟨d,.mv x,none,1⟩::r) ld wr::k) Q fr h=Put1D E W (some (x.ev fr)) d hs r ld wr k Q fr h:=by
 rw [qcp rfl,qu6,kt]
theorem zn {x:XO} : Run E W (.draw hs (⟨d,.mv x,none,4⟩::r) ld wr::k) Q fr h=Put1D E W (some (x.ev fr)) d hs r ld wr k Q fr h:=by
 rw [w5,qu6,kt]
theorem wl {f:XO}{args:List XO} : Run E W (.draw hs (⟨d,.call f args,none,3⟩::r) ld wr::k) Q fr h=CallD E W (f.ev fr) (args.map (XO.ev fr)) d hs r ld wr k Q fr h:=by
 simp only [Run,kx,WD,OpD,CallD]
 rw [if_neg (by decide),if_neg (by decide),if_neg (by decide),if_pos trivial]
 rfl
theorem qbc {f:XO}{args:List XO} : Run E W (.draw hs (⟨d,.call f args,none,2⟩::r) ld wr::k) Q fr h=CallQ E W (f.ev fr) (args.map (XO.ev fr)) (qgs E (f.ev fr) (args.map (XO.ev fr))) d hs r ld wr k Q fr h:=by
 simp only [Run,kx,WD,OpD,CallQ]
 rw [if_neg (by decide),if_neg (by decide),if_pos trivial]
 rfl
theorem qq6 {op:XOp}(hop:∀ f args,op ≠ .call f args) : Run E W (.draw hs (⟨d,op,none,3⟩::r) ld wr::k) Q fr h=Put2D E W (qs W (XO.ev fr) h op) d hs r ld wr k Q fr:=by
 simp only [Run,kx,WD,OpD,Put2D]
 rw [if_neg (by decide),if_neg (by decide),if_neg (by decide),if_pos trivial]
 cases op <;> first | exact absurd rfl (hop _ _) | (simp only [OpW]; split <;> simp_all)
theorem qai {n:Option Nat}{x:XO} : Run E W (.draw hs (⟨d,.ld n x,none,1⟩::r) ld wr::k) Q fr h=LdD E W n (x.ev fr) d hs r ld wr k Q fr h:=by
 simp only [Run,kx,WD,OpD]
 rw [if_pos trivial,qv9]
 cases hv:XO.ev fr x
 case ptr b o =>
  have e:ji (XO.ev fr) (.ld n x)=[b]:=by simp only [ji,hv]
  rw [e]
  simp only [LdD,List.all_cons,List.all_nil,Bool.and_true,decide_eq_true_eq,Bool.not_eq_true',List.cons_append,List.nil_append,and_assoc,yb,Put1D]
  cases xld h n (XV.ptr b o) <;> rfl
 all_goals
  have e:ji (XO.ev fr) (.ld n x)=[]:=by simp only [ji,hv]
  rw [e]
  simp only [LdD,List.all_nil,yb,true_and,List.nil_append,Put1D]
  generalize xld h n _=o
  cases o <;> rfl
end
end Go.Proofs.Ytefgfcalgjmhjaa.X
