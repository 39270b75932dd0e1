/- Running X's code by rewriting: the other operations; regions of open order. -/
import Derived.Test.YtefgfcalgjmhjaaZRun
set_option linter.unusedVariables false
set_option linter.unusedSimpArgs false
namespace Go.Proofs.Ytefgfcalgjmhjaa.X
open Go

def pst (W:Nat→Bool)(h:Heap)(n:Nat)(v0:XV)(v1:XV) : Option (XV × Heap):=qx W (XO.ev fun _ => .undef) h (.st n (.c v0) (.c v1))
def qbc (W:Nat→Bool)(h:Heap)(ty esz bytes:Nat)(v0:XV)(v1:XV) : Option (XV × Heap):=qx W (XO.ev fun _ => .undef) h (.app ty esz bytes (.c v0) (.c v1))
def qvg (W:Nat→Bool)(h:Heap)(ty:Nat)(zero:List XV)(v0:XV) : Option (XV × Heap):=qx W (XO.ev fun _ => .undef) h (.clr ty zero (.c v0))
def qot (W:Nat→Bool)(h:Heap)(ty n:Nat)(v0:XV) : Option (XV × Heap):=qx W (XO.ev fun _ => .undef) h (.box ty n (.c v0))
def qk6 (W:Nat→Bool)(h:Heap)(ty:Nat)(zero:List XV)  : Option (XV × Heap):=qx W (XO.ev fun _ => .undef) h (.new ty zero)
def qoy (W:Nat→Bool)(h:Heap)(ty esz bytes:Nat)(zero:List XV)(v0:XV)(v1:XV) : Option (XV × Heap):=qx W (XO.ev fun _ => .undef) h (.mkS ty esz bytes zero (.c v0) (.c v1))
def ul (h:Heap)(ty esz:Nat)(x:XV)(lo hi mx:Option XV) : Option XV :=
 match ya lo,ya hi,ya mx with
 | some l,some e,some m=>wc h ty esz x l e m
 | _,_,_=>none
def qf0 (zero:List XV)(ps:List (Nat × Nat × XV)) : Option XV:=(fill zero ps).map .agg
def qb8 (h:Heap)(ty len:Nat)(zero:List XV)(ps:List (Nat × Nat × XV)) : Option (XV × Heap):=(fill zero ps).map fun cs=>(.row h.length 0 len len,h++[⟨cs,ty,true⟩])
def qhn (mx:Bool) : List XV→Option XV
 | .int k a::r=>qes mx a k r
 | _=>none
def evp (fr:Fr)(p:Nat × Nat × XO) : Nat × Nat × XV:=(p.1,p.2.1,p.2.2.ev fr)

def Put1D (E:Env)(W:Nat→Bool)(o:Option XV)(d:Option Nat)(hs:Nat)(r:List XOper)(ld wr:List Nat)(k:List It)(Q:QE)(fr:Fr)(h:Heap) : Prop :=
 match o with
 | some v=>Run E W (.draw hs r ld wr::k) Q (fr.put d v) h
 | none=>False
def Put2D (E:Env)(W:Nat→Bool)(o:Option (XV × Heap))(d:Option Nat)(hs:Nat)(r:List XOper)(ld wr:List Nat)(k:List It)(Q:QE)(fr:Fr) : Prop :=
 match o with
 | some (v,h)=>Run E W (.draw hs r ld wr::k) Q (fr.put d v) h
 | none=>False
def LdD (E:Env)(W:Nat→Bool)(n:Option Nat)(v:XV)(d:Option Nat)(hs:Nat)(r:List XOper)(ld wr:List Nat)(k:List It)(Q:QE)(fr:Fr)(h:Heap) : Prop :=
 match v with
 | .ptr b o=>(b<hs∧wr.contains b=false)∧Put1D E W (xld h n (.ptr b o)) d hs r (b::ld) wr k Q fr h
 | v=>Put1D E W (xld h n v) d hs r ld wr k Q fr h
def GuardD (E:Env)(W:Nat→Bool)(v:XV)(want:Bool)(o:XOper)(hs:Nat)(r:List XOper)(ld wr:List Nat)(k:List It)(Q:QE)(fr:Fr)(h:Heap) : Prop :=
 match v with
 | .bool b=>if b=want then Run E W (.draw hs (o::r) ld wr::k) Q fr h else Run E W (.draw hs r ld wr::k) Q (fr.put o.dst (.tup [])) h
 | .tup _=>Run E W (.draw hs r ld wr::k) Q (fr.put o.dst (.tup [])) h
 | _=>False
def CallD (E:Env)(W:Nat→Bool)(f:XV)(args:List XV)(d:Option Nat)(hs:Nat)(r:List XOper)(ld wr:List Nat)(k:List It)(Q:QE)(fr:Fr)(h:Heap) : Prop :=
 CallW E W f args h (fun v h'=>Run E W (.draw hs r ld wr::k) Q (fr.put d v) h')
def CallQ (E:Env)(W:Nat→Bool)(f:XV)(args:List XV)(ms:List Nat)(d:Option Nat)(hs:Nat)(r:List XOper)(ld wr:List Nat)(k:List It)(Q:QE)(fr:Fr)(h:Heap) : Prop :=
 ym ms ld=true∧CallW E (xv W hs ms) f args h (fun v h'=>Run E W (.draw hs r ld (ms++wr)::k) Q (fr.put d v) h')
def qf3 (E:Env)(f:XV)(args:List XV) : List Nat :=
 match f with
 | .fn g caps=>if E.mode g≠0 then [] else (args++caps).flatMap qip
 | _=>[]
def QuietD (E:Env)(W:Nat→Bool)(o:(Nat→Bool)→Option (XV × Heap))(ms:List Nat)(d:Option Nat)(hs:Nat)(r:List XOper)(ld wr:List Nat)(k:List It)(Q:QE)(fr:Fr) : Prop :=
 ym ms ld=true∧Put2D E W (o (xv W hs ms)) d hs r ld (ms++wr) k Q fr

section
variable {E:Env}{W:Nat→Bool}{k:List It}{Q:QE}{fr:Fr}{h:Heap}{r:List XOper}{d:Option Nat}{cl hs:Nat}{ld wr:List Nat}{kk:IntKind}

theorem zg {n:Nat}{x y:XO} : Run E W (.ops (⟨d,.st n x y,none,cl⟩::r)::k) Q fr h=Put2 E W (pst W h n (x.ev fr) (y.ev fr)) d r k Q fr:=by
 rw [run_pure (fun _ _ e=>by cases e)]; rfl
theorem uc {ty esz bytes:Nat}{x y:XO} : Run E W (.ops (⟨d,.app ty esz bytes x y,none,cl⟩::r)::k) Q fr h=Put2 E W (qbc W h ty esz bytes (x.ev fr) (y.ev fr)) d r k Q fr:=by
 rw [run_pure (fun _ _ e=>by cases e)]; rfl
theorem q3w {ty:Nat}{zero:List XV}{x:XO} : Run E W (.ops (⟨d,.clr ty zero x,none,cl⟩::r)::k) Q fr h=Put2 E W (qvg W h ty zero (x.ev fr)) d r k Q fr:=by
 rw [run_pure (fun _ _ e=>by cases e)]; rfl
theorem kp {ty n:Nat}{x:XO} : Run E W (.ops (⟨d,.box ty n x,none,cl⟩::r)::k) Q fr h=Put2 E W (qot W h ty n (x.ev fr)) d r k Q fr:=by
 rw [run_pure (fun _ _ e=>by cases e)]; rfl
theorem je {ty:Nat}{zero:List XV} : Run E W (.ops (⟨d,.new ty zero,none,cl⟩::r)::k) Q fr h=Put2 E W (qk6 W h ty zero ) d r k Q fr:=by
 rw [run_pure (fun _ _ e=>by cases e)]; rfl
theorem qoi {ty esz bytes:Nat}{zero:List XV}{x y:XO} : Run E W (.ops (⟨d,.mkS ty esz bytes zero x y,none,cl⟩::r)::k) Q fr h=Put2 E W (qoy W h ty esz bytes zero (x.ev fr) (y.ev fr)) d r k Q fr:=by
 rw [run_pure (fun _ _ e=>by cases e)]; rfl
theorem qeq {ty esz:Nat}{x:XO}{lo hi mx:Option XO} : Run E W (.ops (⟨d,.slc ty esz x lo hi mx,none,cl⟩::r)::k) Q fr h=Put1 E W (ul h ty esz (x.ev fr) (lo.map (XO.ev fr)) (hi.map (XO.ev fr)) (mx.map (XO.ev fr))) d r k Q fr h:=by
 rw [run_pure (fun _ _ e=>by cases e)]
 refine qa9 ?_
 simp only [qx,ul]
 cases ya (lo.map (XO.ev fr)) <;> try rfl
 cases ya (hi.map (XO.ev fr)) <;> try rfl
 cases ya (mx.map (XO.ev fr)) <;> try rfl
 rename_i l e m
 dsimp only
 cases wc h ty esz (x.ev fr) l e m <;> rfl
theorem run_build {zero:List XV}{ps:List (Nat × Nat × XO)} : Run E W (.ops (⟨d,.build zero ps,none,cl⟩::r)::k) Q fr h=Put1 E W (qf0 zero (ps.map (evp fr))) d r k Q fr h:=by
 rw [run_pure (fun _ _ e=>by cases e)]
 refine qa9 ?_
 simp only [qx,qf0]
 have e:ps.map (fun p=>(p.1,p.2.1,XO.ev fr p.2.2))=ps.map (evp fr):=rfl
 rw [e]
 cases fill zero (ps.map (evp fr)) <;> rfl
theorem yu {ty len:Nat}{zero:List XV}{ps:List (Nat × Nat × XO)} : Run E W (.ops (⟨d,.buildS ty len zero ps,none,cl⟩::r)::k) Q fr h=Put2 E W (qb8 h ty len zero (ps.map (evp fr))) d r k Q fr:=by
 rw [run_pure (fun _ _ e=>by cases e)]
 congr 1
 simp only [qx,qb8]
 have e:ps.map (fun p=>(p.1,p.2.1,XO.ev fr p.2.2))=ps.map (evp fr):=rfl
 rw [e]
 cases fill zero (ps.map (evp fr)) <;> rfl
theorem q4g {mx:Bool}{xs:List XO} : Run E W (.ops (⟨d,.mnx mx xs,none,cl⟩::r)::k) Q fr h=Put1 E W (qhn mx (xs.map (XO.ev fr))) d r k Q fr h:=by
 rw [run_pure (fun _ _ e=>by cases e)]
 refine qa9 ?_
 simp only [qx]
 cases xs.map (XO.ev fr) with
 | nil=>rfl
 | cons v vs =>
  cases v <;> try rfl
  rename_i k0 a0
  simp only [qhn]
  cases qes mx a0 k0 vs <;> rfl

theorem qu:Run E W (.draw hs [] ld wr::k) Q fr h=Run E W k Q fr h:=(rfl)
theorem qg {v:XV} : Put1D E W (some v) d hs r ld wr k Q fr h=Run E W (.draw hs r ld wr::k) Q (fr.put d v) h:=(rfl)
theorem qn {op:XOp}{g:Nat}{want:Bool} : Run E W (.draw hs (⟨d,op,some (g,want),cl⟩::r) ld wr::k) Q fr h=GuardD E W (fr g) want ⟨d,op,none,cl⟩ hs r ld wr k Q fr h:=by
 show WD E W hs (⟨d,op,some (g,want),cl⟩::r) ld wr _ fr h=_
 simp only [WD,GuardD]
 cases fr g <;> rfl
theorem zc {o:XOper} : GuardD E W (.bool true) true o hs r ld wr k Q fr h=Run E W (.draw hs (o::r) ld wr::k) Q fr h:=by simp [GuardD]
theorem zr {o:XOper} : GuardD E W (.bool false) false o hs r ld wr k Q fr h=Run E W (.draw hs (o::r) ld wr::k) Q fr h:=by simp [GuardD]
theorem ky {o:XOper} : GuardD E W (.bool false) true o hs r ld wr k Q fr h=Run E W (.draw hs r ld wr::k) Q (fr.put o.dst (.tup [])) h:=by simp [GuardD]
theorem wt {o:XOper} : GuardD E W (.bool true) false o hs r ld wr k Q fr h=Run E W (.draw hs r ld wr::k) Q (fr.put o.dst (.tup [])) h:=by simp [GuardD]
theorem qd3 {o:XOper}{want:Bool}{vs:List XV} : GuardD E W (.tup vs) want o hs r ld wr k Q fr h=Run E W (.draw hs r ld wr::k) Q (fr.put o.dst (.tup [])) h:=(rfl)
theorem jg {o:XOper}{t want:Bool}(h1:t=true→GuardD E W (.bool true) want o hs r ld wr k Q fr h)(h2:t=false→GuardD E W (.bool false) want o hs r ld wr k Q fr h) : GuardD E W (.bool t) want o hs r ld wr k Q fr h:=by
 cases t
 ·exact h2 rfl
 ·exact h1 rfl
theorem ub {op:XOp} : Run E W (.draw hs (⟨d,op,none,4⟩::r) ld wr::k) Q fr h=Put2D E W (qx (fun _=>false) (XO.ev fr) h op) d hs r ld wr k Q fr:=by
 simp only [Run,yj,WD,OpD,Put2D]
 rw [if_neg (by decide),if_pos trivial]
 cases qx (fun _=>false) (XO.ev fr) h op <;> rfl
theorem qd0 {op:XOp}(hf:jr (XO.ev fr) op=[]) : Run E W (.draw hs (⟨d,op,none,1⟩::r) ld wr::k) Q fr h=Put2D E W (qx (fun _=>false) (XO.ev fr) h op) d hs r ld wr k Q fr:=by
 simp only [Run,yj,WD,OpD,Put2D,hf]
 rw [if_pos trivial]
 simp only [List.all_nil,ym,true_and,List.nil_append]
 cases qx (fun _=>false) (XO.ev fr) h op <;> rfl
theorem yi {o:Option XV} : Put2D E W (o.map fun v=>(v,h)) d hs r ld wr k Q fr=Put1D E W o d hs r ld wr k Q fr h:=by
 cases o <;> rfl
theorem qss {op:BinOp}{x y:XO} : qx W (XO.ev fr) h (.bin op x y)=(wn op (x.ev fr) (y.ev fr)).map fun v=>(v,h):=by
 simp only [qx]; cases wn op (x.ev fr) (y.ev fr) <;> rfl
theorem q6u {op:UnOp}{x:XO} : qx W (XO.ev fr) h (.un op x)=(xun op (x.ev fr)).map fun v=>(v,h):=by
 simp only [qx]; cases xun op (x.ev fr) <;> rfl
theorem qzm {n:Option Nat}{x:XO} : qx W (XO.ev fr) h (.ld n x)=(xld h n (x.ev fr)).map fun v=>(v,h):=by
 cases n with
 | none =>
  simp only [qx]
  cases x.ev fr <;> simp only [xld] <;> try rfl
  ·rename_i cs o
   cases cs[o]? <;> rfl
  ·rename_i b o
   cases qad h b o <;> rfl
 | some n =>
  simp only [qx]
  cases x.ev fr <;> simp only [xld] <;> try rfl
  ·split <;> rfl
  ·rename_i b o
   cases jv h b o n <;> rfl
theorem qwb {off:Nat}{x:XO} : qx W (XO.ev fr) h (.fa off x)=(xfa off (x.ev fr)).map fun v=>(v,h):=by
 simp only [qx]; cases x.ev fr <;> rfl
theorem q01 {esz:Nat}{x i:XO} : qx W (XO.ev fr) h (.ia esz x i)=(xia esz (x.ev fr) (i.ev fr)).map fun v=>(v,h):=by
 simp only [qx]
 cases x.ev fr <;> cases i.ev fr <;> simp only [xia] <;> try rfl
 ·rename_i es kk n
  by_cases h0:0≤n
  ·rw [if_pos h0,if_pos h0]
   cases es[n.toNat]? with
   | none=>rfl
   | some cs =>
    dsimp only
    by_cases hc:cs.length=esz
    ·rw [if_pos hc,if_pos hc]; rfl
    ·rw [if_neg hc,if_neg hc]; rfl
  ·rw [if_neg h0,if_neg h0]; rfl
 ·split <;> rfl
theorem qp0 {x:XO} : qx W (XO.ev fr) h (.len x)=(qe6 (x.ev fr)).map fun v=>(v,h):=by
 simp only [qx]; cases x.ev fr <;> rfl
theorem q3n {c x y:XO} : qx W (XO.ev fr) h (.pick c x y)=(qj6 (c.ev fr) (x.ev fr) (y.ev fr)).map fun v=>(v,h):=by
 simp only [qx]
 cases c.ev fr <;> try rfl
 rename_i t
 cases t <;> rfl
theorem qtx {x:XO}{i:Nat} : qx W (XO.ev fr) h (.ext x i)=(qhi i (x.ev fr)).map fun v=>(v,h):=by
 simp only [qx]
 cases x.ev fr <;> try rfl
 rename_i vs
 simp only [qhi]
 cases vs[i]? <;> rfl
theorem q4v {x:XO} : qx W (XO.ev fr) h (.chk x)=(qo8 (x.ev fr)).map fun v=>(v,h):=by
 simp only [qx]; cases x.ev fr <;> rfl
theorem q5v {n:Bool}{x y:XO} : qx W (XO.ev fr) h (.eqb n x y)=(qms n (x.ev fr) (y.ev fr)).map fun v=>(v,h):=by
 simp only [qx]
 cases x.ev fr <;> cases y.ev fr <;> rfl
theorem q42 {kk:IntKind}{x:XO} : qx W (XO.ev fr) h (.cvt kk x)=(qpi kk (x.ev fr)).map fun v=>(v,h):=by
 simp only [qx]; cases x.ev fr <;> rfl
theorem qtk {ty esz:Nat}{x:XO}{lo hi mx:Option XO} : qx W (XO.ev fr) h (.slc ty esz x lo hi mx)=(ul h ty esz (x.ev fr) (lo.map (XO.ev fr)) (hi.map (XO.ev fr)) (mx.map (XO.ev fr))).map fun v=>(v,h):=by
 simp only [qx,ul]
 cases ya (lo.map (XO.ev fr)) <;> try rfl
 cases ya (hi.map (XO.ev fr)) <;> try rfl
 cases ya (mx.map (XO.ev fr)) <;> try rfl
 rename_i l e m
 dsimp only
 cases wc h ty esz (x.ev fr) l e m <;> rfl
theorem qu3 {zero:List XV}{ps:List (Nat × Nat × XO)} : qx W (XO.ev fr) h (.build zero ps)=(qf0 zero (ps.map (evp fr))).map fun v=>(v,h):=by
 simp only [qx,qf0]
 have e:ps.map (fun p=>(p.1,p.2.1,XO.ev fr p.2.2))=ps.map (evp fr):=rfl
 rw [e]
 cases fill zero (ps.map (evp fr)) <;> rfl
theorem qsl {mx:Bool}{xs:List XO} : qx W (XO.ev fr) h (.mnx mx xs)=(qhn mx (xs.map (XO.ev fr))).map fun v=>(v,h):=by
 simp only [qx]
 cases xs.map (XO.ev fr) with
 | nil=>rfl
 | cons v vs =>
  cases v <;> try rfl
  rename_i k0 a0
  simp only [qhn]
  cases qes mx a0 k0 vs <;> rfl
theorem qz8 {x:XO} : qx W (XO.ev fr) h (.mv x)=(some (x.ev fr)).map fun v=>(v,h):=(rfl)
theorem qsa {op:BinOp}{x y:XO} : Run E W (.draw hs (⟨d,.bin op x y,none,1⟩::r) ld wr::k) Q fr h=Put1D E W (wn op (x.ev fr) (y.ev fr)) d hs r ld wr k Q fr h:=by
 rw [qd0 rfl,qss,yi]
theorem kh {op:BinOp}{x y:XO} : Run E W (.draw hs (⟨d,.bin op x y,none,4⟩::r) ld wr::k) Q fr h=Put1D E W (wn op (x.ev fr) (y.ev fr)) d hs r ld wr k Q fr h:=by
 rw [ub,qss,yi]
theorem qer {op:UnOp}{x:XO} : Run E W (.draw hs (⟨d,.un op x,none,4⟩::r) ld wr::k) Q fr h=Put1D E W (xun op (x.ev fr)) d hs r ld wr k Q fr h:=by
 rw [ub,q6u,yi]
theorem zm {n:Option Nat}{x:XO} : Run E W (.draw hs (⟨d,.ld n x,none,4⟩::r) ld wr::k) Q fr h=Put1D E W (xld h n (x.ev fr)) d hs r ld wr k Q fr h:=by
 rw [ub,qzm,yi]
theorem uu {off:Nat}{x:XO} : Run E W (.draw hs (⟨d,.fa off x,none,1⟩::r) ld wr::k) Q fr h=Put1D E W (xfa off (x.ev fr)) d hs r ld wr k Q fr h:=by
 rw [qd0 rfl,qwb,yi]
theorem zq {off:Nat}{x:XO} : Run E W (.draw hs (⟨d,.fa off x,none,4⟩::r) ld wr::k) Q fr h=Put1D E W (xfa off (x.ev fr)) d hs r ld wr k Q fr h:=by
 rw [ub,qwb,yi]
theorem q0m {esz:Nat}{x i:XO} : Run E W (.draw hs (⟨d,.ia esz x i,none,1⟩::r) ld wr::k) Q fr h=Put1D E W (xia esz (x.ev fr) (i.ev fr)) d hs r ld wr k Q fr h:=by
 rw [qd0 rfl,q01,yi]
theorem wo {esz:Nat}{x i:XO} : Run E W (.draw hs (⟨d,.ia esz x i,none,4⟩::r) ld wr::k) Q fr h=Put1D E W (xia esz (x.ev fr) (i.ev fr)) d hs r ld wr k Q fr h:=by
 rw [ub,q01,yi]
theorem qsd {x:XO} : Run E W (.draw hs (⟨d,.len x,none,1⟩::r) ld wr::k) Q fr h=Put1D E W (qe6 (x.ev fr)) d hs r ld wr k Q fr h:=by
 rw [qd0 rfl,qp0,yi]
theorem qd2 {x:XO} : Run E W (.draw hs (⟨d,.len x,none,4⟩::r) ld wr::k) Q fr h=Put1D E W (qe6 (x.ev fr)) d hs r ld wr k Q fr h:=by
 rw [ub,qp0,yi]
theorem z8 {c x y:XO} : Run E W (.draw hs (⟨d,.pick c x y,none,4⟩::r) ld wr::k) Q fr h=Put1D E W (qj6 (c.ev fr) (x.ev fr) (y.ev fr)) d hs r ld wr k Q fr h:=by
 rw [ub,q3n,yi]
theorem qt1 {x:XO}{i:Nat} : Run E W (.draw hs (⟨d,.ext x i,none,1⟩::r) ld wr::k) Q fr h=Put1D E W (qhi i (x.ev fr)) d hs r ld wr k Q fr h:=by
 rw [qd0 rfl,qtx,yi]
theorem qmy {x:XO}{i:Nat} : Run E W (.draw hs (⟨d,.ext x i,none,4⟩::r) ld wr::k) Q fr h=Put1D E W (qhi i (x.ev fr)) d hs r ld wr k Q fr h:=by
 rw [ub,qtx,yi]
theorem k9 {x:XO} : Run E W (.draw hs (⟨d,.chk x,none,4⟩::r) ld wr::k) Q fr h=Put1D E W (qo8 (x.ev fr)) d hs r ld wr k Q fr h:=by
 rw [ub,q4v,yi]
theorem quf {n:Bool}{x y:XO} : Run E W (.draw hs (⟨d,.eqb n x y,none,4⟩::r) ld wr::k) Q fr h=Put1D E W (qms n (x.ev fr) (y.ev fr)) d hs r ld wr k Q fr h:=by
 rw [ub,q5v,yi]
theorem q5o {kk:IntKind}{x:XO} : Run E W (.draw hs (⟨d,.cvt kk x,none,4⟩::r) ld wr::k) Q fr h=Put1D E W (qpi kk (x.ev fr)) d hs r ld wr k Q fr h:=by
 rw [ub,q42,yi]
theorem q5c {ty esz:Nat}{x:XO}{lo hi mx:Option XO} : Run E W (.draw hs (⟨d,.slc ty esz x lo hi mx,none,1⟩::r) ld wr::k) Q fr h=Put1D E W (ul h ty esz (x.ev fr) (lo.map (XO.ev fr)) (hi.map (XO.ev fr)) (mx.map (XO.ev fr))) d hs r ld wr k Q fr h:=by
 rw [qd0 rfl,qtk,yi]
theorem qg9 {ty esz:Nat}{x:XO}{lo hi mx:Option XO} : Run E W (.draw hs (⟨d,.slc ty esz x lo hi mx,none,4⟩::r) ld wr::k) Q fr h=Put1D E W (ul h ty esz (x.ev fr) (lo.map (XO.ev fr)) (hi.map (XO.ev fr)) (mx.map (XO.ev fr))) d hs r ld wr k Q fr h:=by
 rw [ub,qtk,yi]
theorem qi9 {zero:List XV}{ps:List (Nat × Nat × XO)} : Run E W (.draw hs (⟨d,.build zero ps,none,4⟩::r) ld wr::k) Q fr h=Put1D E W (qf0 zero (ps.map (evp fr))) d hs r ld wr k Q fr h:=by
 rw [ub,qu3,yi]
theorem q5t {mx:Bool}{xs:List XO} : Run E W (.draw hs (⟨d,.mnx mx xs,none,1⟩::r) ld wr::k) Q fr h=Put1D E W (qhn mx (xs.map (XO.ev fr))) d hs r ld wr k Q fr h:=by
 rw [qd0 rfl,qsl,yi]
theorem q53 {mx:Bool}{xs:List XO} : Run E W (.draw hs (⟨d,.mnx mx xs,none,4⟩::r) ld wr::k) Q fr h=Put1D E W (qhn mx (xs.map (XO.ev fr))) d hs r ld wr k Q fr h:=by
 rw [ub,qsl,yi]
theorem qj9 {x:XO} : Run E W (.draw hs (⟨d,.mv x,none,1⟩::r) ld wr::k) Q fr h=Put1D E W (some (x.ev fr)) d hs r ld wr k Q fr h:=by
 rw [qd0 rfl,qz8,yi]
theorem zp {x:XO} : Run E W (.draw hs (⟨d,.mv x,none,4⟩::r) ld wr::k) Q fr h=Put1D E W (some (x.ev fr)) d hs r ld wr k Q fr h:=by
 rw [ub,qz8,yi]
theorem k8 {f:XO}{args:List XO} : Run E W (.draw hs (⟨d,.call f args,none,3⟩::r) ld wr::k) Q fr h=CallD E W (f.ev fr) (args.map (XO.ev fr)) d hs r ld wr k Q fr h:=by
 simp only [Run,yj,WD,OpD,CallD]
 rw [if_neg (by decide),if_neg (by decide),if_neg (by decide),if_pos trivial]
 rfl
theorem yy {f:XO}{args:List XO} : Run E W (.draw hs (⟨d,.call f args,none,2⟩::r) ld wr::k) Q fr h=CallQ E W (f.ev fr) (args.map (XO.ev fr)) (qf3 E (f.ev fr) (args.map (XO.ev fr))) d hs r ld wr k Q fr h:=by
 simp only [Run,yj,WD,OpD,CallQ]
 rw [if_neg (by decide),if_neg (by decide),if_pos trivial]
 rfl
theorem qrb {op:XOp}(hop:∀ f args,op ≠ .call f args) : Run E W (.draw hs (⟨d,op,none,3⟩::r) ld wr::k) Q fr h=Put2D E W (qx W (XO.ev fr) h op) d hs r ld wr k Q fr:=by
 simp only [Run,yj,WD,OpD,Put2D]
 rw [if_neg (by decide),if_neg (by decide),if_neg (by decide),if_pos trivial]
 cases op <;> first | exact absurd rfl (hop _ _) | (simp only [OpW]; split <;> simp_all)
theorem wv {n:Option Nat}{x:XO} : Run E W (.draw hs (⟨d,.ld n x,none,1⟩::r) ld wr::k) Q fr h=LdD E W n (x.ev fr) d hs r ld wr k Q fr h:=by
 simp only [Run,yj,WD,OpD]
 rw [if_pos trivial,qzm]
 cases hv:XO.ev fr x
 case ptr b o =>
  have e:jr (XO.ev fr) (.ld n x)=[b]:=by simp only [jr,hv]
  rw [e]
  simp only [LdD,List.all_cons,List.all_nil,Bool.and_true,decide_eq_true_eq,Bool.not_eq_true',List.cons_append,List.nil_append,and_assoc,ym,Put1D]
  cases xld h n (XV.ptr b o) <;> rfl
 all_goals
  have e:jr (XO.ev fr) (.ld n x)=[]:=by simp only [jr,hv]
  rw [e]
  simp only [LdD,List.all_nil,ym,true_and,List.nil_append,Put1D]
  generalize xld h n _=o
  cases o <;> rfl
end
end Go.Proofs.Ytefgfcalgjmhjaa.X
