/- Running X's code by rewriting: the other operations; regions of open order. -/
import Derived.Test.YtjloihcijdcpeaaZRun
set_option linter.unusedVariables false
set_option linter.unusedSimpArgs false
namespace Go.Proofs.Ytjloihcijdcpeaa.X
open Go

def pst (W:Nat→Bool)(h:Heap)(n:Nat)(v0:XV)(v1:XV) : Option (XV × Heap):=za W (XO.ev fun _ => .undef) h (.st n (.c v0) (.c v1))
def qbt (W:Nat→Bool)(h:Heap)(ty esz bytes:Nat)(v0:XV)(v1:XV) : Option (XV × Heap):=za W (XO.ev fun _ => .undef) h (.app ty esz bytes (.c v0) (.c v1))
def qoe (W:Nat→Bool)(h:Heap)(ty n:Nat)(v0:XV) : Option (XV × Heap):=za W (XO.ev fun _ => .undef) h (.box ty n (.c v0))
def ql6 (W:Nat→Bool)(h:Heap)(ty:Nat)(zero:List XV)  : Option (XV × Heap):=za W (XO.ev fun _ => .undef) h (.new ty zero)
def q6h (h:Heap)(ty esz:Nat)(x:XV)(lo hi mx:Option XV) : Option XV :=
 match qde lo,qde hi,qde mx with
 | some l,some e,some m=>qg5 h ty esz x l e m
 | _,_,_=>none
def qga (zero:List XV)(ps:List (Nat × Nat × XV)) : Option XV:=(fill zero ps).map .agg
def xk (h:Heap)(ty len:Nat)(zero:List XV)(ps:List (Nat × Nat × XV)) : Option (XV × Heap):=(fill zero ps).map fun cs=>(.row h.length 0 len len,h++[⟨cs,ty,true⟩])
def qkg (mx:Bool) : List XV→Option XV
 | .int k a::r=>qf0 mx a k r
 | _=>none
def evp (fr:Fr)(p:Nat × Nat × XO) : Nat × Nat × XV:=(p.1,p.2.1,p.2.2.ev fr)

def Put1D (E:Env)(W:Nat→Bool)(o:Option XV)(d:Option Nat)(hs:Nat)(r:List XOper)(ld wr:List Nat)(k:List It)(Q:QE)(fr:Fr)(h:Heap) : Prop :=
 match o with
 | some v=>Run E W (.draw hs r ld wr::k) Q (fr.put d v) h
 | none=>False
def Put2D (E:Env)(W:Nat→Bool)(o:Option (XV × Heap))(d:Option Nat)(hs:Nat)(r:List XOper)(ld wr:List Nat)(k:List It)(Q:QE)(fr:Fr) : Prop :=
 match o with
 | some (v,h)=>Run E W (.draw hs r ld wr::k) Q (fr.put d v) h
 | none=>False
def LdD (E:Env)(W:Nat→Bool)(n:Option Nat)(v:XV)(d:Option Nat)(hs:Nat)(r:List XOper)(ld wr:List Nat)(k:List It)(Q:QE)(fr:Fr)(h:Heap) : Prop :=
 match v with
 | .ptr b o=>(b<hs∧wr.contains b=false)∧Put1D E W (xld h n (.ptr b o)) d hs r (b::ld) wr k Q fr h
 | v=>Put1D E W (xld h n v) d hs r ld wr k Q fr h
def GuardD (E:Env)(W:Nat→Bool)(v:XV)(want:Bool)(o:XOper)(hs:Nat)(r:List XOper)(ld wr:List Nat)(k:List It)(Q:QE)(fr:Fr)(h:Heap) : Prop :=
 match v with
 | .bool b=>if b=want then Run E W (.draw hs (o::r) ld wr::k) Q fr h else Run E W (.draw hs r ld wr::k) Q (fr.put o.dst (.tup [])) h
 | .tup _=>Run E W (.draw hs r ld wr::k) Q (fr.put o.dst (.tup [])) h
 | _=>False
def CallD (E:Env)(W:Nat→Bool)(f:XV)(args:List XV)(d:Option Nat)(hs:Nat)(r:List XOper)(ld wr:List Nat)(k:List It)(Q:QE)(fr:Fr)(h:Heap) : Prop :=
 CallW E W f args h (fun v h'=>Run E W (.draw hs r ld wr::k) Q (fr.put d v) h')
def CallQ (E:Env)(W:Nat→Bool)(f:XV)(args:List XV)(ms:List Nat)(d:Option Nat)(hs:Nat)(r:List XOper)(ld wr:List Nat)(k:List It)(Q:QE)(fr:Fr)(h:Heap) : Prop :=
 yd ms ld=true∧CallW E (uk W hs ms) f args h (fun v h'=>Run E W (.draw hs r ld (ms++wr)::k) Q (fr.put d v) h')
def qgj (E:Env)(f:XV)(args:List XV) : List Nat :=
 match f with
 | .fn g caps=>if E.mode g≠0 then [] else (args++caps).flatMap qlb
 | _=>[]
def QuietD (E:Env)(W:Nat→Bool)(o:(Nat→Bool)→Option (XV × Heap))(ms:List Nat)(d:Option Nat)(hs:Nat)(r:List XOper)(ld wr:List Nat)(k:List It)(Q:QE)(fr:Fr) : Prop :=
 yd ms ld=true∧Put2D E W (o (uk W hs ms)) d hs r ld (ms++wr) k Q fr

section
variable {E:Env}{W:Nat→Bool}{k:List It}{Q:QE}{fr:Fr}{h:Heap}{r:List XOper}{d:Option Nat}{cl hs:Nat}{ld wr:List Nat}{kk:IntKind}

theorem zl {n:Nat}{x y:XO} : Run E W (.ops (⟨d,.st n x y,none,cl⟩::r)::k) Q fr h=Put2 E W (pst W h n (x.ev fr) (y.ev fr)) d r k Q fr:=by
 rw [run_pure (fun _ _ e=>by cases e)]; rfl
theorem xj {ty esz bytes:Nat}{x y:XO} : Run E W (.ops (⟨d,.app ty esz bytes x y,none,cl⟩::r)::k) Q fr h=Put2 E W (qbt W h ty esz bytes (x.ev fr) (y.ev fr)) d r k Q fr:=by
 rw [run_pure (fun _ _ e=>by cases e)]; rfl
theorem ju {ty n:Nat}{x:XO} : Run E W (.ops (⟨d,.box ty n x,none,cl⟩::r)::k) Q fr h=Put2 E W (qoe W h ty n (x.ev fr)) d r k Q fr:=by
 rw [run_pure (fun _ _ e=>by cases e)]; rfl
theorem jg {ty:Nat}{zero:List XV} : Run E W (.ops (⟨d,.new ty zero,none,cl⟩::r)::k) Q fr h=Put2 E W (ql6 W h ty zero ) d r k Q fr:=by
 rw [run_pure (fun _ _ e=>by cases e)]; rfl
theorem qnz {f:Nat}{caps:List XO} : Run E W (.ops (⟨d,.mkF f caps,none,cl⟩::r)::k) Q fr h=Run E W (.ops r::k) Q (fr.put d (.fn f (caps.map (XO.ev fr)))) h:=(rfl)
theorem run_build {zero:List XV}{ps:List (Nat × Nat × XO)} : Run E W (.ops (⟨d,.build zero ps,none,cl⟩::r)::k) Q fr h=Put1 E W (qga zero (ps.map (evp fr))) d r k Q fr h:=by
 rw [run_pure (fun _ _ e=>by cases e)]
 refine qb6 ?_
 simp only [za,qga]
 have e:ps.map (fun p=>(p.1,p.2.1,XO.ev fr p.2.2))=ps.map (evp fr):=rfl
 rw [e]
 cases fill zero (ps.map (evp fr)) <;> rfl
theorem j6 {ty len:Nat}{zero:List XV}{ps:List (Nat × Nat × XO)} : Run E W (.ops (⟨d,.buildS ty len zero ps,none,cl⟩::r)::k) Q fr h=Put2 E W (xk h ty len zero (ps.map (evp fr))) d r k Q fr:=by
 rw [run_pure (fun _ _ e=>by cases e)]
 congr 1
 simp only [za,xk]
 have e:ps.map (fun p=>(p.1,p.2.1,XO.ev fr p.2.2))=ps.map (evp fr):=rfl
 rw [e]
 cases fill zero (ps.map (evp fr)) <;> rfl
theorem zm:Run E W (.draw hs [] ld wr::k) Q fr h=Run E W k Q fr h:=(rfl)
theorem qt {v:XV} : Put1D E W (some v) d hs r ld wr k Q fr h=Run E W (.draw hs r ld wr::k) Q (fr.put d v) h:=(rfl)
theorem zk {op:XOp}{g:Nat}{want:Bool} : Run E W (.draw hs (⟨d,op,some (g,want),cl⟩::r) ld wr::k) Q fr h=GuardD E W (fr g) want ⟨d,op,none,cl⟩ hs r ld wr k Q fr h:=by
 show WD E W hs (⟨d,op,some (g,want),cl⟩::r) ld wr _ fr h=_
 simp only [WD,GuardD]
 cases fr g <;> rfl
theorem qb9 {o:XOper} : GuardD E W (.bool true) true o hs r ld wr k Q fr h=Run E W (.draw hs (o::r) ld wr::k) Q fr h:=by simp [GuardD]
theorem z0 {o:XOper} : GuardD E W (.bool false) false o hs r ld wr k Q fr h=Run E W (.draw hs (o::r) ld wr::k) Q fr h:=by simp [GuardD]
theorem qo3 {o:XOper} : GuardD E W (.bool false) true o hs r ld wr k Q fr h=Run E W (.draw hs r ld wr::k) Q (fr.put o.dst (.tup [])) h:=by simp [GuardD]
theorem wx {o:XOper} : GuardD E W (.bool true) false o hs r ld wr k Q fr h=Run E W (.draw hs r ld wr::k) Q (fr.put o.dst (.tup [])) h:=by simp [GuardD]
theorem qjv {o:XOper}{want:Bool}{vs:List XV} : GuardD E W (.tup vs) want o hs r ld wr k Q fr h=Run E W (.draw hs r ld wr::k) Q (fr.put o.dst (.tup [])) h:=(rfl)
theorem yk {o:XOper}{t want:Bool}(h1:t=true→GuardD E W (.bool true) want o hs r ld wr k Q fr h)(h2:t=false→GuardD E W (.bool false) want o hs r ld wr k Q fr h) : GuardD E W (.bool t) want o hs r ld wr k Q fr h:=by
 cases t
 ·exact h2 rfl
 ·exact h1 rfl
theorem uy {op:XOp} : Run E W (.draw hs (⟨d,op,none,4⟩::r) ld wr::k) Q fr h=Put2D E W (za (fun _=>false) (XO.ev fr) h op) d hs r ld wr k Q fr:=by
 simp only [Run,kw,WD,OpD,Put2D]
 rw [if_neg (by decide),if_pos trivial]
 cases za (fun _=>false) (XO.ev fr) h op <;> rfl
theorem qfg {op:XOp}(hf:jm (XO.ev fr) op=[]) : Run E W (.draw hs (⟨d,op,none,1⟩::r) ld wr::k) Q fr h=Put2D E W (za (fun _=>false) (XO.ev fr) h op) d hs r ld wr k Q fr:=by
 simp only [Run,kw,WD,OpD,Put2D,hf]
 rw [if_pos trivial]
 simp only [List.all_nil,yd,true_and,List.nil_append]
 cases za (fun _=>false) (XO.ev fr) h op <;> rfl
theorem yg {o:Option XV} : Put2D E W (o.map fun v=>(v,h)) d hs r ld wr k Q fr=Put1D E W o d hs r ld wr k Q fr h:=by
 cases o <;> rfl
theorem qtm {op:BinOp}{x y:XO} : za W (XO.ev fr) h (.bin op x y)=(yx op (x.ev fr) (y.ev fr)).map fun v=>(v,h):=by
 simp only [za]; cases yx op (x.ev fr) (y.ev fr) <;> rfl
theorem q75 {op:UnOp}{x:XO} : za W (XO.ev fr) h (.un op x)=(xun op (x.ev fr)).map fun v=>(v,h):=by
 simp only [za]; cases xun op (x.ev fr) <;> rfl
theorem qzi {n:Option Nat}{x:XO} : za W (XO.ev fr) h (.ld n x)=(xld h n (x.ev fr)).map fun v=>(v,h):=by
 cases n with
 | none =>
  simp only [za]
  cases x.ev fr <;> simp only [xld] <;> try rfl
  ·rename_i cs o
   cases cs[o]? <;> rfl
  ·rename_i b o
   cases qae h b o <;> rfl
 | some n =>
  simp only [za]
  cases x.ev fr <;> simp only [xld] <;> try rfl
  ·split <;> rfl
  ·rename_i b o
   cases j5 h b o n <;> rfl
theorem qyw {off:Nat}{x:XO} : za W (XO.ev fr) h (.fa off x)=(xfa off (x.ev fr)).map fun v=>(v,h):=by
 simp only [za]; cases x.ev fr <;> rfl
theorem q8y {esz:Nat}{x i:XO} : za W (XO.ev fr) h (.ia esz x i)=(xia esz (x.ev fr) (i.ev fr)).map fun v=>(v,h):=by
 simp only [za]
 cases x.ev fr <;> cases i.ev fr <;> simp only [xia] <;> try rfl
 ·rename_i es kk n
  by_cases h0:0≤n
  ·rw [if_pos h0,if_pos h0]
   cases es[n.toNat]? with
   | none=>rfl
   | some cs =>
    dsimp only
    by_cases hc:cs.length=esz
    ·rw [if_pos hc,if_pos hc]; rfl
    ·rw [if_neg hc,if_neg hc]; rfl
  ·rw [if_neg h0,if_neg h0]; rfl
 ·split <;> rfl
theorem qtw {x:XO} : za W (XO.ev fr) h (.len x)=(qge (x.ev fr)).map fun v=>(v,h):=by
 simp only [za]; cases x.ev fr <;> rfl
theorem q48 {c x y:XO} : za W (XO.ev fr) h (.pick c x y)=(qj2 (c.ev fr) (x.ev fr) (y.ev fr)).map fun v=>(v,h):=by
 simp only [za]
 cases c.ev fr <;> try rfl
 rename_i t
 cases t <;> rfl
theorem qpx {x:XO}{i:Nat} : za W (XO.ev fr) h (.ext x i)=(qhk i (x.ev fr)).map fun v=>(v,h):=by
 simp only [za]
 cases x.ev fr <;> try rfl
 rename_i vs
 simp only [qhk]
 cases vs[i]? <;> rfl
theorem qud {x:XO} : za W (XO.ev fr) h (.chk x)=(ql7 (x.ev fr)).map fun v=>(v,h):=by
 simp only [za]; cases x.ev fr <;> rfl
theorem q6y {n:Bool}{x y:XO} : za W (XO.ev fr) h (.eqb n x y)=(qoz n (x.ev fr) (y.ev fr)).map fun v=>(v,h):=by
 simp only [za]
 cases x.ev fr <;> cases y.ev fr <;> rfl
theorem q7d {kk:IntKind}{x:XO} : za W (XO.ev fr) h (.cvt kk x)=(qn1 kk (x.ev fr)).map fun v=>(v,h):=by
 simp only [za]; cases x.ev fr <;> rfl
theorem qxh {zero:List XV}{ps:List (Nat × Nat × XO)} : za W (XO.ev fr) h (.build zero ps)=(qga zero (ps.map (evp fr))).map fun v=>(v,h):=by
 simp only [za,qga]
 have e:ps.map (fun p=>(p.1,p.2.1,XO.ev fr p.2.2))=ps.map (evp fr):=rfl
 rw [e]
 cases fill zero (ps.map (evp fr)) <;> rfl
theorem q65 {mx:Bool}{xs:List XO} : za W (XO.ev fr) h (.mnx mx xs)=(qkg mx (xs.map (XO.ev fr))).map fun v=>(v,h):=by
 simp only [za]
 cases xs.map (XO.ev fr) with
 | nil=>rfl
 | cons v vs =>
  cases v <;> try rfl
  rename_i k0 a0
  simp only [qkg]
  cases qf0 mx a0 k0 vs <;> rfl
theorem q3j {x:XO} : za W (XO.ev fr) h (.mv x)=(some (x.ev fr)).map fun v=>(v,h):=(rfl)
theorem qmc {op:BinOp}{x y:XO} : Run E W (.draw hs (⟨d,.bin op x y,none,1⟩::r) ld wr::k) Q fr h=Put1D E W (yx op (x.ev fr) (y.ev fr)) d hs r ld wr k Q fr h:=by
 rw [qfg rfl,qtm,yg]
theorem u3 {op:BinOp}{x y:XO} : Run E W (.draw hs (⟨d,.bin op x y,none,4⟩::r) ld wr::k) Q fr h=Put1D E W (yx op (x.ev fr) (y.ev fr)) d hs r ld wr k Q fr h:=by
 rw [uy,qtm,yg]
theorem qgv {op:UnOp}{x:XO} : Run E W (.draw hs (⟨d,.un op x,none,4⟩::r) ld wr::k) Q fr h=Put1D E W (xun op (x.ev fr)) d hs r ld wr k Q fr h:=by
 rw [uy,q75,yg]
theorem z2 {n:Option Nat}{x:XO} : Run E W (.draw hs (⟨d,.ld n x,none,4⟩::r) ld wr::k) Q fr h=Put1D E W (xld h n (x.ev fr)) d hs r ld wr k Q fr h:=by
 rw [uy,qzi,yg]
theorem qdo {off:Nat}{x:XO} : Run E W (.draw hs (⟨d,.fa off x,none,1⟩::r) ld wr::k) Q fr h=Put1D E W (xfa off (x.ev fr)) d hs r ld wr k Q fr h:=by
 rw [qfg rfl,qyw,yg]
theorem z8 {off:Nat}{x:XO} : Run E W (.draw hs (⟨d,.fa off x,none,4⟩::r) ld wr::k) Q fr h=Put1D E W (xfa off (x.ev fr)) d hs r ld wr k Q fr h:=by
 rw [uy,qyw,yg]
theorem qam {esz:Nat}{x i:XO} : Run E W (.draw hs (⟨d,.ia esz x i,none,4⟩::r) ld wr::k) Q fr h=Put1D E W (xia esz (x.ev fr) (i.ev fr)) d hs r ld wr k Q fr h:=by
 rw [uy,q8y,yg]
theorem q62 {x:XO} : Run E W (.draw hs (⟨d,.len x,none,1⟩::r) ld wr::k) Q fr h=Put1D E W (qge (x.ev fr)) d hs r ld wr k Q fr h:=by
 rw [qfg rfl,qtw,yg]
theorem qj5 {x:XO} : Run E W (.draw hs (⟨d,.len x,none,4⟩::r) ld wr::k) Q fr h=Put1D E W (qge (x.ev fr)) d hs r ld wr k Q fr h:=by
 rw [uy,qtw,yg]
theorem yj {c x y:XO} : Run E W (.draw hs (⟨d,.pick c x y,none,4⟩::r) ld wr::k) Q fr h=Put1D E W (qj2 (c.ev fr) (x.ev fr) (y.ev fr)) d hs r ld wr k Q fr h:=by
 rw [uy,q48,yg]
theorem q51 {x:XO}{i:Nat} : Run E W (.draw hs (⟨d,.ext x i,none,1⟩::r) ld wr::k) Q fr h=Put1D E W (qhk i (x.ev fr)) d hs r ld wr k Q fr h:=by
 rw [qfg rfl,qpx,yg]
theorem q6v {x:XO}{i:Nat} : Run E W (.draw hs (⟨d,.ext x i,none,4⟩::r) ld wr::k) Q fr h=Put1D E W (qhk i (x.ev fr)) d hs r ld wr k Q fr h:=by
 rw [uy,qpx,yg]
theorem q7h {x:XO} : Run E W (.draw hs (⟨d,.chk x,none,1⟩::r) ld wr::k) Q fr h=Put1D E W (ql7 (x.ev fr)) d hs r ld wr k Q fr h:=by
 rw [qfg rfl,qud,yg]
theorem k7 {x:XO} : Run E W (.draw hs (⟨d,.chk x,none,4⟩::r) ld wr::k) Q fr h=Put1D E W (ql7 (x.ev fr)) d hs r ld wr k Q fr h:=by
 rw [uy,qud,yg]
theorem qlu {n:Bool}{x y:XO} : Run E W (.draw hs (⟨d,.eqb n x y,none,4⟩::r) ld wr::k) Q fr h=Put1D E W (qoz n (x.ev fr) (y.ev fr)) d hs r ld wr k Q fr h:=by
 rw [uy,q6y,yg]
theorem q7x {kk:IntKind}{x:XO} : Run E W (.draw hs (⟨d,.cvt kk x,none,4⟩::r) ld wr::k) Q fr h=Put1D E W (qn1 kk (x.ev fr)) d hs r ld wr k Q fr h:=by
 rw [uy,q7d,yg]
theorem qhd {zero:List XV}{ps:List (Nat × Nat × XO)} : Run E W (.draw hs (⟨d,.build zero ps,none,4⟩::r) ld wr::k) Q fr h=Put1D E W (qga zero (ps.map (evp fr))) d hs r ld wr k Q fr h:=by
 rw [uy,qxh,yg]
theorem q52 {mx:Bool}{xs:List XO} : Run E W (.draw hs (⟨d,.mnx mx xs,none,4⟩::r) ld wr::k) Q fr h=Put1D E W (qkg mx (xs.map (XO.ev fr))) d hs r ld wr k Q fr h:=by
 rw [uy,q65,yg]
theorem qj1 {x:XO} : Run E W (.draw hs (⟨d,.mv x,none,1⟩::r) ld wr::k) Q fr h=Put1D E W (some (x.ev fr)) d hs r ld wr k Q fr h:=by
 rw [qfg rfl,q3j,yg]
theorem jl {x:XO} : Run E W (.draw hs (⟨d,.mv x,none,4⟩::r) ld wr::k) Q fr h=Put1D E W (some (x.ev fr)) d hs r ld wr k Q fr h:=by
 rw [uy,q3j,yg]
theorem xz {f:XO}{args:List XO} : Run E W (.draw hs (⟨d,.call f args,none,3⟩::r) ld wr::k) Q fr h=CallD E W (f.ev fr) (args.map (XO.ev fr)) d hs r ld wr k Q fr h:=by
 simp only [Run,kw,WD,OpD,CallD]
 rw [if_neg (by decide),if_neg (by decide),if_neg (by decide),if_pos trivial]
 rfl
theorem qdd {f:XO}{args:List XO} : Run E W (.draw hs (⟨d,.call f args,none,2⟩::r) ld wr::k) Q fr h=CallQ E W (f.ev fr) (args.map (XO.ev fr)) (qgj E (f.ev fr) (args.map (XO.ev fr))) d hs r ld wr k Q fr h:=by
 simp only [Run,kw,WD,OpD,CallQ]
 rw [if_neg (by decide),if_neg (by decide),if_pos trivial]
 rfl
theorem qss {op:XOp}(hop:∀ f args,op ≠ .call f args) : Run E W (.draw hs (⟨d,op,none,3⟩::r) ld wr::k) Q fr h=Put2D E W (za W (XO.ev fr) h op) d hs r ld wr k Q fr:=by
 simp only [Run,kw,WD,OpD,Put2D]
 rw [if_neg (by decide),if_neg (by decide),if_neg (by decide),if_pos trivial]
 cases op <;> first | exact absurd rfl (hop _ _) | (simp only [OpW]; split <;> simp_all)
theorem qcc {n:Option Nat}{x:XO} : Run E W (.draw hs (⟨d,.ld n x,none,1⟩::r) ld wr::k) Q fr h=LdD E W n (x.ev fr) d hs r ld wr k Q fr h:=by
 simp only [Run,kw,WD,OpD]
 rw [if_pos trivial,qzi]
 cases hv:XO.ev fr x
 case ptr b o =>
  have e:jm (XO.ev fr) (.ld n x)=[b]:=by simp only [jm,hv]
  rw [e]
  simp only [LdD,List.all_cons,List.all_nil,Bool.and_true,decide_eq_true_eq,Bool.not_eq_true',List.cons_append,List.nil_append,and_assoc,yd,Put1D]
  cases xld h n (XV.ptr b o) <;> rfl
 all_goals
  have e:jm (XO.ev fr) (.ld n x)=[]:=by simp only [jm,hv]
  rw [e]
  simp only [LdD,List.all_nil,yd,true_and,List.nil_append,Put1D]
  generalize xld h n _=o
  cases o <;> rfl
end
end Go.Proofs.Ytjloihcijdcpeaa.X
