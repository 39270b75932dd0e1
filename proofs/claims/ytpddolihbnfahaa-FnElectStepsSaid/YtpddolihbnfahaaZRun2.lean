/- Running X's code by rewriting: the other operations; regions of open order. -/
import Derived.Test.YtpddolihbnfahaaZRun
set_option linter.unusedVariables false
set_option linter.unusedSimpArgs false
namespace Go.Proofs.Ytpddolihbnfahaa.X
open Go

def pst (W:Nat→Bool)(h:Heap)(n:Nat)(v0:XV)(v1:XV) : Option (XV × Heap):=zd W (XO.ev fun _ => .undef) h (.st n (.c v0) (.c v1))
def qbq (W:Nat→Bool)(h:Heap)(ty esz bytes:Nat)(v0:XV)(v1:XV) : Option (XV × Heap):=zd W (XO.ev fun _ => .undef) h (.app ty esz bytes (.c v0) (.c v1))
def qzl (W:Nat→Bool)(h:Heap)(ty:Nat)(zero:List XV)(v0:XV) : Option (XV × Heap):=zd W (XO.ev fun _ => .undef) h (.clr ty zero (.c v0))
def qqi (W:Nat→Bool)(h:Heap)(ty n:Nat)(v0:XV) : Option (XV × Heap):=zd W (XO.ev fun _ => .undef) h (.box ty n (.c v0))
def qnl (W:Nat→Bool)(h:Heap)(ty:Nat)(zero:List XV)  : Option (XV × Heap):=zd W (XO.ev fun _ => .undef) h (.new ty zero)
def qa4 (h:Heap)(ty esz:Nat)(x:XV)(lo hi mx:Option XV) : Option XV :=
 match yd lo,yd hi,yd mx with
 | some l,some e,some m=>xa h ty esz x l e m
 | _,_,_=>none
def qha (zero:List XV)(ps:List (Nat × Nat × XV)) : Option XV:=(fill zero ps).map .agg
def xp (h:Heap)(ty len:Nat)(zero:List XV)(ps:List (Nat × Nat × XV)) : Option (XV × Heap):=(fill zero ps).map fun cs=>(.row h.length 0 len len,h++[⟨cs,ty,true⟩])
def evp (fr:Fr)(p:Nat × Nat × XO) : Nat × Nat × XV:=(p.1,p.2.1,p.2.2.ev fr)

def Put1D (E:Env)(W:Nat→Bool)(o:Option XV)(d:Option Nat)(hs:Nat)(r:List XOper)(ld wr:List Nat)(k:List It)(Q:QE)(fr:Fr)(h:Heap) : Prop :=
 match o with
 | some v=>Run E W (.draw hs r ld wr::k) Q (fr.put d v) h
 | none=>False
def Put2D (E:Env)(W:Nat→Bool)(o:Option (XV × Heap))(d:Option Nat)(hs:Nat)(r:List XOper)(ld wr:List Nat)(k:List It)(Q:QE)(fr:Fr) : Prop :=
 match o with
 | some (v,h)=>Run E W (.draw hs r ld wr::k) Q (fr.put d v) h
 | none=>False
def LdD (E:Env)(W:Nat→Bool)(n:Option Nat)(v:XV)(d:Option Nat)(hs:Nat)(r:List XOper)(ld wr:List Nat)(k:List It)(Q:QE)(fr:Fr)(h:Heap) : Prop :=
 match v with
 | .ptr b o=>(b<hs∧wr.contains b=false)∧Put1D E W (xld h n (.ptr b o)) d hs r (b::ld) wr k Q fr h
 | v=>Put1D E W (xld h n v) d hs r ld wr k Q fr h
def GuardD (E:Env)(W:Nat→Bool)(v:XV)(want:Bool)(o:XOper)(hs:Nat)(r:List XOper)(ld wr:List Nat)(k:List It)(Q:QE)(fr:Fr)(h:Heap) : Prop :=
 match v with
 | .bool b=>if b=want then Run E W (.draw hs (o::r) ld wr::k) Q fr h else Run E W (.draw hs r ld wr::k) Q (fr.put o.dst (.tup [])) h
 | .tup _=>Run E W (.draw hs r ld wr::k) Q (fr.put o.dst (.tup [])) h
 | _=>False
def CallD (E:Env)(W:Nat→Bool)(f:XV)(args:List XV)(d:Option Nat)(hs:Nat)(r:List XOper)(ld wr:List Nat)(k:List It)(Q:QE)(fr:Fr)(h:Heap) : Prop :=
 CallW E W f args h (fun v h'=>Run E W (.draw hs r ld wr::k) Q (fr.put d v) h')
def CallQ (E:Env)(W:Nat→Bool)(f:XV)(args:List XV)(ms:List Nat)(d:Option Nat)(hs:Nat)(r:List XOper)(ld wr:List Nat)(k:List It)(Q:QE)(fr:Fr)(h:Heap) : Prop :=
 k8 ms ld=true∧CallW E (wd W hs ms) f args h (fun v h'=>Run E W (.draw hs r ld (ms++wr)::k) Q (fr.put d v) h')
def qft (E:Env)(f:XV)(args:List XV) : List Nat :=
 match f with
 | .fn g caps=>if E.mode g≠0 then [] else (args++caps).flatMap qfc
 | _=>[]
def QuietD (E:Env)(W:Nat→Bool)(o:(Nat→Bool)→Option (XV × Heap))(ms:List Nat)(d:Option Nat)(hs:Nat)(r:List XOper)(ld wr:List Nat)(k:List It)(Q:QE)(fr:Fr) : Prop :=
 k8 ms ld=true∧Put2D E W (o (wd W hs ms)) d hs r ld (ms++wr) k Q fr

section
variable {E:Env}{W:Nat→Bool}{k:List It}{Q:QE}{fr:Fr}{h:Heap}{r:List XOper}{d:Option Nat}{cl hs:Nat}{ld wr:List Nat}{kk:IntKind}

theorem zl {n:Nat}{x y:XO} : Run E W (.ops (⟨d,.st n x y,none,cl⟩::r)::k) Q fr h=Put2 E W (pst W h n (x.ev fr) (y.ev fr)) d r k Q fr:=by
 rw [run_pure (fun _ _ e=>by cases e)]; rfl
theorem wu {ty esz bytes:Nat}{x y:XO} : Run E W (.ops (⟨d,.app ty esz bytes x y,none,cl⟩::r)::k) Q fr h=Put2 E W (qbq W h ty esz bytes (x.ev fr) (y.ev fr)) d r k Q fr:=by
 rw [run_pure (fun _ _ e=>by cases e)]; rfl
theorem q75 {ty:Nat}{zero:List XV}{x:XO} : Run E W (.ops (⟨d,.clr ty zero x,none,cl⟩::r)::k) Q fr h=Put2 E W (qzl W h ty zero (x.ev fr)) d r k Q fr:=by
 rw [run_pure (fun _ _ e=>by cases e)]; rfl
theorem kc {ty n:Nat}{x:XO} : Run E W (.ops (⟨d,.box ty n x,none,cl⟩::r)::k) Q fr h=Put2 E W (qqi W h ty n (x.ev fr)) d r k Q fr:=by
 rw [run_pure (fun _ _ e=>by cases e)]; rfl
theorem jg {ty:Nat}{zero:List XV} : Run E W (.ops (⟨d,.new ty zero,none,cl⟩::r)::k) Q fr h=Put2 E W (qnl W h ty zero ) d r k Q fr:=by
 rw [run_pure (fun _ _ e=>by cases e)]; rfl
theorem qpp {f:Nat}{caps:List XO} : Run E W (.ops (⟨d,.mkF f caps,none,cl⟩::r)::k) Q fr h=Run E W (.ops r::k) Q (fr.put d (.fn f (caps.map (XO.ev fr)))) h:=(rfl)
theorem qg7 {ty esz:Nat}{x:XO}{lo hi mx:Option XO} : Run E W (.ops (⟨d,.slc ty esz x lo hi mx,none,cl⟩::r)::k) Q fr h=Put1 E W (qa4 h ty esz (x.ev fr) (lo.map (XO.ev fr)) (hi.map (XO.ev fr)) (mx.map (XO.ev fr))) d r k Q fr h:=by
 rw [run_pure (fun _ _ e=>by cases e)]
 refine qcu ?_
 simp only [zd,qa4]
 cases yd (lo.map (XO.ev fr)) <;> try rfl
 cases yd (hi.map (XO.ev fr)) <;> try rfl
 cases yd (mx.map (XO.ev fr)) <;> try rfl
 rename_i l e m
 dsimp only
 cases xa h ty esz (x.ev fr) l e m <;> rfl
theorem run_build {zero:List XV}{ps:List (Nat × Nat × XO)} : Run E W (.ops (⟨d,.build zero ps,none,cl⟩::r)::k) Q fr h=Put1 E W (qha zero (ps.map (evp fr))) d r k Q fr h:=by
 rw [run_pure (fun _ _ e=>by cases e)]
 refine qcu ?_
 simp only [zd,qha]
 have e:ps.map (fun p=>(p.1,p.2.1,XO.ev fr p.2.2))=ps.map (evp fr):=rfl
 rw [e]
 cases fill zero (ps.map (evp fr)) <;> rfl
theorem j8 {ty len:Nat}{zero:List XV}{ps:List (Nat × Nat × XO)} : Run E W (.ops (⟨d,.buildS ty len zero ps,none,cl⟩::r)::k) Q fr h=Put2 E W (xp h ty len zero (ps.map (evp fr))) d r k Q fr:=by
 rw [run_pure (fun _ _ e=>by cases e)]
 congr 1
 simp only [zd,xp]
 have e:ps.map (fun p=>(p.1,p.2.1,XO.ev fr p.2.2))=ps.map (evp fr):=rfl
 rw [e]
 cases fill zero (ps.map (evp fr)) <;> rfl
theorem zn:Run E W (.draw hs [] ld wr::k) Q fr h=Run E W k Q fr h:=(rfl)
theorem qr {v:XV} : Put1D E W (some v) d hs r ld wr k Q fr h=Run E W (.draw hs r ld wr::k) Q (fr.put d v) h:=(rfl)
theorem zc {op:XOp}{g:Nat}{want:Bool} : Run E W (.draw hs (⟨d,op,some (g,want),cl⟩::r) ld wr::k) Q fr h=GuardD E W (fr g) want ⟨d,op,none,cl⟩ hs r ld wr k Q fr h:=by
 show WD E W hs (⟨d,op,some (g,want),cl⟩::r) ld wr _ fr h=_
 simp only [WD,GuardD]
 cases fr g <;> rfl
theorem yj {o:XOper} : GuardD E W (.bool true) true o hs r ld wr k Q fr h=Run E W (.draw hs (o::r) ld wr::k) Q fr h:=by simp [GuardD]
theorem zu {o:XOper} : GuardD E W (.bool false) false o hs r ld wr k Q fr h=Run E W (.draw hs (o::r) ld wr::k) Q fr h:=by simp [GuardD]
theorem qfk {o:XOper} : GuardD E W (.bool false) true o hs r ld wr k Q fr h=Run E W (.draw hs r ld wr::k) Q (fr.put o.dst (.tup [])) h:=by simp [GuardD]
theorem xd {o:XOper} : GuardD E W (.bool true) false o hs r ld wr k Q fr h=Run E W (.draw hs r ld wr::k) Q (fr.put o.dst (.tup [])) h:=by simp [GuardD]
theorem qqv {o:XOper}{want:Bool}{vs:List XV} : GuardD E W (.tup vs) want o hs r ld wr k Q fr h=Run E W (.draw hs r ld wr::k) Q (fr.put o.dst (.tup [])) h:=(rfl)
theorem k7 {o:XOper}{t want:Bool}(h1:t=true→GuardD E W (.bool true) want o hs r ld wr k Q fr h)(h2:t=false→GuardD E W (.bool false) want o hs r ld wr k Q fr h) : GuardD E W (.bool t) want o hs r ld wr k Q fr h:=by
 cases t
 ·exact h2 rfl
 ·exact h1 rfl
theorem qay {op:XOp} : Run E W (.draw hs (⟨d,op,none,4⟩::r) ld wr::k) Q fr h=Put2D E W (zd (fun _=>false) (XO.ev fr) h op) d hs r ld wr k Q fr:=by
 simp only [Run,yi,WD,OpD,Put2D]
 rw [if_neg (by decide),if_pos trivial]
 cases zd (fun _=>false) (XO.ev fr) h op <;> rfl
theorem qen {op:XOp}(hf:ka (XO.ev fr) op=[]) : Run E W (.draw hs (⟨d,op,none,1⟩::r) ld wr::k) Q fr h=Put2D E W (zd (fun _=>false) (XO.ev fr) h op) d hs r ld wr k Q fr:=by
 simp only [Run,yi,WD,OpD,Put2D,hf]
 rw [if_pos trivial]
 simp only [List.all_nil,k8,true_and,List.nil_append]
 cases zd (fun _=>false) (XO.ev fr) h op <;> rfl
theorem yv {o:Option XV} : Put2D E W (o.map fun v=>(v,h)) d hs r ld wr k Q fr=Put1D E W o d hs r ld wr k Q fr h:=by
 cases o <;> rfl
theorem qvm {op:BinOp}{x y:XO} : zd W (XO.ev fr) h (.bin op x y)=(wz op (x.ev fr) (y.ev fr)).map fun v=>(v,h):=by
 simp only [zd]; cases wz op (x.ev fr) (y.ev fr) <;> rfl
theorem zbt {op:UnOp}{x:XO} : zd W (XO.ev fr) h (.un op x)=(xun op (x.ev fr)).map fun v=>(v,h):=by
 simp only [zd]; cases xun op (x.ev fr) <;> rfl
theorem q7h {n:Option Nat}{x:XO} : zd W (XO.ev fr) h (.ld n x)=(xld h n (x.ev fr)).map fun v=>(v,h):=by
 cases n with
 | none =>
  simp only [zd]
  cases x.ev fr <;> simp only [xld] <;> try rfl
  ·rename_i cs o
   cases cs[o]? <;> rfl
  ·rename_i b o
   cases qbb h b o <;> rfl
 | some n =>
  simp only [zd]
  cases x.ev fr <;> simp only [xld] <;> try rfl
  ·split <;> rfl
  ·rename_i b o
   cases kf h b o n <;> rfl
theorem q40 {off:Nat}{x:XO} : zd W (XO.ev fr) h (.fa off x)=(xfa off (x.ev fr)).map fun v=>(v,h):=by
 simp only [zd]; cases x.ev fr <;> rfl
theorem q3f {esz:Nat}{x i:XO} : zd W (XO.ev fr) h (.ia esz x i)=(xia esz (x.ev fr) (i.ev fr)).map fun v=>(v,h):=by
 simp only [zd]
 cases x.ev fr <;> cases i.ev fr <;> simp only [xia] <;> try rfl
 ·rename_i es kk n
  by_cases h0:0≤n
  ·rw [if_pos h0,if_pos h0]
   cases es[n.toNat]? with
   | none=>rfl
   | some cs =>
    dsimp only
    by_cases hc:cs.length=esz
    ·rw [if_pos hc,if_pos hc]; rfl
    ·rw [if_neg hc,if_neg hc]; rfl
  ·rw [if_neg h0,if_neg h0]; rfl
 ·split <;> rfl
theorem qu0 {x:XO} : zd W (XO.ev fr) h (.len x)=(qgw (x.ev fr)).map fun v=>(v,h):=by
 simp only [zd]; cases x.ev fr <;> rfl
theorem q74 {c x y:XO} : zd W (XO.ev fr) h (.pick c x y)=(qlm (c.ev fr) (x.ev fr) (y.ev fr)).map fun v=>(v,h):=by
 simp only [zd]
 cases c.ev fr <;> try rfl
 rename_i t
 cases t <;> rfl
theorem qwg {x:XO}{i:Nat} : zd W (XO.ev fr) h (.ext x i)=(qiz i (x.ev fr)).map fun v=>(v,h):=by
 simp only [zd]
 cases x.ev fr <;> try rfl
 rename_i vs
 simp only [qiz]
 cases vs[i]? <;> rfl
theorem qsy {x:XO} : zd W (XO.ev fr) h (.chk x)=(qnf (x.ev fr)).map fun v=>(v,h):=by
 simp only [zd]; cases x.ev fr <;> rfl
theorem q9p {n:Bool}{x y:XO} : zd W (XO.ev fr) h (.eqb n x y)=(qq4 n (x.ev fr) (y.ev fr)).map fun v=>(v,h):=by
 simp only [zd]
 cases x.ev fr <;> cases y.ev fr <;> rfl
theorem q8v {kk:IntKind}{x:XO} : zd W (XO.ev fr) h (.cvt kk x)=(qqj kk (x.ev fr)).map fun v=>(v,h):=by
 simp only [zd]; cases x.ev fr <;> rfl
theorem qwc {ty esz:Nat}{x:XO}{lo hi mx:Option XO} : zd W (XO.ev fr) h (.slc ty esz x lo hi mx)=(qa4 h ty esz (x.ev fr) (lo.map (XO.ev fr)) (hi.map (XO.ev fr)) (mx.map (XO.ev fr))).map fun v=>(v,h):=by
 simp only [zd,qa4]
 cases yd (lo.map (XO.ev fr)) <;> try rfl
 cases yd (hi.map (XO.ev fr)) <;> try rfl
 cases yd (mx.map (XO.ev fr)) <;> try rfl
 rename_i l e m
 dsimp only
 cases xa h ty esz (x.ev fr) l e m <;> rfl
theorem qzd {zero:List XV}{ps:List (Nat × Nat × XO)} : zd W (XO.ev fr) h (.build zero ps)=(qha zero (ps.map (evp fr))).map fun v=>(v,h):=by
 simp only [zd,qha]
 have e:ps.map (fun p=>(p.1,p.2.1,XO.ev fr p.2.2))=ps.map (evp fr):=rfl
 rw [e]
 cases fill zero (ps.map (evp fr)) <;> rfl
theorem q0u {x:XO} : zd W (XO.ev fr) h (.mv x)=(some (x.ev fr)).map fun v=>(v,h):=(rfl)
theorem q9t {op:BinOp}{x y:XO} : Run E W (.draw hs (⟨d,.bin op x y,none,1⟩::r) ld wr::k) Q fr h=Put1D E W (wz op (x.ev fr) (y.ev fr)) d hs r ld wr k Q fr h:=by
 rw [qen rfl,qvm,yv]
theorem uv {op:BinOp}{x y:XO} : Run E W (.draw hs (⟨d,.bin op x y,none,4⟩::r) ld wr::k) Q fr h=Put1D E W (wz op (x.ev fr) (y.ev fr)) d hs r ld wr k Q fr h:=by
 rw [qay,qvm,yv]
theorem qi6 {op:UnOp}{x:XO} : Run E W (.draw hs (⟨d,.un op x,none,4⟩::r) ld wr::k) Q fr h=Put1D E W (xun op (x.ev fr)) d hs r ld wr k Q fr h:=by
 rw [qay,zbt,yv]
theorem ja {n:Option Nat}{x:XO} : Run E W (.draw hs (⟨d,.ld n x,none,4⟩::r) ld wr::k) Q fr h=Put1D E W (xld h n (x.ev fr)) d hs r ld wr k Q fr h:=by
 rw [qay,q7h,yv]
theorem qbn {off:Nat}{x:XO} : Run E W (.draw hs (⟨d,.fa off x,none,1⟩::r) ld wr::k) Q fr h=Put1D E W (xfa off (x.ev fr)) d hs r ld wr k Q fr h:=by
 rw [qen rfl,q40,yv]
theorem jc {off:Nat}{x:XO} : Run E W (.draw hs (⟨d,.fa off x,none,4⟩::r) ld wr::k) Q fr h=Put1D E W (xfa off (x.ev fr)) d hs r ld wr k Q fr h:=by
 rw [qay,q40,yv]
theorem q2j {esz:Nat}{x i:XO} : Run E W (.draw hs (⟨d,.ia esz x i,none,1⟩::r) ld wr::k) Q fr h=Put1D E W (xia esz (x.ev fr) (i.ev fr)) d hs r ld wr k Q fr h:=by
 rw [qen rfl,q3f,yv]
theorem qee {esz:Nat}{x i:XO} : Run E W (.draw hs (⟨d,.ia esz x i,none,4⟩::r) ld wr::k) Q fr h=Put1D E W (xia esz (x.ev fr) (i.ev fr)) d hs r ld wr k Q fr h:=by
 rw [qay,q3f,yv]
theorem qk8 {x:XO} : Run E W (.draw hs (⟨d,.len x,none,1⟩::r) ld wr::k) Q fr h=Put1D E W (qgw (x.ev fr)) d hs r ld wr k Q fr h:=by
 rw [qen rfl,qu0,yv]
theorem qhl {x:XO} : Run E W (.draw hs (⟨d,.len x,none,4⟩::r) ld wr::k) Q fr h=Put1D E W (qgw (x.ev fr)) d hs r ld wr k Q fr h:=by
 rw [qay,qu0,yv]
theorem kr {c x y:XO} : Run E W (.draw hs (⟨d,.pick c x y,none,4⟩::r) ld wr::k) Q fr h=Put1D E W (qlm (c.ev fr) (x.ev fr) (y.ev fr)) d hs r ld wr k Q fr h:=by
 rw [qay,q74,yv]
theorem quw {x:XO}{i:Nat} : Run E W (.draw hs (⟨d,.ext x i,none,1⟩::r) ld wr::k) Q fr h=Put1D E W (qiz i (x.ev fr)) d hs r ld wr k Q fr h:=by
 rw [qen rfl,qwg,yv]
theorem qnv {x:XO}{i:Nat} : Run E W (.draw hs (⟨d,.ext x i,none,4⟩::r) ld wr::k) Q fr h=Put1D E W (qiz i (x.ev fr)) d hs r ld wr k Q fr h:=by
 rw [qay,qwg,yv]
theorem qoo {x:XO} : Run E W (.draw hs (⟨d,.chk x,none,1⟩::r) ld wr::k) Q fr h=Put1D E W (qnf (x.ev fr)) d hs r ld wr k Q fr h:=by
 rw [qen rfl,qsy,yv]
theorem ku {x:XO} : Run E W (.draw hs (⟨d,.chk x,none,4⟩::r) ld wr::k) Q fr h=Put1D E W (qnf (x.ev fr)) d hs r ld wr k Q fr h:=by
 rw [qay,qsy,yv]
theorem qwh {n:Bool}{x y:XO} : Run E W (.draw hs (⟨d,.eqb n x y,none,4⟩::r) ld wr::k) Q fr h=Put1D E W (qq4 n (x.ev fr) (y.ev fr)) d hs r ld wr k Q fr h:=by
 rw [qay,q9p,yv]
theorem q98 {kk:IntKind}{x:XO} : Run E W (.draw hs (⟨d,.cvt kk x,none,4⟩::r) ld wr::k) Q fr h=Put1D E W (qqj kk (x.ev fr)) d hs r ld wr k Q fr h:=by
 rw [qay,q8v,yv]
theorem q9w {ty esz:Nat}{x:XO}{lo hi mx:Option XO} : Run E W (.draw hs (⟨d,.slc ty esz x lo hi mx,none,1⟩::r) ld wr::k) Q fr h=Put1D E W (qa4 h ty esz (x.ev fr) (lo.map (XO.ev fr)) (hi.map (XO.ev fr)) (mx.map (XO.ev fr))) d hs r ld wr k Q fr h:=by
 rw [qen rfl,qwc,yv]
theorem qn0 {ty esz:Nat}{x:XO}{lo hi mx:Option XO} : Run E W (.draw hs (⟨d,.slc ty esz x lo hi mx,none,4⟩::r) ld wr::k) Q fr h=Put1D E W (qa4 h ty esz (x.ev fr) (lo.map (XO.ev fr)) (hi.map (XO.ev fr)) (mx.map (XO.ev fr))) d hs r ld wr k Q fr h:=by
 rw [qay,qwc,yv]
theorem qci {zero:List XV}{ps:List (Nat × Nat × XO)} : Run E W (.draw hs (⟨d,.build zero ps,none,4⟩::r) ld wr::k) Q fr h=Put1D E W (qha zero (ps.map (evp fr))) d hs r ld wr k Q fr h:=by
 rw [qay,qzd,yv]
theorem qfb {x:XO} : Run E W (.draw hs (⟨d,.mv x,none,1⟩::r) ld wr::k) Q fr h=Put1D E W (some (x.ev fr)) d hs r ld wr k Q fr h:=by
 rw [qen rfl,q0u,yv]
theorem jf {x:XO} : Run E W (.draw hs (⟨d,.mv x,none,4⟩::r) ld wr::k) Q fr h=Put1D E W (some (x.ev fr)) d hs r ld wr k Q fr h:=by
 rw [qay,q0u,yv]
theorem yf {f:XO}{args:List XO} : Run E W (.draw hs (⟨d,.call f args,none,3⟩::r) ld wr::k) Q fr h=CallD E W (f.ev fr) (args.map (XO.ev fr)) d hs r ld wr k Q fr h:=by
 simp only [Run,yi,WD,OpD,CallD]
 rw [if_neg (by decide),if_neg (by decide),if_neg (by decide),if_pos trivial]
 rfl
theorem ua {f:XO}{args:List XO} : Run E W (.draw hs (⟨d,.call f args,none,2⟩::r) ld wr::k) Q fr h=CallQ E W (f.ev fr) (args.map (XO.ev fr)) (qft E (f.ev fr) (args.map (XO.ev fr))) d hs r ld wr k Q fr h:=by
 simp only [Run,yi,WD,OpD,CallQ]
 rw [if_neg (by decide),if_neg (by decide),if_pos trivial]
 rfl
theorem qw2 {op:XOp}(hop:∀ f args,op ≠ .call f args) : Run E W (.draw hs (⟨d,op,none,3⟩::r) ld wr::k) Q fr h=Put2D E W (zd W (XO.ev fr) h op) d hs r ld wr k Q fr:=by
 simp only [Run,yi,WD,OpD,Put2D]
 rw [if_neg (by decide),if_neg (by decide),if_neg (by decide),if_pos trivial]
 cases op <;> first | exact absurd rfl (hop _ _) | (simp only [OpW]; split <;> simp_all)
theorem ue {n:Option Nat}{x:XO} : Run E W (.draw hs (⟨d,.ld n x,none,1⟩::r) ld wr::k) Q fr h=LdD E W n (x.ev fr) d hs r ld wr k Q fr h:=by
 simp only [Run,yi,WD,OpD]
 rw [if_pos trivial,q7h]
 cases hv:XO.ev fr x
 case ptr b o =>
  have e:ka (XO.ev fr) (.ld n x)=[b]:=by simp only [ka,hv]
  rw [e]
  simp only [LdD,List.all_cons,List.all_nil,Bool.and_true,decide_eq_true_eq,Bool.not_eq_true',List.cons_append,List.nil_append,and_assoc,k8,Put1D]
  cases xld h n (XV.ptr b o) <;> rfl
 all_goals
  have e:ka (XO.ev fr) (.ld n x)=[]:=by simp only [ka,hv]
  rw [e]
  simp only [LdD,List.all_nil,k8,true_and,List.nil_append,Put1D]
  generalize xld h n _=o
  cases o <;> rfl
end
end Go.Proofs.Ytpddolihbnfahaa.X
