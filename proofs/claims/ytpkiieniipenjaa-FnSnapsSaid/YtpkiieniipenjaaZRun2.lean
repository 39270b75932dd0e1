/- Running X's code by rewriting: the other operations; regions of open order. -/
import Derived.Test.YtpkiieniipenjaaZRun
set_option linter.unusedVariables false
set_option linter.unusedSimpArgs false
namespace Go.Proofs.Ytpkiieniipenjaa.X
open Go

def pst (W:Nat→Bool)(h:Heap)(n:Nat)(v0:XV)(v1:XV) : Option (XV × Heap):=qy W (XO.ev fun _ => .undef) h (.st n (.c v0) (.c v1))
def qb0 (W:Nat→Bool)(h:Heap)(ty esz bytes:Nat)(v0:XV)(v1:XV) : Option (XV × Heap):=qy W (XO.ev fun _ => .undef) h (.app ty esz bytes (.c v0) (.c v1))
def qpw (W:Nat→Bool)(h:Heap)(ty n:Nat)(v0:XV) : Option (XV × Heap):=qy W (XO.ev fun _ => .undef) h (.box ty n (.c v0))
def qne (W:Nat→Bool)(h:Heap)(ty:Nat)(zero:List XV)  : Option (XV × Heap):=qy W (XO.ev fun _ => .undef) h (.new ty zero)
def qlm (W:Nat→Bool)(h:Heap)(ty esz bytes:Nat)(zero:List XV)(v0:XV)(v1:XV) : Option (XV × Heap):=qy W (XO.ev fun _ => .undef) h (.mkS ty esz bytes zero (.c v0) (.c v1))
def qcb (h:Heap)(ty esz:Nat)(x:XV)(lo hi mx:Option XV) : Option XV :=
 match wb lo,wb hi,wb mx with
 | some l,some e,some m=>uy h ty esz x l e m
 | _,_,_=>none
def qgq (zero:List XV)(ps:List (Nat × Nat × XV)) : Option XV:=(fill zero ps).map .agg
def qbw (h:Heap)(ty len:Nat)(zero:List XV)(ps:List (Nat × Nat × XV)) : Option (XV × Heap):=(fill zero ps).map fun cs=>(.row h.length 0 len len,h++[⟨cs,ty,true⟩])
def qna (mx:Bool) : List XV→Option XV
 | .int k a::r=>qgf mx a k r
 | _=>none
def evp (fr:Fr)(p:Nat × Nat × XO) : Nat × Nat × XV:=(p.1,p.2.1,p.2.2.ev fr)

def Put1D (E:Env)(W:Nat→Bool)(o:Option XV)(d:Option Nat)(hs:Nat)(r:List XOper)(ld wr:List Nat)(k:List It)(Q:QE)(fr:Fr)(h:Heap) : Prop :=
 match o with
 | some v=>Run E W (.draw hs r ld wr::k) Q (fr.put d v) h
 | none=>False
def Put2D (E:Env)(W:Nat→Bool)(o:Option (XV × Heap))(d:Option Nat)(hs:Nat)(r:List XOper)(ld wr:List Nat)(k:List It)(Q:QE)(fr:Fr) : Prop :=
 match o with
 | some (v,h)=>Run E W (.draw hs r ld wr::k) Q (fr.put d v) h
 | none=>False
def LdD (E:Env)(W:Nat→Bool)(n:Option Nat)(v:XV)(d:Option Nat)(hs:Nat)(r:List XOper)(ld wr:List Nat)(k:List It)(Q:QE)(fr:Fr)(h:Heap) : Prop :=
 match v with
 | .ptr b o=>(b<hs∧wr.contains b=false)∧Put1D E W (xld h n (.ptr b o)) d hs r (b::ld) wr k Q fr h
 | v=>Put1D E W (xld h n v) d hs r ld wr k Q fr h
def GuardD (E:Env)(W:Nat→Bool)(v:XV)(want:Bool)(o:XOper)(hs:Nat)(r:List XOper)(ld wr:List Nat)(k:List It)(Q:QE)(fr:Fr)(h:Heap) : Prop :=
 match v with
 | .bool b=>if b=want then Run E W (.draw hs (o::r) ld wr::k) Q fr h else Run E W (.draw hs r ld wr::k) Q (fr.put o.dst (.tup [])) h
 | .tup _=>Run E W (.draw hs r ld wr::k) Q (fr.put o.dst (.tup [])) h
 | _=>False
def CallD (E:Env)(W:Nat→Bool)(f:XV)(args:List XV)(d:Option Nat)(hs:Nat)(r:List XOper)(ld wr:List Nat)(k:List It)(Q:QE)(fr:Fr)(h:Heap) : Prop :=
 CallW E W f args h (fun v h'=>Run E W (.draw hs r ld wr::k) Q (fr.put d v) h')
def CallQ (E:Env)(W:Nat→Bool)(f:XV)(args:List XV)(ms:List Nat)(d:Option Nat)(hs:Nat)(r:List XOper)(ld wr:List Nat)(k:List It)(Q:QE)(fr:Fr)(h:Heap) : Prop :=
 yi ms ld=true∧CallW E (qbu W hs ms) f args h (fun v h'=>Run E W (.draw hs r ld (ms++wr)::k) Q (fr.put d v) h')
def qiy (E:Env)(f:XV)(args:List XV) : List Nat :=
 match f with
 | .fn g caps=>if E.mode g≠0 then [] else (args++caps).flatMap qk1
 | _=>[]
def QuietD (E:Env)(W:Nat→Bool)(o:(Nat→Bool)→Option (XV × Heap))(ms:List Nat)(d:Option Nat)(hs:Nat)(r:List XOper)(ld wr:List Nat)(k:List It)(Q:QE)(fr:Fr) : Prop :=
 yi ms ld=true∧Put2D E W (o (qbu W hs ms)) d hs r ld (ms++wr) k Q fr

section
variable {E:Env}{W:Nat→Bool}{k:List It}{Q:QE}{fr:Fr}{h:Heap}{r:List XOper}{d:Option Nat}{cl hs:Nat}{ld wr:List Nat}{kk:IntKind}

theorem zj {n:Nat}{x y:XO} : Run E W (.ops (⟨d,.st n x y,none,cl⟩::r)::k) Q fr h=Put2 E W (pst W h n (x.ev fr) (y.ev fr)) d r k Q fr:=by
 rw [run_pure (fun _ _ e=>by cases e)]; rfl
theorem xh {ty esz bytes:Nat}{x y:XO} : Run E W (.ops (⟨d,.app ty esz bytes x y,none,cl⟩::r)::k) Q fr h=Put2 E W (qb0 W h ty esz bytes (x.ev fr) (y.ev fr)) d r k Q fr:=by
 rw [run_pure (fun _ _ e=>by cases e)]; rfl
theorem kh {ty n:Nat}{x:XO} : Run E W (.ops (⟨d,.box ty n x,none,cl⟩::r)::k) Q fr h=Put2 E W (qpw W h ty n (x.ev fr)) d r k Q fr:=by
 rw [run_pure (fun _ _ e=>by cases e)]; rfl
theorem jb {ty:Nat}{zero:List XV} : Run E W (.ops (⟨d,.new ty zero,none,cl⟩::r)::k) Q fr h=Put2 E W (qne W h ty zero ) d r k Q fr:=by
 rw [run_pure (fun _ _ e=>by cases e)]; rfl
theorem qlo {ty esz:Nat}{x:XO}{lo hi mx:Option XO} : Run E W (.ops (⟨d,.slc ty esz x lo hi mx,none,cl⟩::r)::k) Q fr h=Put1 E W (qcb h ty esz (x.ev fr) (lo.map (XO.ev fr)) (hi.map (XO.ev fr)) (mx.map (XO.ev fr))) d r k Q fr h:=by
 rw [run_pure (fun _ _ e=>by cases e)]
 refine qa5 ?_
 simp only [qy,qcb]
 cases wb (lo.map (XO.ev fr)) <;> try rfl
 cases wb (hi.map (XO.ev fr)) <;> try rfl
 cases wb (mx.map (XO.ev fr)) <;> try rfl
 rename_i l e m
 dsimp only
 cases uy h ty esz (x.ev fr) l e m <;> rfl
theorem run_build {zero:List XV}{ps:List (Nat × Nat × XO)} : Run E W (.ops (⟨d,.build zero ps,none,cl⟩::r)::k) Q fr h=Put1 E W (qgq zero (ps.map (evp fr))) d r k Q fr h:=by
 rw [run_pure (fun _ _ e=>by cases e)]
 refine qa5 ?_
 simp only [qy,qgq]
 have e:ps.map (fun p=>(p.1,p.2.1,XO.ev fr p.2.2))=ps.map (evp fr):=rfl
 rw [e]
 cases fill zero (ps.map (evp fr)) <;> rfl
theorem kx {ty len:Nat}{zero:List XV}{ps:List (Nat × Nat × XO)} : Run E W (.ops (⟨d,.buildS ty len zero ps,none,cl⟩::r)::k) Q fr h=Put2 E W (qbw h ty len zero (ps.map (evp fr))) d r k Q fr:=by
 rw [run_pure (fun _ _ e=>by cases e)]
 congr 1
 simp only [qy,qbw]
 have e:ps.map (fun p=>(p.1,p.2.1,XO.ev fr p.2.2))=ps.map (evp fr):=rfl
 rw [e]
 cases fill zero (ps.map (evp fr)) <;> rfl
theorem q6s {mx:Bool}{xs:List XO} : Run E W (.ops (⟨d,.mnx mx xs,none,cl⟩::r)::k) Q fr h=Put1 E W (qna mx (xs.map (XO.ev fr))) d r k Q fr h:=by
 rw [run_pure (fun _ _ e=>by cases e)]
 refine qa5 ?_
 simp only [qy]
 cases xs.map (XO.ev fr) with
 | nil=>rfl
 | cons v vs =>
  cases v <;> try rfl
  rename_i k0 a0
  simp only [qna]
  cases qgf mx a0 k0 vs <;> rfl

theorem qs:Run E W (.draw hs [] ld wr::k) Q fr h=Run E W k Q fr h:=(rfl)
theorem qf {v:XV} : Put1D E W (some v) d hs r ld wr k Q fr h=Run E W (.draw hs r ld wr::k) Q (fr.put d v) h:=(rfl)
theorem qn {op:XOp}{g:Nat}{want:Bool} : Run E W (.draw hs (⟨d,op,some (g,want),cl⟩::r) ld wr::k) Q fr h=GuardD E W (fr g) want ⟨d,op,none,cl⟩ hs r ld wr k Q fr h:=by
 show WD E W hs (⟨d,op,some (g,want),cl⟩::r) ld wr _ fr h=_
 simp only [WD,GuardD]
 cases fr g <;> rfl
theorem z9 {o:XOper} : GuardD E W (.bool true) true o hs r ld wr k Q fr h=Run E W (.draw hs (o::r) ld wr::k) Q fr h:=by simp [GuardD]
theorem q8 {o:XOper} : GuardD E W (.bool false) false o hs r ld wr k Q fr h=Run E W (.draw hs (o::r) ld wr::k) Q fr h:=by simp [GuardD]
theorem ud {o:XOper} : GuardD E W (.bool false) true o hs r ld wr k Q fr h=Run E W (.draw hs r ld wr::k) Q (fr.put o.dst (.tup [])) h:=by simp [GuardD]
theorem kr {o:XOper} : GuardD E W (.bool true) false o hs r ld wr k Q fr h=Run E W (.draw hs r ld wr::k) Q (fr.put o.dst (.tup [])) h:=by simp [GuardD]
theorem qc7 {o:XOper}{want:Bool}{vs:List XV} : GuardD E W (.tup vs) want o hs r ld wr k Q fr h=Run E W (.draw hs r ld wr::k) Q (fr.put o.dst (.tup [])) h:=(rfl)
theorem jf {o:XOper}{t want:Bool}(h1:t=true→GuardD E W (.bool true) want o hs r ld wr k Q fr h)(h2:t=false→GuardD E W (.bool false) want o hs r ld wr k Q fr h) : GuardD E W (.bool t) want o hs r ld wr k Q fr h:=by
 cases t
 ·exact h2 rfl
 ·exact h1 rfl
theorem u2 {op:XOp} : Run E W (.draw hs (⟨d,op,none,4⟩::r) ld wr::k) Q fr h=Put2D E W (qy (fun _=>false) (XO.ev fr) h op) d hs r ld wr k Q fr:=by
 simp only [Run,yo,WD,OpD,Put2D]
 rw [if_neg (by decide),if_pos trivial]
 cases qy (fun _=>false) (XO.ev fr) h op <;> rfl
theorem qhu {op:XOp}(hf:j8 (XO.ev fr) op=[]) : Run E W (.draw hs (⟨d,op,none,1⟩::r) ld wr::k) Q fr h=Put2D E W (qy (fun _=>false) (XO.ev fr) h op) d hs r ld wr k Q fr:=by
 simp only [Run,yo,WD,OpD,Put2D,hf]
 rw [if_pos trivial]
 simp only [List.all_nil,yi,true_and,List.nil_append]
 cases qy (fun _=>false) (XO.ev fr) h op <;> rfl
theorem wy {o:Option XV} : Put2D E W (o.map fun v=>(v,h)) d hs r ld wr k Q fr=Put1D E W o d hs r ld wr k Q fr h:=by
 cases o <;> rfl
theorem q69 {op:BinOp}{x y:XO} : qy W (XO.ev fr) h (.bin op x y)=(xl op (x.ev fr) (y.ev fr)).map fun v=>(v,h):=by
 simp only [qy]; cases xl op (x.ev fr) (y.ev fr) <;> rfl
theorem q83 {op:UnOp}{x:XO} : qy W (XO.ev fr) h (.un op x)=(xun op (x.ev fr)).map fun v=>(v,h):=by
 simp only [qy]; cases xun op (x.ev fr) <;> rfl
theorem q1y {n:Option Nat}{x:XO} : qy W (XO.ev fr) h (.ld n x)=(xld h n (x.ev fr)).map fun v=>(v,h):=by
 cases n with
 | none =>
  simp only [qy]
  cases x.ev fr <;> simp only [xld] <;> try rfl
  ·rename_i cs o
   cases cs[o]? <;> rfl
  ·rename_i b o
   cases qae h b o <;> rfl
 | some n =>
  simp only [qy]
  cases x.ev fr <;> simp only [xld] <;> try rfl
  ·split <;> rfl
  ·rename_i b o
   cases k7 h b o n <;> rfl
theorem q12 {off:Nat}{x:XO} : qy W (XO.ev fr) h (.fa off x)=(xfa off (x.ev fr)).map fun v=>(v,h):=by
 simp only [qy]; cases x.ev fr <;> rfl
theorem q2p {esz:Nat}{x i:XO} : qy W (XO.ev fr) h (.ia esz x i)=(xia esz (x.ev fr) (i.ev fr)).map fun v=>(v,h):=by
 simp only [qy]
 cases x.ev fr <;> cases i.ev fr <;> simp only [xia] <;> try rfl
 ·rename_i es kk n
  by_cases h0:0≤n
  ·rw [if_pos h0,if_pos h0]
   cases es[n.toNat]? with
   | none=>rfl
   | some cs =>
    dsimp only
    by_cases hc:cs.length=esz
    ·rw [if_pos hc,if_pos hc]; rfl
    ·rw [if_neg hc,if_neg hc]; rfl
  ·rw [if_neg h0,if_neg h0]; rfl
 ·split <;> rfl
theorem q70 {x:XO} : qy W (XO.ev fr) h (.len x)=(qhr (x.ev fr)).map fun v=>(v,h):=by
 simp only [qy]; cases x.ev fr <;> rfl
theorem q6b {c x y:XO} : qy W (XO.ev fr) h (.pick c x y)=(qkl (c.ev fr) (x.ev fr) (y.ev fr)).map fun v=>(v,h):=by
 simp only [qy]
 cases c.ev fr <;> try rfl
 rename_i t
 cases t <;> rfl
theorem qtn {x:XO}{i:Nat} : qy W (XO.ev fr) h (.ext x i)=(qh9 i (x.ev fr)).map fun v=>(v,h):=by
 simp only [qy]
 cases x.ev fr <;> try rfl
 rename_i vs
 simp only [qh9]
 cases vs[i]? <;> rfl
theorem qrh {x:XO} : qy W (XO.ev fr) h (.chk x)=(qm5 (x.ev fr)).map fun v=>(v,h):=by
 simp only [qy]; cases x.ev fr <;> rfl
theorem q78 {n:Bool}{x y:XO} : qy W (XO.ev fr) h (.eqb n x y)=(qm8 n (x.ev fr) (y.ev fr)).map fun v=>(v,h):=by
 simp only [qy]
 cases x.ev fr <;> cases y.ev fr <;> rfl
theorem q8p {kk:IntKind}{x:XO} : qy W (XO.ev fr) h (.cvt kk x)=(qp6 kk (x.ev fr)).map fun v=>(v,h):=by
 simp only [qy]; cases x.ev fr <;> rfl
theorem q7r {ty esz:Nat}{x:XO}{lo hi mx:Option XO} : qy W (XO.ev fr) h (.slc ty esz x lo hi mx)=(qcb h ty esz (x.ev fr) (lo.map (XO.ev fr)) (hi.map (XO.ev fr)) (mx.map (XO.ev fr))).map fun v=>(v,h):=by
 simp only [qy,qcb]
 cases wb (lo.map (XO.ev fr)) <;> try rfl
 cases wb (hi.map (XO.ev fr)) <;> try rfl
 cases wb (mx.map (XO.ev fr)) <;> try rfl
 rename_i l e m
 dsimp only
 cases uy h ty esz (x.ev fr) l e m <;> rfl
theorem qwm {zero:List XV}{ps:List (Nat × Nat × XO)} : qy W (XO.ev fr) h (.build zero ps)=(qgq zero (ps.map (evp fr))).map fun v=>(v,h):=by
 simp only [qy,qgq]
 have e:ps.map (fun p=>(p.1,p.2.1,XO.ev fr p.2.2))=ps.map (evp fr):=rfl
 rw [e]
 cases fill zero (ps.map (evp fr)) <;> rfl
theorem q4d {x:XO} : qy W (XO.ev fr) h (.mv x)=(some (x.ev fr)).map fun v=>(v,h):=(rfl)
theorem kn {op:BinOp}{x y:XO} : Run E W (.draw hs (⟨d,.bin op x y,none,4⟩::r) ld wr::k) Q fr h=Put1D E W (xl op (x.ev fr) (y.ev fr)) d hs r ld wr k Q fr h:=by
 rw [u2,q69,wy]
theorem qdv {op:UnOp}{x:XO} : Run E W (.draw hs (⟨d,.un op x,none,4⟩::r) ld wr::k) Q fr h=Put1D E W (xun op (x.ev fr)) d hs r ld wr k Q fr h:=by
 rw [u2,q83,wy]
theorem ze {n:Option Nat}{x:XO} : Run E W (.draw hs (⟨d,.ld n x,none,4⟩::r) ld wr::k) Q fr h=Put1D E W (xld h n (x.ev fr)) d hs r ld wr k Q fr h:=by
 rw [u2,q1y,wy]
theorem qdw {off:Nat}{x:XO} : Run E W (.draw hs (⟨d,.fa off x,none,1⟩::r) ld wr::k) Q fr h=Put1D E W (xfa off (x.ev fr)) d hs r ld wr k Q fr h:=by
 rw [qhu rfl,q12,wy]
theorem zi {off:Nat}{x:XO} : Run E W (.draw hs (⟨d,.fa off x,none,4⟩::r) ld wr::k) Q fr h=Put1D E W (xfa off (x.ev fr)) d hs r ld wr k Q fr h:=by
 rw [u2,q12,wy]
theorem q9t {esz:Nat}{x i:XO} : Run E W (.draw hs (⟨d,.ia esz x i,none,1⟩::r) ld wr::k) Q fr h=Put1D E W (xia esz (x.ev fr) (i.ev fr)) d hs r ld wr k Q fr h:=by
 rw [qhu rfl,q2p,wy]
theorem jo {esz:Nat}{x i:XO} : Run E W (.draw hs (⟨d,.ia esz x i,none,4⟩::r) ld wr::k) Q fr h=Put1D E W (xia esz (x.ev fr) (i.ev fr)) d hs r ld wr k Q fr h:=by
 rw [u2,q2p,wy]
theorem qch {x:XO} : Run E W (.draw hs (⟨d,.len x,none,4⟩::r) ld wr::k) Q fr h=Put1D E W (qhr (x.ev fr)) d hs r ld wr k Q fr h:=by
 rw [u2,q70,wy]
theorem z8 {c x y:XO} : Run E W (.draw hs (⟨d,.pick c x y,none,4⟩::r) ld wr::k) Q fr h=Put1D E W (qkl (c.ev fr) (x.ev fr) (y.ev fr)) d hs r ld wr k Q fr h:=by
 rw [u2,q6b,wy]
theorem quj {x:XO}{i:Nat} : Run E W (.draw hs (⟨d,.ext x i,none,1⟩::r) ld wr::k) Q fr h=Put1D E W (qh9 i (x.ev fr)) d hs r ld wr k Q fr h:=by
 rw [qhu rfl,qtn,wy]
theorem qrv {x:XO}{i:Nat} : Run E W (.draw hs (⟨d,.ext x i,none,4⟩::r) ld wr::k) Q fr h=Put1D E W (qh9 i (x.ev fr)) d hs r ld wr k Q fr h:=by
 rw [u2,qtn,wy]
theorem q8b {x:XO} : Run E W (.draw hs (⟨d,.chk x,none,1⟩::r) ld wr::k) Q fr h=Put1D E W (qm5 (x.ev fr)) d hs r ld wr k Q fr h:=by
 rw [qhu rfl,qrh,wy]
theorem ka {x:XO} : Run E W (.draw hs (⟨d,.chk x,none,4⟩::r) ld wr::k) Q fr h=Put1D E W (qm5 (x.ev fr)) d hs r ld wr k Q fr h:=by
 rw [u2,qrh,wy]
theorem qk4 {n:Bool}{x y:XO} : Run E W (.draw hs (⟨d,.eqb n x y,none,4⟩::r) ld wr::k) Q fr h=Put1D E W (qm8 n (x.ev fr) (y.ev fr)) d hs r ld wr k Q fr h:=by
 rw [u2,q78,wy]
theorem q7q {kk:IntKind}{x:XO} : Run E W (.draw hs (⟨d,.cvt kk x,none,4⟩::r) ld wr::k) Q fr h=Put1D E W (qp6 kk (x.ev fr)) d hs r ld wr k Q fr h:=by
 rw [u2,q8p,wy]
theorem q6x {ty esz:Nat}{x:XO}{lo hi mx:Option XO} : Run E W (.draw hs (⟨d,.slc ty esz x lo hi mx,none,4⟩::r) ld wr::k) Q fr h=Put1D E W (qcb h ty esz (x.ev fr) (lo.map (XO.ev fr)) (hi.map (XO.ev fr)) (mx.map (XO.ev fr))) d hs r ld wr k Q fr h:=by
 rw [u2,q7r,wy]
theorem qic {zero:List XV}{ps:List (Nat × Nat × XO)} : Run E W (.draw hs (⟨d,.build zero ps,none,4⟩::r) ld wr::k) Q fr h=Put1D E W (qgq zero (ps.map (evp fr))) d hs r ld wr k Q fr h:=by
 rw [u2,qwm,wy]
theorem qhm {x:XO} : Run E W (.draw hs (⟨d,.mv x,none,1⟩::r) ld wr::k) Q fr h=Put1D E W (some (x.ev fr)) d hs r ld wr k Q fr h:=by
 rw [qhu rfl,q4d,wy]
theorem zr {x:XO} : Run E W (.draw hs (⟨d,.mv x,none,4⟩::r) ld wr::k) Q fr h=Put1D E W (some (x.ev fr)) d hs r ld wr k Q fr h:=by
 rw [u2,q4d,wy]
theorem wu {f:XO}{args:List XO} : Run E W (.draw hs (⟨d,.call f args,none,3⟩::r) ld wr::k) Q fr h=CallD E W (f.ev fr) (args.map (XO.ev fr)) d hs r ld wr k Q fr h:=by
 simp only [Run,yo,WD,OpD,CallD]
 rw [if_neg (by decide),if_neg (by decide),if_neg (by decide),if_pos trivial]
 rfl
theorem qdn {f:XO}{args:List XO} : Run E W (.draw hs (⟨d,.call f args,none,2⟩::r) ld wr::k) Q fr h=CallQ E W (f.ev fr) (args.map (XO.ev fr)) (qiy E (f.ev fr) (args.map (XO.ev fr))) d hs r ld wr k Q fr h:=by
 simp only [Run,yo,WD,OpD,CallQ]
 rw [if_neg (by decide),if_neg (by decide),if_pos trivial]
 rfl
theorem qty {op:XOp}(hop:∀ f args,op ≠ .call f args) : Run E W (.draw hs (⟨d,op,none,3⟩::r) ld wr::k) Q fr h=Put2D E W (qy W (XO.ev fr) h op) d hs r ld wr k Q fr:=by
 simp only [Run,yo,WD,OpD,Put2D]
 rw [if_neg (by decide),if_neg (by decide),if_neg (by decide),if_pos trivial]
 cases op <;> first | exact absurd rfl (hop _ _) | (simp only [OpW]; split <;> simp_all)
theorem qbl {n:Option Nat}{x:XO} : Run E W (.draw hs (⟨d,.ld n x,none,1⟩::r) ld wr::k) Q fr h=LdD E W n (x.ev fr) d hs r ld wr k Q fr h:=by
 simp only [Run,yo,WD,OpD]
 rw [if_pos trivial,q1y]
 cases hv:XO.ev fr x
 case ptr b o =>
  have e:j8 (XO.ev fr) (.ld n x)=[b]:=by simp only [j8,hv]
  rw [e]
  simp only [LdD,List.all_cons,List.all_nil,Bool.and_true,decide_eq_true_eq,Bool.not_eq_true',List.cons_append,List.nil_append,and_assoc,yi,Put1D]
  cases xld h n (XV.ptr b o) <;> rfl
 all_goals
  have e:j8 (XO.ev fr) (.ld n x)=[]:=by simp only [j8,hv]
  rw [e]
  simp only [LdD,List.all_nil,yi,true_and,List.nil_append,Put1D]
  generalize xld h n _=o
  cases o <;> rfl
end
end Go.Proofs.Ytpkiieniipenjaa.X
