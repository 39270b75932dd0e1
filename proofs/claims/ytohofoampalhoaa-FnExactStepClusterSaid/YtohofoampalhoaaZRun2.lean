/- Running X's code by rewriting: the other operations; regions of open order. -/
import Derived.Test.YtohofoampalhoaaZRun
open List renaming nil_append→r7
set_option linter.unusedVariables false
set_option linter.unusedSimpArgs false
namespace Go.Proofs.Ytohofoampalhoaa.X
open Go

def pst (W:Nat→Bool)(h:Heap)(n:Nat)(v0:XV)(v1:XV) : Option (XV × Heap):=zf W (XO.ev fun _ => .undef) h (.st n (.c v0) (.c v1))
def qaw (W:Nat→Bool)(h:Heap)(ty esz bytes:Nat)(v0:XV)(v1:XV) : Option (XV × Heap):=zf W (XO.ev fun _ => .undef) h (.app ty esz bytes (.c v0) (.c v1))
def qxm (W:Nat→Bool)(h:Heap)(ty:Nat)(zero:List XV)(v0:XV) : Option (XV × Heap):=zf W (XO.ev fun _ => .undef) h (.clr ty zero (.c v0))
def qsg (W:Nat→Bool)(h:Heap)(ty n:Nat)(v0:XV) : Option (XV × Heap):=zf W (XO.ev fun _ => .undef) h (.box ty n (.c v0))
def qp0 (W:Nat→Bool)(h:Heap)(ty:Nat)(zero:List XV)  : Option (XV × Heap):=zf W (XO.ev fun _ => .undef) h (.new ty zero)
def qmz (W:Nat→Bool)(h:Heap)(ty esz bytes:Nat)(zero:List XV)(v0:XV)(v1:XV) : Option (XV × Heap):=zf W (XO.ev fun _ => .undef) h (.mkS ty esz bytes zero (.c v0) (.c v1))
def uf (h:Heap)(ty esz:Nat)(x:XV)(lo hi mx:Option XV) : Option XV :=
 match k9 lo,k9 hi,k9 mx with
 | some l,some e,some m=>wa h ty esz x l e m
 | _,_,_=>none
def qgw (zero:List XV)(ps:List (Nat × Nat × XV)) : Option XV:=(fill zero ps).map .agg
def xg (h:Heap)(ty len:Nat)(zero:List XV)(ps:List (Nat × Nat × XV)) : Option (XV × Heap):=(fill zero ps).map fun cs=>(.row h.length 0 len len,h++[⟨cs,ty,true⟩])
def qiy (mx:Bool) : List XV→Option XV
 | .int k a::r=>qfj mx a k r
 | _=>none
def evp (fr:Fr)(p:Nat × Nat × XO) : Nat × Nat × XV:=(p.1,p.2.1,p.2.2.ev fr)

def Put1D (E:Env)(W:Nat→Bool)(o:Option XV)(d:Option Nat)(hs:Nat)(r:List XOper)(ld wr:List Nat)(k:List It)(Q:QE)(fr:Fr)(h:Heap) : Prop :=
 match o with
 | some v=>Run E W (.draw hs r ld wr::k) Q (fr.put d v) h
 | none=>False
def Put2D (E:Env)(W:Nat→Bool)(o:Option (XV × Heap))(d:Option Nat)(hs:Nat)(r:List XOper)(ld wr:List Nat)(k:List It)(Q:QE)(fr:Fr) : Prop :=
 match o with
 | some (v,h)=>Run E W (.draw hs r ld wr::k) Q (fr.put d v) h
 | none=>False
def LdD (E:Env)(W:Nat→Bool)(n:Option Nat)(v:XV)(d:Option Nat)(hs:Nat)(r:List XOper)(ld wr:List Nat)(k:List It)(Q:QE)(fr:Fr)(h:Heap) : Prop :=
 match v with
 | .ptr b o=>(b<hs∧wr.contains b=false)∧Put1D E W (xld h n (.ptr b o)) d hs r (b::ld) wr k Q fr h
 | v=>Put1D E W (xld h n v) d hs r ld wr k Q fr h
def GuardD (E:Env)(W:Nat→Bool)(v:XV)(want:Bool)(o:XOper)(hs:Nat)(r:List XOper)(ld wr:List Nat)(k:List It)(Q:QE)(fr:Fr)(h:Heap) : Prop :=
 match v with
 | .bool b=>if b=want then Run E W (.draw hs (o::r) ld wr::k) Q fr h else Run E W (.draw hs r ld wr::k) Q (fr.put o.dst (.tup [])) h
 | .tup _=>Run E W (.draw hs r ld wr::k) Q (fr.put o.dst (.tup [])) h
 | _=>False
def CallD (E:Env)(W:Nat→Bool)(f:XV)(args:List XV)(d:Option Nat)(hs:Nat)(r:List XOper)(ld wr:List Nat)(k:List It)(Q:QE)(fr:Fr)(h:Heap) : Prop :=
 CallW E W f args h (fun v h'=>Run E W (.draw hs r ld wr::k) Q (fr.put d v) h')
def CallQ (E:Env)(W:Nat→Bool)(f:XV)(args:List XV)(ms:List Nat)(d:Option Nat)(hs:Nat)(r:List XOper)(ld wr:List Nat)(k:List It)(Q:QE)(fr:Fr)(h:Heap) : Prop :=
 ym ms ld=true∧CallW E (u3 W hs ms) f args h (fun v h'=>Run E W (.draw hs r ld (ms++wr)::k) Q (fr.put d v) h')
def qj2 (E:Env)(f:XV)(args:List XV) : List Nat :=
 match f with
 | .fn g caps=>if E.mode g≠0 then [] else (args++caps).flatMap qsj
 | _=>[]
def QuietD (E:Env)(W:Nat→Bool)(o:(Nat→Bool)→Option (XV × Heap))(ms:List Nat)(d:Option Nat)(hs:Nat)(r:List XOper)(ld wr:List Nat)(k:List It)(Q:QE)(fr:Fr) : Prop :=
 ym ms ld=true∧Put2D E W (o (u3 W hs ms)) d hs r ld (ms++wr) k Q fr

section
variable {E:Env}{W:Nat→Bool}{k:List It}{Q:QE}{fr:Fr}{h:Heap}{r:List XOper}{d:Option Nat}{cl hs:Nat}{ld wr:List Nat}{kk:IntKind}

theorem zp {n:Nat}{x y:XO} : Run E W (.ops (⟨d,.st n x y,none,cl⟩::r)::k) Q fr h=Put2 E W (pst W h n (x.ev fr) (y.ev fr)) d r k Q fr:=by
 rw [run_pure (fun _ _ e=>by cases e)]; rfl
theorem um {ty esz bytes:Nat}{x y:XO} : Run E W (.ops (⟨d,.app ty esz bytes x y,none,cl⟩::r)::k) Q fr h=Put2 E W (qaw W h ty esz bytes (x.ev fr) (y.ev fr)) d r k Q fr:=by
 rw [run_pure (fun _ _ e=>by cases e)]; rfl
theorem q9r {ty:Nat}{zero:List XV}{x:XO} : Run E W (.ops (⟨d,.clr ty zero x,none,cl⟩::r)::k) Q fr h=Put2 E W (qxm W h ty zero (x.ev fr)) d r k Q fr:=by
 rw [run_pure (fun _ _ e=>by cases e)]; rfl
theorem jp {ty n:Nat}{x:XO} : Run E W (.ops (⟨d,.box ty n x,none,cl⟩::r)::k) Q fr h=Put2 E W (qsg W h ty n (x.ev fr)) d r k Q fr:=by
 rw [run_pure (fun _ _ e=>by cases e)]; rfl
theorem kd {ty:Nat}{zero:List XV} : Run E W (.ops (⟨d,.new ty zero,none,cl⟩::r)::k) Q fr h=Put2 E W (qp0 W h ty zero ) d r k Q fr:=by
 rw [run_pure (fun _ _ e=>by cases e)]; rfl
theorem qid {ty esz bytes:Nat}{zero:List XV}{x y:XO} : Run E W (.ops (⟨d,.mkS ty esz bytes zero x y,none,cl⟩::r)::k) Q fr h=Put2 E W (qmz W h ty esz bytes zero (x.ev fr) (y.ev fr)) d r k Q fr:=by
 rw [run_pure (fun _ _ e=>by cases e)]; rfl
theorem q9g {f:Nat}{caps:List XO} : Run E W (.ops (⟨d,.mkF f caps,none,cl⟩::r)::k) Q fr h=Run E W (.ops r::k) Q (fr.put d (.fn f (caps.map (XO.ev fr)))) h:=(rfl)
theorem qej {ty esz:Nat}{x:XO}{lo hi mx:Option XO} : Run E W (.ops (⟨d,.slc ty esz x lo hi mx,none,cl⟩::r)::k) Q fr h=Put1 E W (uf h ty esz (x.ev fr) (lo.map (XO.ev fr)) (hi.map (XO.ev fr)) (mx.map (XO.ev fr))) d r k Q fr h:=by
 rw [run_pure (fun _ _ e=>by cases e)]
 refine qbc ?_
 simp only [zf,uf]
 cases k9 (lo.map (XO.ev fr)) <;> try rfl
 cases k9 (hi.map (XO.ev fr)) <;> try rfl
 cases k9 (mx.map (XO.ev fr)) <;> try rfl
 rename_i l e m
 dsimp only
 cases wa h ty esz (x.ev fr) l e m <;> rfl
theorem run_build {zero:List XV}{ps:List (Nat × Nat × XO)} : Run E W (.ops (⟨d,.build zero ps,none,cl⟩::r)::k) Q fr h=Put1 E W (qgw zero (ps.map (evp fr))) d r k Q fr h:=by
 rw [run_pure (fun _ _ e=>by cases e)]
 refine qbc ?_
 simp only [zf,qgw]
 have e:ps.map (fun p=>(p.1,p.2.1,XO.ev fr p.2.2))=ps.map (evp fr):=rfl
 rw [e]
 cases fill zero (ps.map (evp fr)) <;> rfl
theorem ws {ty len:Nat}{zero:List XV}{ps:List (Nat × Nat × XO)} : Run E W (.ops (⟨d,.buildS ty len zero ps,none,cl⟩::r)::k) Q fr h=Put2 E W (xg h ty len zero (ps.map (evp fr))) d r k Q fr:=by
 rw [run_pure (fun _ _ e=>by cases e)]
 congr 1
 simp only [zf,xg]
 have e:ps.map (fun p=>(p.1,p.2.1,XO.ev fr p.2.2))=ps.map (evp fr):=rfl
 rw [e]
 cases fill zero (ps.map (evp fr)) <;> rfl
theorem q8s {mx:Bool}{xs:List XO} : Run E W (.ops (⟨d,.mnx mx xs,none,cl⟩::r)::k) Q fr h=Put1 E W (qiy mx (xs.map (XO.ev fr))) d r k Q fr h:=by
 rw [run_pure (fun _ _ e=>by cases e)]
 refine qbc ?_
 simp only [zf]
 cases xs.map (XO.ev fr) with
 | nil=>rfl
 | cons v vs =>
  cases v <;> try rfl
  rename_i k0 a0
  simp only [qiy]
  cases qfj mx a0 k0 vs <;> rfl

theorem za:Run E W (.draw hs [] ld wr::k) Q fr h=Run E W k Q fr h:=(rfl)
theorem ql {v:XV} : Put1D E W (some v) d hs r ld wr k Q fr h=Run E W (.draw hs r ld wr::k) Q (fr.put d v) h:=(rfl)
theorem qr {op:XOp}{g:Nat}{want:Bool} : Run E W (.draw hs (⟨d,op,some (g,want),cl⟩::r) ld wr::k) Q fr h=GuardD E W (fr g) want ⟨d,op,none,cl⟩ hs r ld wr k Q fr h:=by
 show WD E W hs (⟨d,op,some (g,want),cl⟩::r) ld wr _ fr h=_
 simp only [WD,GuardD]
 cases fr g <;> rfl
theorem zl {o:XOper} : GuardD E W (.bool true) true o hs r ld wr k Q fr h=Run E W (.draw hs (o::r) ld wr::k) Q fr h:=by simp [GuardD]
theorem zz {o:XOper} : GuardD E W (.bool false) false o hs r ld wr k Q fr h=Run E W (.draw hs (o::r) ld wr::k) Q fr h:=by simp [GuardD]
theorem ku {o:XOper} : GuardD E W (.bool false) true o hs r ld wr k Q fr h=Run E W (.draw hs r ld wr::k) Q (fr.put o.dst (.tup [])) h:=by simp [GuardD]
theorem wo {o:XOper} : GuardD E W (.bool true) false o hs r ld wr k Q fr h=Run E W (.draw hs r ld wr::k) Q (fr.put o.dst (.tup [])) h:=by simp [GuardD]
theorem qiw {o:XOper}{want:Bool}{vs:List XV} : GuardD E W (.tup vs) want o hs r ld wr k Q fr h=Run E W (.draw hs r ld wr::k) Q (fr.put o.dst (.tup [])) h:=(rfl)
theorem jm {o:XOper}{t want:Bool}(h1:t=true→GuardD E W (.bool true) want o hs r ld wr k Q fr h)(h2:t=false→GuardD E W (.bool false) want o hs r ld wr k Q fr h) : GuardD E W (.bool t) want o hs r ld wr k Q fr h:=by
 cases t
 ·exact h2 rfl
 ·exact h1 rfl
theorem qar {op:XOp} : Run E W (.draw hs (⟨d,op,none,4⟩::r) ld wr::k) Q fr h=Put2D E W (zf (fun _=>false) (XO.ev fr) h op) d hs r ld wr k Q fr:=by
 simp only [Run,yi,WD,OpD,Put2D]
 rw [if_neg (by decide),if_pos trivial]
 cases zf (fun _=>false) (XO.ev fr) h op <;> rfl
theorem qe2 {op:XOp}(hf:kc (XO.ev fr) op=[]) : Run E W (.draw hs (⟨d,op,none,1⟩::r) ld wr::k) Q fr h=Put2D E W (zf (fun _=>false) (XO.ev fr) h op) d hs r ld wr k Q fr:=by
 simp only [Run,yi,WD,OpD,Put2D,hf]
 rw [if_pos trivial]
 simp only [List.all_nil,ym,true_and,r7]
 cases zf (fun _=>false) (XO.ev fr) h op <;> rfl
theorem yv {o:Option XV} : Put2D E W (o.map fun v=>(v,h)) d hs r ld wr k Q fr=Put1D E W o d hs r ld wr k Q fr h:=by
 cases o <;> rfl
theorem q9t {op:BinOp}{x y:XO} : zf W (XO.ev fr) h (.bin op x y)=(uh op (x.ev fr) (y.ev fr)).map fun v=>(v,h):=by
 simp only [zf]; cases uh op (x.ev fr) (y.ev fr) <;> rfl
theorem zcr {op:UnOp}{x:XO} : zf W (XO.ev fr) h (.un op x)=(xun op (x.ev fr)).map fun v=>(v,h):=by
 simp only [zf]; cases xun op (x.ev fr) <;> rfl
theorem q6r {n:Option Nat}{x:XO} : zf W (XO.ev fr) h (.ld n x)=(xld h n (x.ev fr)).map fun v=>(v,h):=by
 cases n with
 | none =>
  simp only [zf]
  cases x.ev fr <;> simp only [xld] <;> try rfl
  ·rename_i cs o
   cases cs[o]? <;> rfl
  ·rename_i b o
   cases qab h b o <;> rfl
 | some n =>
  simp only [zf]
  cases x.ev fr <;> simp only [xld] <;> try rfl
  ·split <;> rfl
  ·rename_i b o
   cases kf h b o n <;> rfl
theorem q4v {off:Nat}{x:XO} : zf W (XO.ev fr) h (.fa off x)=(xfa off (x.ev fr)).map fun v=>(v,h):=by
 simp only [zf]; cases x.ev fr <;> rfl
theorem q28 {esz:Nat}{x i:XO} : zf W (XO.ev fr) h (.ia esz x i)=(xia esz (x.ev fr) (i.ev fr)).map fun v=>(v,h):=by
 simp only [zf]
 cases x.ev fr <;> cases i.ev fr <;> simp only [xia] <;> try rfl
 ·rename_i es kk n
  by_cases h0:0≤n
  ·rw [if_pos h0,if_pos h0]
   cases es[n.toNat]? with
   | none=>rfl
   | some cs =>
    dsimp only
    by_cases hc:cs.length=esz
    ·rw [if_pos hc,if_pos hc]; rfl
    ·rw [if_neg hc,if_neg hc]; rfl
  ·rw [if_neg h0,if_neg h0]; rfl
 ·split <;> rfl
theorem qtu {x:XO} : zf W (XO.ev fr) h (.len x)=(qf3 (x.ev fr)).map fun v=>(v,h):=by
 simp only [zf]; cases x.ev fr <;> rfl
theorem q8z {c x y:XO} : zf W (XO.ev fr) h (.pick c x y)=(qly (c.ev fr) (x.ev fr) (y.ev fr)).map fun v=>(v,h):=by
 simp only [zf]
 cases c.ev fr <;> try rfl
 rename_i t
 cases t <;> rfl
theorem quz {x:XO}{i:Nat} : zf W (XO.ev fr) h (.ext x i)=(qjy i (x.ev fr)).map fun v=>(v,h):=by
 simp only [zf]
 cases x.ev fr <;> try rfl
 rename_i vs
 simp only [qjy]
 cases vs[i]? <;> rfl
theorem za6 {x:XO} : zf W (XO.ev fr) h (.chk x)=(qrg (x.ev fr)).map fun v=>(v,h):=by
 simp only [zf]; cases x.ev fr <;> rfl
theorem qux {ty esz:Nat}{x:XO}{lo hi mx:Option XO} : zf W (XO.ev fr) h (.slc ty esz x lo hi mx)=(uf h ty esz (x.ev fr) (lo.map (XO.ev fr)) (hi.map (XO.ev fr)) (mx.map (XO.ev fr))).map fun v=>(v,h):=by
 simp only [zf,uf]
 cases k9 (lo.map (XO.ev fr)) <;> try rfl
 cases k9 (hi.map (XO.ev fr)) <;> try rfl
 cases k9 (mx.map (XO.ev fr)) <;> try rfl
 rename_i l e m
 dsimp only
 cases wa h ty esz (x.ev fr) l e m <;> rfl
theorem qyf {zero:List XV}{ps:List (Nat × Nat × XO)} : zf W (XO.ev fr) h (.build zero ps)=(qgw zero (ps.map (evp fr))).map fun v=>(v,h):=by
 simp only [zf,qgw]
 have e:ps.map (fun p=>(p.1,p.2.1,XO.ev fr p.2.2))=ps.map (evp fr):=rfl
 rw [e]
 cases fill zero (ps.map (evp fr)) <;> rfl
theorem qvk {mx:Bool}{xs:List XO} : zf W (XO.ev fr) h (.mnx mx xs)=(qiy mx (xs.map (XO.ev fr))).map fun v=>(v,h):=by
 simp only [zf]
 cases xs.map (XO.ev fr) with
 | nil=>rfl
 | cons v vs =>
  cases v <;> try rfl
  rename_i k0 a0
  simp only [qiy]
  cases qfj mx a0 k0 vs <;> rfl
theorem q35 {x:XO} : zf W (XO.ev fr) h (.mv x)=(some (x.ev fr)).map fun v=>(v,h):=(rfl)
theorem k5 {op:BinOp}{x y:XO} : Run E W (.draw hs (⟨d,.bin op x y,none,4⟩::r) ld wr::k) Q fr h=Put1D E W (uh op (x.ev fr) (y.ev fr)) d hs r ld wr k Q fr h:=by
 rw [qar,q9t,yv]
theorem qcx {op:UnOp}{x:XO} : Run E W (.draw hs (⟨d,.un op x,none,4⟩::r) ld wr::k) Q fr h=Put1D E W (xun op (x.ev fr)) d hs r ld wr k Q fr h:=by
 rw [qar,zcr,yv]
theorem zt {n:Option Nat}{x:XO} : Run E W (.draw hs (⟨d,.ld n x,none,4⟩::r) ld wr::k) Q fr h=Put1D E W (xld h n (x.ev fr)) d hs r ld wr k Q fr h:=by
 rw [qar,q6r,yv]
theorem qb2 {off:Nat}{x:XO} : Run E W (.draw hs (⟨d,.fa off x,none,1⟩::r) ld wr::k) Q fr h=Put1D E W (xfa off (x.ev fr)) d hs r ld wr k Q fr h:=by
 rw [qe2 rfl,q4v,yv]
theorem jb {off:Nat}{x:XO} : Run E W (.draw hs (⟨d,.fa off x,none,4⟩::r) ld wr::k) Q fr h=Put1D E W (xfa off (x.ev fr)) d hs r ld wr k Q fr h:=by
 rw [qar,q4v,yv]
theorem qrw {esz:Nat}{x i:XO} : Run E W (.draw hs (⟨d,.ia esz x i,none,1⟩::r) ld wr::k) Q fr h=Put1D E W (xia esz (x.ev fr) (i.ev fr)) d hs r ld wr k Q fr h:=by
 rw [qe2 rfl,q28,yv]
theorem yz {esz:Nat}{x i:XO} : Run E W (.draw hs (⟨d,.ia esz x i,none,4⟩::r) ld wr::k) Q fr h=Put1D E W (xia esz (x.ev fr) (i.ev fr)) d hs r ld wr k Q fr h:=by
 rw [qar,q28,yv]
theorem qvb {x:XO} : Run E W (.draw hs (⟨d,.len x,none,1⟩::r) ld wr::k) Q fr h=Put1D E W (qf3 (x.ev fr)) d hs r ld wr k Q fr h:=by
 rw [qe2 rfl,qtu,yv]
theorem qdy {x:XO} : Run E W (.draw hs (⟨d,.len x,none,4⟩::r) ld wr::k) Q fr h=Put1D E W (qf3 (x.ev fr)) d hs r ld wr k Q fr h:=by
 rw [qar,qtu,yv]
theorem jh {c x y:XO} : Run E W (.draw hs (⟨d,.pick c x y,none,4⟩::r) ld wr::k) Q fr h=Put1D E W (qly (c.ev fr) (x.ev fr) (y.ev fr)) d hs r ld wr k Q fr h:=by
 rw [qar,q8z,yv]
theorem qml {x:XO}{i:Nat} : Run E W (.draw hs (⟨d,.ext x i,none,1⟩::r) ld wr::k) Q fr h=Put1D E W (qjy i (x.ev fr)) d hs r ld wr k Q fr h:=by
 rw [qe2 rfl,quz,yv]
theorem qjz {x:XO}{i:Nat} : Run E W (.draw hs (⟨d,.ext x i,none,4⟩::r) ld wr::k) Q fr h=Put1D E W (qjy i (x.ev fr)) d hs r ld wr k Q fr h:=by
 rw [qar,quz,yv]
theorem kp {x:XO} : Run E W (.draw hs (⟨d,.chk x,none,4⟩::r) ld wr::k) Q fr h=Put1D E W (qrg (x.ev fr)) d hs r ld wr k Q fr h:=by
 rw [qar,za6,yv]
theorem q90 {ty esz:Nat}{x:XO}{lo hi mx:Option XO} : Run E W (.draw hs (⟨d,.slc ty esz x lo hi mx,none,1⟩::r) ld wr::k) Q fr h=Put1D E W (uf h ty esz (x.ev fr) (lo.map (XO.ev fr)) (hi.map (XO.ev fr)) (mx.map (XO.ev fr))) d hs r ld wr k Q fr h:=by
 rw [qe2 rfl,qux,yv]
theorem qlx {ty esz:Nat}{x:XO}{lo hi mx:Option XO} : Run E W (.draw hs (⟨d,.slc ty esz x lo hi mx,none,4⟩::r) ld wr::k) Q fr h=Put1D E W (uf h ty esz (x.ev fr) (lo.map (XO.ev fr)) (hi.map (XO.ev fr)) (mx.map (XO.ev fr))) d hs r ld wr k Q fr h:=by
 rw [qar,qux,yv]
theorem qi4 {zero:List XV}{ps:List (Nat × Nat × XO)} : Run E W (.draw hs (⟨d,.build zero ps,none,4⟩::r) ld wr::k) Q fr h=Put1D E W (qgw zero (ps.map (evp fr))) d hs r ld wr k Q fr h:=by
 rw [qar,qyf,yv]
theorem q9x {mx:Bool}{xs:List XO} : Run E W (.draw hs (⟨d,.mnx mx xs,none,1⟩::r) ld wr::k) Q fr h=Put1D E W (qiy mx (xs.map (XO.ev fr))) d hs r ld wr k Q fr h:=by
 rw [qe2 rfl,qvk,yv]
theorem q99 {mx:Bool}{xs:List XO} : Run E W (.draw hs (⟨d,.mnx mx xs,none,4⟩::r) ld wr::k) Q fr h=Put1D E W (qiy mx (xs.map (XO.ev fr))) d hs r ld wr k Q fr h:=by
 rw [qar,qvk,yv]
theorem qkq {x:XO} : Run E W (.draw hs (⟨d,.mv x,none,1⟩::r) ld wr::k) Q fr h=Put1D E W (some (x.ev fr)) d hs r ld wr k Q fr h:=by
 rw [qe2 rfl,q35,yv]
theorem zr {x:XO} : Run E W (.draw hs (⟨d,.mv x,none,4⟩::r) ld wr::k) Q fr h=Put1D E W (some (x.ev fr)) d hs r ld wr k Q fr h:=by
 rw [qar,q35,yv]
theorem ki {f:XO}{args:List XO} : Run E W (.draw hs (⟨d,.call f args,none,3⟩::r) ld wr::k) Q fr h=CallD E W (f.ev fr) (args.map (XO.ev fr)) d hs r ld wr k Q fr h:=by
 simp only [Run,yi,WD,OpD,CallD]
 rw [if_neg (by decide),if_neg (by decide),if_neg (by decide),if_pos trivial]
 rfl
theorem wg {f:XO}{args:List XO} : Run E W (.draw hs (⟨d,.call f args,none,2⟩::r) ld wr::k) Q fr h=CallQ E W (f.ev fr) (args.map (XO.ev fr)) (qj2 E (f.ev fr) (args.map (XO.ev fr))) d hs r ld wr k Q fr h:=by
 simp only [Run,yi,WD,OpD,CallQ]
 rw [if_neg (by decide),if_neg (by decide),if_pos trivial]
 rfl
theorem qu3 {op:XOp}(hop:∀ f args,op ≠ .call f args) : Run E W (.draw hs (⟨d,op,none,3⟩::r) ld wr::k) Q fr h=Put2D E W (zf W (XO.ev fr) h op) d hs r ld wr k Q fr:=by
 simp only [Run,yi,WD,OpD,Put2D]
 rw [if_neg (by decide),if_neg (by decide),if_neg (by decide),if_pos trivial]
 cases op <;> first | exact absurd rfl (hop _ _) | (simp only [OpW]; split <;> simp_all)
theorem w9 {n:Option Nat}{x:XO} : Run E W (.draw hs (⟨d,.ld n x,none,1⟩::r) ld wr::k) Q fr h=LdD E W n (x.ev fr) d hs r ld wr k Q fr h:=by
 simp only [Run,yi,WD,OpD]
 rw [if_pos trivial,q6r]
 cases hv:XO.ev fr x
 case ptr b o =>
  have e:kc (XO.ev fr) (.ld n x)=[b]:=by simp only [kc,hv]
  rw [e]
  simp only [LdD,List.all_cons,List.all_nil,Bool.and_true,decide_eq_true_eq,Bool.not_eq_true',List.cons_append,r7,and_assoc,ym,Put1D]
  cases xld h n (XV.ptr b o) <;> rfl
 all_goals
  have e:kc (XO.ev fr) (.ld n x)=[]:=by simp only [kc,hv]
  rw [e]
  simp only [LdD,List.all_nil,ym,true_and,r7,Put1D]
  generalize xld h n _=o
  cases o <;> rfl
end
end Go.Proofs.Ytohofoampalhoaa.X
