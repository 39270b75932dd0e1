/- Running X's code by rewriting: a stack of what is still to be done, no continuation in sight. -/
import Derived.Test.YtanblnjomhgphaaZWp
set_option linter.unusedVariables false
set_option linter.unusedSimpArgs false
namespace Go.Proofs.Ytanblnjomhgphaa.X
open Go

inductive It where
 | code (c:XCode)
 | ops (xs:List XOper)
 | draw (hs:Nat) (xs:List XOper) (ld wr:List Nat)
 | blk (id:Nat)

def wc (E:Env)(W:Nat→Bool) : List It→QE→QE
 | [],Q=>Q
 | .code c::k,Q=>fun e fr h=>match e with
  | .normal=>WC E W c (wc E W k Q) fr h
  | e=>wc E W k Q e fr h
 | .ops xs::k,Q=>fun e fr h=>match e with
  | .normal=>WO E W xs (fun fr h=>wc E W k Q .normal fr h) fr h
  | e=>wc E W k Q e fr h
 | .draw hs xs ld wr::k,Q=>fun e fr h=>match e with
  | .normal=>WD E W hs xs ld wr (fun fr h=>wc E W k Q .normal fr h) fr h
  | e=>wc E W k Q e fr h
 | .blk id::k,Q=>fun e fr h=>match e with
  | .exit i=>if i=id then wc E W k Q .normal fr h else wc E W k Q (.exit i) fr h
  | e=>wc E W k Q e fr h

def Run (E:Env)(W:Nat→Bool)(k:List It)(Q:QE)(fr:Fr)(h:Heap) : Prop:=wc E W k Q .normal fr h
def Out (E:Env)(W:Nat→Bool)(id:Nat)(k:List It)(Q:QE)(fr:Fr)(h:Heap) : Prop:=wc E W k Q (.exit id) fr h
def CondK (E:Env)(W:Nat→Bool)(v:XV)(a b:XCode)(k:List It)(Q:QE)(fr:Fr)(h:Heap) : Prop :=
 match v with
 | .bool true=>Run E W (.code a::k) Q fr h
 | .bool false=>Run E W (.code b::k) Q fr h
 | _=>False
def Put1 (E:Env)(W:Nat→Bool)(o:Option XV)(d:Option Nat)(r:List XOper)(k:List It)(Q:QE)(fr:Fr)(h:Heap) : Prop :=
 match o with
 | some v=>Run E W (.ops r::k) Q (fr.put d v) h
 | none=>False
def Put2 (E:Env)(W:Nat→Bool)(o:Option (XV × Heap))(d:Option Nat)(r:List XOper)(k:List It)(Q:QE)(fr:Fr) : Prop :=
 match o with
 | some (v,h)=>Run E W (.ops r::k) Q (fr.put d v) h
 | none=>False
def GuardK (E:Env)(W:Nat→Bool)(v:XV)(want:Bool)(o:XOper)(r:List XOper)(k:List It)(Q:QE)(fr:Fr)(h:Heap) : Prop :=
 match v with
 | .bool b=>if b=want then Run E W (.ops (o::r)::k) Q fr h else Run E W (.ops r::k) Q (fr.put o.dst (.tup [])) h
 | .tup _=>Run E W (.ops r::k) Q (fr.put o.dst (.tup [])) h
 | _=>False
def CallK (E:Env)(W:Nat→Bool)(f:XV)(args:List XV)(d:Option Nat)(r:List XOper)(k:List It)(Q:QE)(fr:Fr)(h:Heap) : Prop :=
 CallW E W f args h (fun v h'=>Run E W (.ops r::k) Q (fr.put d v) h')

def xld (h:Heap) : Option Nat→XV→Option XV
 | none,.ptr b o=>qal h b o
 | none,.ref cs o=>cs[o]?
 | some n,.ptr b o=>(kw h b o n).map .agg
 | some n,.ref cs o=>if o+n≤cs.length then some (.agg ((cs.drop o).take n)) else none
 | _,_=>none
def xfa (off:Nat) : XV→Option XV
 | .ptr b o=>some (.ptr b (o+off))
 | .ref cs o=>some (.ref cs (o+off))
 | _=>none
def qkg:XV→XV→Option XV
 | .str s,.int _ n=>if 0≤n then (s[n.toNat]?).map (fun b => .int .u8 b.toNat) else none
 | _,_=>none
theorem zag {W:Nat→Bool}{fr:Fr}{h:Heap}{x i:XO} : ze W (XO.ev fr) h (.sidx x i)=(qkg (x.ev fr) (i.ev fr)).map fun v=>(v,h):=by
 simp only [ze]
 show _=Option.map _ (qkg (XO.ev fr x) (XO.ev fr i))
 generalize XO.ev fr x=a
 generalize XO.ev fr i=b
 cases a with
 | str s =>
  cases b with
  | int k n =>
   simp only [qkg]
   split
   ·cases s[n.toNat]? <;> rfl
   ·rfl
  | _=>rfl
 | _=>rfl
def xia (esz:Nat) : XV→XV→Option XV
 | .list es,.int _ n=>if 0≤n then (match es[n.toNat]? with
  | some cs=>if cs.length=esz then some (.ref cs 0) else none
  | none=>none) else none
 | .row b off len _,.int _ n=>if 0≤n∧n<len then some (.ptr b (off+n.toNat*esz)) else none
 | _,_=>none
def qg1:XV→Option XV
 | .nil=>some (.int .i64 0)
 | .list es=>some (.int .i64 es.length)
 | .row _ _ len _=>some (.int .i64 len)
 | _=>none
def ql1:XV→XV→XV→Option XV
 | .bool true,a,_=>some a
 | .bool false,_,b=>some b
 | _,_,_=>none
def qjh (i:Nat) : XV→Option XV
 | .tup vs=>vs[i]?
 | _=>none
def qro:XV→Option XV
 | .ptr b o=>some (.ptr b o)
 | .ref cs o=>some (.ref cs o)
 | .fn f c=>some (.fn f c)
 | _=>none
def qrw (neq:Bool) : XV→XV→Option XV
 | .bool a,.bool b=>some (.bool (if neq then !(a == b) else a == b))
 | _,_=>none
def qot (k:IntKind) : XV→Option XV
 | .int _ n=>some (.int k (k.wrap n))
 | _=>none

section
variable {E:Env}{W:Nat→Bool}
theorem CutQ.mono {keep:Bool}{h:Heap}{Q Q':XV→Heap→Prop}(hQ:∀ v h,Q v h→Q' v h)(v:XV)(h':Heap)(H:CutQ E keep h Q v h') : CutQ E keep h Q' v h':=by
 obtain ⟨u,h1,h2⟩:=H
 exact ⟨u,h1,hQ _ _ h2⟩
theorem CallW.mono {f:XV}{args:List XV}{h:Heap}{Q Q':XV→Heap→Prop}(hQ:∀ v h,Q v h→Q' v h)(H:CallW E W f args h Q) : CallW E W f args h Q':=by
 unfold CallW at H ⊢
 split at H
 ·split at H
  ·split at H
   ·exact H.mono (CutQ.mono hQ)
   ·cases H
  ·split at H
   ·exact H.mono (fun v _ h=>⟨h.1,hQ _ _ h.2⟩)
   ·cases H
  ·exact H.mono (CutQ.mono hQ)
  ·exact H.mono hQ
 ·cases H
theorem OpW.mono {ev:XO→XV}{h:Heap}{op:XOp}{Q Q':XV→Heap→Prop}(hQ:∀ v h,Q v h→Q' v h)(H:OpW E W ev h op Q) : OpW E W ev h op Q':=by
 have pure:∀ {op:XOp},(match ze W ev h op with | some (v,h')=>Q v h' | none=>False)→(match ze W ev h op with | some (v,h')=>Q' v h' | none=>False):=by
  intro op H
  split at H
  ·exact hQ _ _ H
  ·cases H
 cases hop:op
 case call f args=>rw [hop] at H; exact CallW.mono hQ H
 all_goals (rw [hop] at H; have h1:=pure (op:=op) (by rw [hop]; exact H); rw [hop] at h1; exact h1)
theorem WO.mono:∀ {xs:List XOper} {Q Q':Fr→Heap→Prop} {fr:Fr} {h:Heap},(∀ fr h,Q fr h→Q' fr h)→WO E W xs Q fr h→WO E W xs Q' fr h:=by
 intro xs
 induction xs with
 | nil=>intro Q Q' fr h hQ H; exact hQ _ _ H
 | cons o r ih =>
  intro Q Q' fr h hQ H
  obtain ⟨d,op,g,cls⟩:=o
  cases g with
  | none=>exact OpW.mono (fun v h'=>ih hQ) H
  | some gw =>
   obtain ⟨g,want⟩:=gw
   simp only [WO] at H ⊢
   split at H
   ·split at H
    ·rename_i hbw
     rw [if_pos hbw]
     exact OpW.mono (fun v h'=>ih hQ) H
    ·rename_i hbw
     rw [if_neg hbw]
     exact ih hQ H
   ·exact ih hQ H
   ·cases H
theorem OpD.mono {hs:Nat}{op:XOp}{cls:Nat}{ld wr:List Nat}{ev:XO→XV}{h:Heap}{Q Q':List Nat→List Nat→XV→Heap→Prop}(hQ:∀ a b v h,Q a b v h→Q' a b v h)(H:OpD E W hs op cls ld wr ev h Q) : OpD E W hs op cls ld wr ev h Q':=by
 unfold OpD at H ⊢
 split at H
 ·rename_i hc
  rw [if_pos hc]
  refine ⟨H.1,H.2.1,?_⟩
  have:=H.2.2
  split at this
  ·exact hQ _ _ _ _ this
  ·cases this
 ·rename_i hc1
  rw [if_neg hc1]
  split at H
  ·rename_i hc
   rw [if_pos hc]
   split at H
   ·exact hQ _ _ _ _ H
   ·cases H
  ·rename_i hc4
   rw [if_neg hc4]
   split at H
   ·rename_i hc
    rw [if_pos hc]
    exact ⟨H.1,OpW.mono (fun v h'=>hQ _ _ _ _) H.2⟩
   ·rename_i hc2
    rw [if_neg hc2]
    split at H
    ·rename_i hc
     rw [if_pos hc]
     exact OpW.mono (fun v h'=>hQ _ _ _ _) H
    ·rename_i hc3
     rw [if_neg hc3]
     split at H
     ·rename_i hc
      rw [if_pos hc]
      exact ⟨H.1,OpW.mono (fun v h'=>hQ _ _ _ _) H.2⟩
     ·cases H
theorem WD.mono {hs:Nat} : ∀ {xs:List XOper} {ld wr:List Nat} {Q Q':Fr→Heap→Prop} {fr:Fr} {h:Heap},(∀ fr h,Q fr h→Q' fr h)→WD E W hs xs ld wr Q fr h→WD E W hs xs ld wr Q' fr h:=by
 intro xs
 induction xs with
 | nil=>intro ld wr Q Q' fr h hQ H; exact hQ _ _ H
 | cons o r ih =>
  intro ld wr Q Q' fr h hQ H
  obtain ⟨d,op,g,cls⟩:=o
  cases g with
  | none=>exact OpD.mono (fun a b v h'=>ih hQ) H
  | some gw =>
   obtain ⟨g,want⟩:=gw
   simp only [WD] at H ⊢
   split at H
   ·split at H
    ·rename_i hbw
     rw [if_pos hbw]
     exact OpD.mono (fun a b v h'=>ih hQ) H
    ·rename_i hbw
     rw [if_neg hbw]
     exact ih hQ H
   ·exact ih hQ H
   ·cases H
theorem WC.mono:∀ (c:XCode) {Q Q':QE} {fr:Fr} {h:Heap},(∀ e fr h,Q e fr h→Q' e fr h)→WC E W c Q fr h→WC E W c Q' fr h:=by
 intro c
 induction c with
 | skip=>intro Q Q' fr h hQ H; exact hQ _ _ _ H
 | ret=>intro Q Q' fr h hQ H; exact hQ _ _ _ H
 | exit id=>intro Q Q' fr h hQ H; exact hQ _ _ _ H
 | seq a b iha ihb =>
  intro Q Q' fr h hQ H
  refine iha (fun e fr h h1=>?_) H
  cases e with
  | normal=>exact ihb hQ h1
  | ret=>exact hQ _ _ _ h1
  | exit id=>exact hQ _ _ _ h1
 | cond c a b iha ihb =>
  intro Q Q' fr h hQ H
  simp only [WC] at H ⊢
  split at H
  ·rename_i t ht
   cases t with
   | true=>exact iha hQ H
   | false=>exact ihb hQ H
  ·cases H
 | block id c ih =>
  intro Q Q' fr h hQ H
  refine ih (fun e fr h h1=>?_) H
  cases e with
  | normal=>exact hQ _ _ _ h1
  | ret=>exact hQ _ _ _ h1
  | exit i =>
   dsimp only at h1 ⊢
   split at h1
   ·rename_i hi
    rw [if_pos hi]
    exact hQ _ _ _ h1
   ·rename_i hi
    rw [if_neg hi]
    exact hQ _ _ _ h1
 | loop keep c ih =>
  intro Q Q' fr h hQ H
  obtain ⟨n,H⟩:=H
  refine ⟨n,?_⟩
  induction n generalizing fr h with
  | zero=>cases H
  | succ n ihn =>
   refine ih (fun e fr h h1=>?_) H
   cases e with
   | normal=>exact ihn h1
   | ret=>exact hQ _ _ _ h1
   | exit id=>exact hQ _ _ _ h1
 | frz ts =>
  intro Q Q' fr h hQ H
  simp only [WC] at H ⊢
  split at H
  ·exact hQ _ _ _ H
  ·cases H
 | reg d ops =>
  intro Q Q' fr h hQ H
  cases d with
  | false=>exact WO.mono (fun fr h=>hQ _ _ _) H
  | true=>exact WD.mono (fun fr h=>hQ _ _ _) H
end

section
variable {E:Env}{W:Nat→Bool}{k:List It}{Q:QE}{fr:Fr}{h:Heap}{a b:XCode}{r:List XOper}{d:Option Nat}{cl id:Nat}

theorem Run.of {c:XCode}(H:Run E W [.code c] Q fr h) : WC E W c Q fr h:=H

theorem qm:Run E W [] Q fr h=Q .normal fr h:=(rfl)
theorem zd:Run E W (.code .skip::k) Q fr h=Run E W k Q fr h:=(rfl)
theorem qbo:∀ (k:List It),wc E W k Q .ret fr h=Q .ret fr h
 | []=>rfl
 | .code _::k=>qbo k
 | .ops _::k=>qbo k
 | .draw .. :: k=>qbo k
 | .blk _::k=>qbo k
theorem zc:Run E W (.code .ret::k) Q fr h=Q .ret fr h:=qbo k
theorem qfv:Run E W (.code (.exit id)::k) Q fr h=Out E W id k Q fr h:=(rfl)
theorem qgc:Out E W id [] Q fr h=Q (.exit id) fr h:=(rfl)
theorem qe0:Out E W id (.code a::k) Q fr h=Out E W id k Q fr h:=(rfl)
theorem qkh {id':Nat} : Out E W id (.blk id'::k) Q fr h=if id=id' then Run E W k Q fr h else Out E W id k Q fr h:=(rfl)
theorem qf:Run E W (.code (.seq a b)::k) Q fr h=Run E W (.code a :: .code b::k) Q fr h:=(rfl)
theorem wx:Run E W (.code (.block id a)::k) Q fr h=Run E W (.code a :: .blk id::k) Q fr h:=(rfl)
theorem w6:Run E W (.blk id::k) Q fr h=Run E W k Q fr h:=(rfl)
theorem q8 {c:XO} : Run E W (.code (.cond c a b)::k) Q fr h=CondK E W (c.ev fr) a b k Q fr h:=by
 show WC E W (.cond c a b) (wc E W k Q) fr h=_
 simp only [WC,CondK]
 cases hc:c.ev fr <;> try rfl
 rename_i t
 cases t <;> rfl
theorem qnm:CondK E W (.bool true) a b k Q fr h=Run E W (.code a::k) Q fr h:=(rfl)
theorem qjj:CondK E W (.bool false) a b k Q fr h=Run E W (.code b::k) Q fr h:=(rfl)
theorem qe:Run E W (.code (.reg false r)::k) Q fr h=Run E W (.ops r::k) Q fr h:=(rfl)
theorem jg:Run E W (.code (.reg true r)::k) Q fr h=Run E W (.draw h.length r [] []::k) Q fr h:=(rfl)
theorem z5:Run E W (.code (.frz [])::k) Q fr h=Run E W k Q fr h:=(rfl)
theorem zar {t b:Nat}{ts:List Nat}{kb:Blk}(h1:fr t = .ptr b 0)(h2:z9 h b=some kb)(h3:W b=true)(H:Run E W (.code (.frz ts)::k) Q (fr.put (some t) (.ref kb.cells 0)) (kill h b)) : Run E W (.code (.frz (t::ts))::k) Q fr h:=by
 show WC E W (.frz (t::ts)) _ fr h
 simp only [WC,qik,h1,h2,h3,if_true]
 exact H
theorem qa:Run E W (.ops []::k) Q fr h=Run E W k Q fr h:=(rfl)
theorem qb {v:XV} : Put1 E W (some v) d r k Q fr h=Run E W (.ops r::k) Q (fr.put d v) h:=(rfl)
theorem qc {op:XOp}{g:Nat}{want:Bool} : Run E W (.ops (⟨d,op,some (g,want),cl⟩::r)::k) Q fr h=GuardK E W (fr g) want ⟨d,op,none,cl⟩ r k Q fr h:=by
 show WO E W (⟨d,op,some (g,want),cl⟩::r) _ fr h=_
 simp only [WO,GuardK]
 cases fr g <;> rfl
theorem zi {f:XO}{args:List XO} : Run E W (.ops (⟨d,.call f args,none,cl⟩::r)::k) Q fr h=CallK E W (f.ev fr) (args.map (XO.ev fr)) d r k Q fr h:=(rfl)
theorem run_pure {op:XOp}(hop:∀ f args,op ≠ .call f args) : Run E W (.ops (⟨d,op,none,cl⟩::r)::k) Q fr h=Put2 E W (ze W (XO.ev fr) h op) d r k Q fr:=by
 show OpW E W (XO.ev fr) h op _=_
 cases op <;> first | exact absurd rfl (hop _ _) | rfl
theorem qa7 {o:Option XV}{o2:Option (XV × Heap)}(e:o2=o.map fun v=>(v,h)) : Put2 E W o2 d r k Q fr=Put1 E W o d r k Q fr h:=by
 subst e
 cases o <;> rfl
theorem qg {x:XO} : Run E W (.ops (⟨d,.mv x,none,cl⟩::r)::k) Q fr h=Run E W (.ops r::k) Q (fr.put d (x.ev fr)) h:=(rfl)
theorem qx {op:BinOp}{x y:XO} : Run E W (.ops (⟨d,.bin op x y,none,cl⟩::r)::k) Q fr h=Put1 E W (wq op (x.ev fr) (y.ev fr)) d r k Q fr h:=by
 rw [run_pure (fun _ _ e=>by cases e)]
 exact qa7 (by simp only [ze]; cases wq op (x.ev fr) (y.ev fr) <;> rfl)
theorem jq {op:UnOp}{x:XO} : Run E W (.ops (⟨d,.un op x,none,cl⟩::r)::k) Q fr h=Put1 E W (xun op (x.ev fr)) d r k Q fr h:=by
 rw [run_pure (fun _ _ e=>by cases e)]
 exact qa7 (by simp only [ze]; cases xun op (x.ev fr) <;> rfl)
theorem ql {n:Option Nat}{x:XO} : Run E W (.ops (⟨d,.ld n x,none,cl⟩::r)::k) Q fr h=Put1 E W (xld h n (x.ev fr)) d r k Q fr h:=by
 rw [run_pure (fun _ _ e=>by cases e)]
 refine qa7 ?_
 cases n with
 | none =>
  simp only [ze]
  cases x.ev fr <;> simp only [xld] <;> try rfl
  ·rename_i cs o
   cases cs[o]? <;> rfl
  ·rename_i b o
   cases qal h b o <;> rfl
 | some n =>
  simp only [ze]
  cases x.ev fr <;> simp only [xld] <;> try rfl
  ·split <;> rfl
  ·rename_i b o
   cases kw h b o n <;> rfl
theorem qo {off:Nat}{x:XO} : Run E W (.ops (⟨d,.fa off x,none,cl⟩::r)::k) Q fr h=Put1 E W (xfa off (x.ev fr)) d r k Q fr h:=by
 rw [run_pure (fun _ _ e=>by cases e)]
 exact qa7 (by simp only [ze]; cases x.ev fr <;> rfl)
theorem jj {esz:Nat}{x i:XO} : Run E W (.ops (⟨d,.ia esz x i,none,cl⟩::r)::k) Q fr h=Put1 E W (xia esz (x.ev fr) (i.ev fr)) d r k Q fr h:=by
 rw [run_pure (fun _ _ e=>by cases e)]
 refine qa7 ?_
 simp only [ze]
 cases x.ev fr <;> cases i.ev fr <;> simp only [xia] <;> try rfl
 ·rename_i es kk n
  by_cases h0:0≤n
  ·rw [if_pos h0,if_pos h0]
   cases es[n.toNat]? with
   | none=>rfl
   | some cs =>
    dsimp only
    by_cases hc:cs.length=esz
    ·rw [if_pos hc,if_pos hc]; rfl
    ·rw [if_neg hc,if_neg hc]; rfl
  ·rw [if_neg h0,if_neg h0]; rfl
 ·split <;> rfl
theorem zq {x:XO} : Run E W (.ops (⟨d,.len x,none,cl⟩::r)::k) Q fr h=Put1 E W (qg1 (x.ev fr)) d r k Q fr h:=by
 rw [run_pure (fun _ _ e=>by cases e)]
 exact qa7 (by simp only [ze]; cases x.ev fr <;> rfl)
theorem qw {c x y:XO} : Run E W (.ops (⟨d,.pick c x y,none,cl⟩::r)::k) Q fr h=Put1 E W (ql1 (c.ev fr) (x.ev fr) (y.ev fr)) d r k Q fr h:=by
 rw [run_pure (fun _ _ e=>by cases e)]
 refine qa7 ?_
 simp only [ze]
 cases c.ev fr <;> try rfl
 rename_i t
 cases t <;> rfl
theorem qaz {x:XO}{i:Nat} : Run E W (.ops (⟨d,.ext x i,none,cl⟩::r)::k) Q fr h=Put1 E W (qjh i (x.ev fr)) d r k Q fr h:=by
 rw [run_pure (fun _ _ e=>by cases e)]
 refine qa7 ?_
 simp only [ze]
 cases x.ev fr <;> try rfl
 rename_i vs
 simp only [qjh]
 cases vs[i]? <;> rfl
theorem wb {x:XO} : Run E W (.ops (⟨d,.chk x,none,cl⟩::r)::k) Q fr h=Put1 E W (qro (x.ev fr)) d r k Q fr h:=by
 rw [run_pure (fun _ _ e=>by cases e)]
 exact qa7 (by simp only [ze]; cases x.ev fr <;> rfl)
theorem qkb {n:Bool}{x y:XO} : Run E W (.ops (⟨d,.eqb n x y,none,cl⟩::r)::k) Q fr h=Put1 E W (qrw n (x.ev fr) (y.ev fr)) d r k Q fr h:=by
 rw [run_pure (fun _ _ e=>by cases e)]
 refine qa7 ?_
 simp only [ze]
 cases x.ev fr <;> cases y.ev fr <;> rfl
theorem qhg {kk:IntKind}{x:XO} : Run E W (.ops (⟨d,.cvt kk x,none,cl⟩::r)::k) Q fr h=Put1 E W (qot kk (x.ev fr)) d r k Q fr h:=by
 rw [run_pure (fun _ _ e=>by cases e)]
 exact qa7 (by simp only [ze]; cases x.ev fr <;> rfl)

theorem zu {o:XOper} : GuardK E W (.bool true) true o r k Q fr h=Run E W (.ops (o::r)::k) Q fr h:=by simp [GuardK]
theorem qr {o:XOper} : GuardK E W (.bool false) false o r k Q fr h=Run E W (.ops (o::r)::k) Q fr h:=by simp [GuardK]
theorem kj {o:XOper} : GuardK E W (.bool false) true o r k Q fr h=Run E W (.ops r::k) Q (fr.put o.dst (.tup [])) h:=by simp [GuardK]
theorem zx {o:XOper} : GuardK E W (.bool true) false o r k Q fr h=Run E W (.ops r::k) Q (fr.put o.dst (.tup [])) h:=by simp [GuardK]
theorem qcs {o:XOper}{want:Bool}{vs:List XV} : GuardK E W (.tup vs) want o r k Q fr h=Run E W (.ops r::k) Q (fr.put o.dst (.tup [])) h:=(rfl)
theorem zf {o:XOper}{t want:Bool}(h1:t=true→GuardK E W (.bool true) want o r k Q fr h)(h2:t=false→GuardK E W (.bool false) want o r k Q fr h) : GuardK E W (.bool t) want o r k Q fr h:=by
 cases t
 ·exact h2 rfl
 ·exact h1 rfl
theorem q9 {t:Bool}(h1:t=true→Run E W (.code a::k) Q fr h)(h2:t=false→Run E W (.code b::k) Q fr h) : CondK E W (.bool t) a b k Q fr h:=by
 cases t
 ·exact h2 rfl
 ·exact h1 rfl
section
variable {kk:IntKind}{m n:Int}
theorem ur:wq .add (.int kk m) (.int kk n)=some (.int kk (kk.wrap (m+n))):=by simp [wq]
theorem qbp:wq .sub (.int kk m) (.int kk n)=some (.int kk (kk.wrap (m - n))):=by simp [wq]
theorem qmt:wq .mul (.int kk m) (.int kk n)=some (.int kk (kk.wrap (m*n))):=by simp [wq]
theorem ku:wq .eql (.int kk m) (.int kk n)=some (.bool (decide (m=n))):=by simp only [wq,if_true]; rfl
theorem wz:wq .neq (.int kk m) (.int kk n)=some (.bool (decide (m≠n))):=by
 simp only [wq,if_true]
 by_cases h:m=n
 ·subst h; simp
 ·simp [h,bne]
theorem qch:wq .lss (.int kk m) (.int kk n)=some (.bool (decide (m<n))):=by simp [wq]
theorem qhn:wq .leq (.int kk m) (.int kk n)=some (.bool (decide (m≤n))):=by simp [wq]
theorem ww:wq .gtr (.int kk m) (.int kk n)=some (.bool (decide (n<m))):=by simp [wq]
theorem qga:wq .geq (.int kk m) (.int kk n)=some (.bool (decide (n≤m))):=by simp [wq]
theorem kq {t:Bool} : xun .not (.bool t)=some (.bool !t):=(rfl)
theorem zo {x y:XV} : ql1 (.bool true) x y=some x:=(rfl)
theorem zn {x y:XV} : ql1 (.bool false) x y=some y:=(rfl)
end

theorem qdo {d:Nat}{v:XV}(t:Nat) : (fr.put (some d) v) t=if t=d then v else fr t:=(rfl)
theorem qk4 {n:Nat} : XO.ev fr (.t n)=fr n:=(rfl)
theorem zdg {v:XV} : XO.ev fr (.c v)=v:=(rfl)
theorem qoq {keep:List Nat}(I:Nat→Fr→Heap→Prop){m:Nat}(h0:I m fr h)
  (step:∀ m fr h,I m fr h→Run E W [.code a] (fun e fr' h'=>match e with | .normal=>∃ m',m'<m∧I m' fr' h' | e=>wc E W k Q e fr' h') (kv keep fr) h) :
  Run E W (.code (.loop keep a)::k) Q fr h:=by
 have key:∀ (n m:Nat) (fr:Fr) (h:Heap),m≤n→I m fr h→rounds (fun Q fr h=>WC E W a Q fr h) keep (wc E W k Q) (n+1) fr h:=by
  intro n
  induction n with
  | zero =>
   intro m fr h hm hI
   refine WC.mono a (fun e fr' h' hq=>?_) (step m fr h hI)
   cases e with
   | normal=>obtain ⟨m',h1,_⟩:=hq; omega
   | ret=>exact hq
   | exit id=>exact hq
  | succ n ih =>
   intro m fr h hm hI
   refine WC.mono a (fun e fr' h' hq=>?_) (step m fr h hI)
   cases e with
   | normal=>obtain ⟨m',h1,h2⟩:=hq; exact ih m' fr' h' (by omega) h2
   | ret=>exact hq
   | exit id=>exact hq
 exact ⟨m+1,key m m fr h (Nat.le_refl _) h0⟩
end
end Go.Proofs.Ytanblnjomhgphaa.X
