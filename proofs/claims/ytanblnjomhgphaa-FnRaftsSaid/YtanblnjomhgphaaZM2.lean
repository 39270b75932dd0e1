/- A machine of this claim's own, sound for the model's, and plain theory over it: no condition (2). -/
import Derived.Test.YtanblnjomhgphaaZM1
import Derived.Orders
import Derived.LoopN
import Derived.SizedLaws
import Derived.ChangeOld
import Derived.Below
import Derived.Carry
import Derived.WideShapes
import Derived.Test.YtanblnjomhgphaaChecked
open Array renaming getD_eq_getD_getElem?→a1l,getElem?_eq_getElem→a09,getElem?_eq_some_iff→a07,getElem?_setIfInBounds→a22,length_toList→a3x
open Bool renaming and_eq_true→a0s,false_eq_true→a06,not_eq_true'→a1x,or_eq_true→a03
open List renaming all_append→a2l,all_cons→a26,all_eq_true→a0x,getElem?_append_left→a0a,getElem?_append_right→a0i,getElem?_cons_succ→a1w,getElem?_cons_zero→a1k,getElem?_drop→a1j,getElem?_eq_getElem→s8,getElem?_eq_none→a00,getElem?_eq_some_iff→r9,getElem?_set→a2n,mapM_cons→a29,map_congr_left→a31,map_cons→a3q,mem_append_left→a2s,mem_append→a0w,mem_cons→a13,mem_of_find?_eq_some→a3v,mem_of_getElem?→a0o,range→a2z
open Nat renaming le_refl→a0d,le_trans→a1q,lt_of_lt_of_le→a1a,lt_or_ge→a0z,zero_add→o8,zero_le→a12
open Option renaming bind_some→a1n,getD_some→a0r
set_option linter.unusedVariables false
set_option linter.unusedSimpArgs false
namespace Go.Proofs.Ytanblnjomhgphaa.X
open Go

def qha (nt:Nat) : Option Tmp→Bool
 | none=>true
 | some d=>decide (d<nt)

def qbb (nt:Nat)(ops:List Oper) : Option (Nat × Bool)→Option (Option (Nat × Bool))
 | none=>some none
 | some (j,want)=>match ops[j]? with
  | some o=>match o.dst with
   | some d=>if d<nt then some (some (d,want)) else none
   | none=>none
  | none=>none

def qet (T:Tab)(nt:Nat)(ops:List Oper)(cls:Nat)(o:Oper) : Option XOper :=
 match jk T o.op,qbb nt ops o.guard with
 | some x,some g=>if qha nt o.dst=true then some ⟨o.dst,x,g,cls⟩ else none
 | _,_=>none

def qgq (T:Tab)(nt:Nat)(ops:List Oper) : List Nat→List Oper→Option (List XOper)
 | _,[]=>some []
 | cls,o::r=>match qet T nt ops (cls.headD 0) o,qgq T nt ops cls.tail r with
  | some a,some b=>some (a::b)
  | _,_=>none

section
variable {P:Program}{T:Tab}{sz:TypeId→Nat}{φ φ' φ'':Phi}{L:Nat}{W:Nat→Bool}{w w' w'':World}{h h' h'':Heap}{v:XV}{nt:Nat}{fr fr' fr'':Fr}{a a' a'':Act}

structure FRel (sz:TypeId→Nat) (φ:Phi) (L:Nat) (w:World) (nt:Nat) (fr:Fr) (a:Act) : Prop where
 vals:∀ t,VRel sz φ L w (fr t) (a.tmps.getD t undef)
 size:nt≤a.tmps.size
 defers:a.defers=[]

theorem FRel.ext (H:Ext L W φ φ' w w')(hW:∀ b,W b=true→L≤b)(F:FRel sz φ L w nt fr a) : FRel sz φ' L w' nt fr a :=
 ⟨fun t=>(F.vals t).ext H hW,F.size,F.defers⟩

theorem FRel.put (F:FRel sz φ L w nt fr a){d:Option Tmp}(hd:qha nt d=true){cv:Value}(hv:VRel sz φ L w v cv) : FRel sz φ L w nt (fr.put d v) (a.put d cv):=by
 cases d with
 | none=>exact F
 | some d =>
  have hd':d<a.tmps.size:=a1a (of_decide_eq_true hd) F.size
  refine ⟨fun t=>?_,by simpa [Act.put] using F.size,F.defers⟩
  by_cases ht:t=d
  ·subst ht
   simp [Fr.put,Act.put,a1l,hd']
   exact hv
  ·have hne:¬ d=t:=fun e=>ht e.symm
   have:=F.vals t
   simp only [Fr.put,Act.put,if_neg ht,a1l,a22,if_neg hne] at this ⊢
   exact this

theorem FRel.eval (F:FRel sz φ L w nt fr a) : EvRel sz φ L w (XO.ev fr) a.eval:=by
 intro x b e
 cases x with
 | tmp t=>simp only [kp] at e; cases e; exact F.vals t
 | const c =>
  simp only [kp] at e
  cases hc:u0 c with
  | none=>rw [hc] at e; cases e
  | some u=>rw [hc] at e; cases e; exact VRel.const hc
 | global g=>simp only [kp] at e; cases e
 | func f=>simp only [kp] at e; cases e; exact .fn f [] #[] rfl (fun i a b h1 h2=>by simp at h1)

structure SimC (sz:TypeId→Nat) (φ:Phi) (L:Nat) (W:Nat→Bool) (h:Heap) (w:World) (nt:Nat) (fr':Fr) (h':Heap) (φ':Phi) (a':Act) (w':World) : Prop where
 ext:Ext L W φ φ' w w'
 rel:Rel sz φ' L h' w'
 frame:FRel sz φ' L w' nt fr' a'
 born:∀ b,φ' b ≠ .none→φ b ≠ .none∨h.length≤b
 hold:∀ b,b<h.length→(φ b = .none∨W b=false)→h'[b]? = h[b]?
 grow:h.length≤h'.length

theorem SimC.refl (R:Rel sz φ L h w)(F:FRel sz φ L w nt fr a) : SimC sz φ L W h w nt fr h φ a w :=
 ⟨Ext.refl _ _ _ _,R,F,fun _ e => .inl e,fun _ _ _=>rfl,a0d _⟩

theorem SimC.trans (S:SimC sz φ L W h w nt fr' h' φ' a' w')(S2:SimC sz φ' L W h' w' nt fr'' h'' φ'' a'' w'') : SimC sz φ L W h w nt fr'' h'' φ'' a'' w'' :=
 ⟨S.ext.trans S2.ext,S2.rel,S2.frame,fun b e=>by
  rcases S2.born b e with h1 | h1
  ·exact S.born b h1
  ·exact .inr (a1q S.grow h1),fun b hb e=>by
   rw [S2.hold b (a1a hb S.grow) ?_,S.hold b hb e]
   rcases e with e | e
   ·left
    cases hφ:φ' b with
    | none=>rfl
    | _ =>
     exfalso
     rcases S.born b (by rw [hφ]; exact fun e=>by cases e) with h1 | h1
     ·exact h1 e
     ·omega
   ·exact .inr e,a1q S.grow S2.grow⟩

theorem Sim.toC {cv:Value}(S:Sim sz φ L W h w v h' φ' w' cv)(hW:∀ b,W b=true→L≤b)(F:FRel sz φ L w nt fr a){d:Option Tmp}(hd:qha nt d=true) : SimC sz φ L W h w nt (fr.put d v) h' φ' (a.put d cv) w' :=
 ⟨S.ext,S.rel,(F.ext S.ext hW).put hd S.val,S.born,S.hold,S.grow⟩

theorem qp6 {op:Op}{f:XO}{args:List XO}(hc:jk T op=some (.call f args)) : ∃ c,op = .call c∧qbh T c=some (.call f args):=by
 have key:∀ {α:Type} (x:Option α) (g:α→XOp),(∀ y,g y ≠ .call f args)→x.map g≠some (.call f args):=by
  intro α x g hg e
  cases x with
  | none=>cases e
  | some y=>exact hg y (by simpa using e)
 cases op with
 | call c=>exact ⟨c,rfl,hc⟩
 | move x=>exact absurd hc (key _ _ (fun _ e=>by cases e))
 | assign x=>exact absurd hc (key _ _ (fun _ e=>by cases e))
 | nilCheck x=>exact absurd hc (key _ _ (fun _ e=>by cases e))
 | unOp op xt x=>exact absurd hc (key _ _ (fun _ e=>by cases e))
 | extract x i=>exact absurd hc (key _ _ (fun _ e=>by cases e))
 | makeFunc fn first caps =>
  exfalso
  cases fn with
  | func g =>
   simp only [jk] at hc
   split at hc
   ·exact key _ _ (fun _ e=>by cases e) hc
   ·cases hc
  | _=>simp only [jk] at hc; cases hc
 | _=>exfalso; simp only [jk] at hc; (repeat' split at hc) <;> cases hc

theorem qlb {E:Env}{C:CallF}(hsz:E.sz=sz)(HC:CallOk P sz C)(HT:∀ t ti,T t=some ti→TOk P T sz t ti)(R:Rel sz φ L h w)(hW:∀ b,W b=true→L≤b){ev:XO→XV}(hev:EvRel sz φ L w ev a.eval){o:Oper}{xo:XOp}(hc:jk T o.op=some xo)
  (hx:xop E C W ev h xo=some (v,h')) {K:Act→World→Prop} {Q:Go.Exit→Act→World→Prop} (hK:∀ φ' w' cv,Sim sz φ L W h w v h' φ' w' cv→K (a.put o.dst cv) w') : o.wp P a w K Q:=by
 have pure:∀ (hp:ze W ev h xo=some (v,h')),o.wp P a w K Q:=by
  intro hp
  obtain ⟨φ',w',cv,h1,h2⟩:=q2c HT R hW hev hc hp
  unfold Oper.wp
  rcases h1 with h1 | ⟨h1,rfl⟩
  ·rw [h1,Oper.upon_value]
   exact hK _ _ _ h2
  ·rw [h1,Oper.upon_skip]
   exact hK _ _ _ h2
 cases xo with
 | call f args =>
  have hx':qgb E C W (ev f) (args.map ev) h=some (v,h'):=hx
  obtain ⟨c,ho,hc'⟩:=qp6 hc
  unfold qbh at hc'
  cases hb:c.callee with
  | value g =>
   rw [hb] at hc'
   dsimp only at hc'
   split at hc'
   ·rename_i g' args' hg hargs
    cases hc'
    obtain ⟨fid,caps,e1,⟨fn,f1,f2,f3⟩,hcalls⟩:=qqa hsz HC R hW (hev g _ hg) (qmn hev hargs) hx'
    unfold Oper.wp
    rw [qp0 ho hb e1 f1 f2 f3,Oper.upon_enter]
    have e2:(List.map a.eval c.args.toList).toArray=c.args.map a.eval:=by rw [←Array.toList_map]
    rw [e2] at hcalls
    refine hcalls.mono ?_
    rintro e w' ⟨cv,φ',rfl,S⟩
    exact hK _ _ _ S
   ·cases hc'
  | builtin b =>
   rw [hb] at hc'
   dsimp only at hc'
   (repeat' split at hc') <;> cases hc'
  | invoke r m =>
   rw [hb] at hc'
   cases hc'
 | _=>exact pure hx

theorem qks {o:Oper}(ho:o.guard=none)(y:Nat→Option Bool) : Region.wanted o y=true:=by
 unfold Region.wanted
 rw [ho]

theorem qp4 {ops:Array Oper}{o:Oper}{j d:Nat}{want b:Bool}(ho:o.guard=some (j,want)){oj:Oper}(hj:ops[j]? = some oj)(hd:oj.dst=some d)(F:FRel sz φ L w nt fr a)(hdn:d<nt)(hb:fr d = .bool b) :
  Region.wanted o (yielded ops a.tmps)=(b == want):=by
 unfold Region.wanted yielded
 rw [ho]
 have hlt:d<a.tmps.size:=by have:=F.size; omega
 have hv:=F.vals d
 rw [hb,a1l,a09 hlt] at hv
 simp only [a0r] at hv
 simp only [hj,a1n,hd,a09 hlt]
 generalize a.tmps[d]=u at hv
 cases hv
 cases b <;> cases want <;> rfl

theorem qif:VRel sz φ L w (.tup []) undef := .tup [] #[] rfl (fun i v cv h=>by simp at h)

theorem qlz {ops:Array Oper}{o:Oper}{j d:Nat}{want:Bool}{vs:List XV}(ho:o.guard=some (j,want)){oj:Oper}(hj:ops[j]? = some oj)(hd:oj.dst=some d)(hlt:d<a.tmps.size)(hv:VRel sz φ L w (.tup vs) (a.tmps.getD d undef)) :
  Region.wanted o (yielded ops a.tmps)=false:=by
 unfold Region.wanted yielded
 rw [ho]
 rw [a1l,a09 hlt] at hv
 simp only [a0r] at hv
 simp only [hj,a1n,hd,a09 hlt]
 generalize a.tmps[d]=u at hv
 cases hv
 rfl

theorem q2b {E:Env}{C:CallF}(hsz:E.sz=sz)(HC:CallOk P sz C)(HT:∀ t ti,T t=some ti→TOk P T sz t ti)(hW:∀ b,W b=true→L≤b){ops:Array Oper}{Q:Go.Exit→Act→World→Prop} :
  ∀ (l:List Oper) (k:Nat) (xs:List XOper) (cls:List Nat),(∀ i,l[i]? = ops[k+i]?)→qgq T nt ops.toList cls l=some xs→∀ {φ:Phi} {h:Heap} {w:World} {fr:Fr} {a:Act},Rel sz φ L h w→FRel sz φ L w nt fr a→qex E C W xs fr h=some (fr',h') →
   (∀ φ' a' w',SimC sz φ L W h w nt fr' h' φ' a' w'→Q .normal a' w')→wpOps P ops Q (List.range' k l.length) a w:=by
 intro l
 induction l with
 | nil =>
  intro k xs cls hl hc φ h w fr a R F hx hQ
  simp only [qgq] at hc
  cases hc
  simp only [qex] at hx
  cases hx
  simp only [List.length_nil,List.range'_zero,wpOps]
  exact hQ _ _ _ (SimC.refl R F)
 | cons o r ih =>
  intro k xs cls hl hc φ h w fr a R F hx hQ
  simp only [qgq] at hc
  split at hc
  ·rename_i x xr hx0 hxr
   cases hc
   have hok:ops[k]? = some o:=by have:=hl 0; simpa using this.symm
   have hr:∀ i,r[i]? = ops[k+1+i]? := fun i=>by have:=hl (i+1); rw [a1w] at this; rw [this]; congr 1; omega
   unfold qet at hx0
   split at hx0
   ·rename_i xo g hxo hg
    split at hx0
    ·rename_i hd
     cases hx0
     rw [List.length_cons,List.range'_succ]
     simp only [wpOps,hok]
     simp only [qex] at hx
     have goes:∀ (hw:Region.wanted o (yielded ops a.tmps)=true) {u:XV} {h1:Heap},xop E C W (XO.ev fr) h xo=some (u,h1)→qex E C W xr (fr.put o.dst u) h1=some (fr',h')→(if Region.wanted o (yielded ops a.tmps)=true then o.wp P a w (wpOps P ops Q (List.range' (k+1) r.length)) Q∨(o.asks P a w∧LetsOut Q) else wpOps P ops Q (List.range' (k+1) r.length) (a.put o.dst undef) w):=by
      intro hw u h1 e1 e2
      rw [if_pos hw]
      left
      refine qlb hsz HC HT R hW F.eval hxo e1 (fun φ1 w1 cv S=>?_)
      have SC:=S.toC hW F hd
      exact ih (k+1) xr _ hr hxr SC.rel SC.frame e2 (fun φ' a' w' S2=>hQ _ _ _ (SC.trans S2))
     cases hgd:o.guard with
     | none =>
      rw [hgd] at hg
      simp only [qbb] at hg
      cases hg
      dsimp only at hx
      split at hx
      ·rename_i u h1 e1
       exact goes (qks hgd _) e1 hx
      ·cases hx
     | some gj =>
      obtain ⟨j,want⟩:=gj
      rw [hgd] at hg
      simp only [qbb] at hg
      split at hg
      ·rename_i oj hoj
       split at hg
       ·rename_i d hdj
        split at hg
        case isFalse=>cases hg
        rename_i hdn
        cases hg
        dsimp only at hx
        have hoj':ops[j]? = some oj:=by simpa using hoj
        split at hx
        ·rename_i b hb
         have hwq:=qp4 (ops:=ops) hgd hoj' hdj F hdn hb
         split at hx
         ·rename_i hbw
          subst hbw
          split at hx
          ·rename_i u h1 e1
           exact goes (by rw [hwq]; simp) e1 hx
          ·cases hx
         ·rename_i hbw
          rw [if_neg (by rw [hwq]; simpa using hbw)]
          have F2:FRel sz φ L w nt (fr.put o.dst (.tup [])) (a.put o.dst undef):=F.put hd qif
          exact ih (k+1) xr _ hr hxr R F2 hx (fun φ' a' w' S2=>hQ _ _ _ ⟨S2.ext,S2.rel,S2.frame,S2.born,S2.hold,S2.grow⟩)
        ·rename_i vs hb
         rw [if_neg (by rw [qlz (ops:=ops) hgd hoj' hdj (a1a hdn F.size) (by rw [←hb]; exact F.vals d)]; simp)]
         have F2:FRel sz φ L w nt (fr.put o.dst (.tup [])) (a.put o.dst undef):=F.put hd qif
         exact ih (k+1) xr _ hr hxr R F2 hx (fun φ' a' w' S2=>hQ _ _ _ ⟨S2.ext,S2.rel,S2.frame,S2.born,S2.hold,S2.grow⟩)
        ·cases hx
       ·cases hg
      ·cases hg
    ·cases hx0
   ·cases hx0
  ·cases hc
end
end Go.Proofs.Ytanblnjomhgphaa.X
namespace Go.Proofs.Ytanblnjomhgphaa.X
open Go

structure XKeep (W:Nat→Bool) (h h':Heap) : Prop where
 len:h.length≤h'.length
 same:∀ b,b<h.length→W b=false→h'[b]? = h[b]?
 ty:∀ b,b<h.length→(h'[b]?).map Blk.ty=(h[b]?).map Blk.ty

section
variable {W W':Nat→Bool}{h h' h'':Heap}{ev ev':XO→XV}{v:XV}{xo:XOp}

theorem XKeep.refl (W:Nat→Bool)(h:Heap) : XKeep W h h:=⟨a0d _,fun _ _ _=>rfl,fun _ _=>rfl⟩
theorem XKeep.trans (A:XKeep W h h')(B:XKeep W h' h'') : XKeep W h h'' :=
 ⟨a1q A.len B.len,fun b hb hw=>by rw [B.same b (a1a hb A.len) hw,A.same b hb hw],fun b hb=>by rw [B.ty b (a1a hb A.len),A.ty b hb]⟩
theorem XKeep.mono (A:XKeep W h h')(hW:∀ b,b<h.length→W b=true→W' b=true) : XKeep W' h h' :=
 ⟨A.len,fun b hb hw=>A.same b hb (by cases hb2:W b with | false=>rfl | true=>rw [hW b hb hb2] at hw; cases hw),A.ty⟩
theorem XKeep.app (W:Nat→Bool)(h k:Heap) : XKeep W h (h++k) :=
 ⟨by simp,fun b hb _=>by rw [a0a hb],fun b hb=>by rw [a0a hb]⟩

theorem XKeep.setCells {b o:Nat}{vs:List XV}(e:setCells W h b o vs=some h') : XKeep W h h':=by
 unfold X.setCells at e
 split at e
 ·rename_i k hk
  split at e
  ·rename_i hc
   cases e
   have hb:h[b]? = some k:=by
    unfold z9 at hk
    split at hk
    ·split at hk
     ·cases hk; assumption
     ·cases hk
    ·cases hk
   refine ⟨by simp,fun b' hb' hw=>?_,fun b' hb'=>?_⟩
   ·rw [a2n,if_neg]
    rintro rfl
    rw [hc.1] at hw
    cases hw
   ·rw [a2n]
    split
    ·rename_i e; subst e
     rw [if_pos hb',hb]
     rfl
    ·rfl
  ·cases e
 ·cases e

theorem XKeep.kill {b:Nat}(hw:W b=true)(h:Heap) : XKeep W h (kill h b):=by
 refine ⟨by rw [ye]; exact a0d _,fun b' hb' hw'=>?_,fun b' hb'=>?_⟩
 ·rw [qbn,if_neg]
  intro e
  rw [e,hw] at hw'
  cases hw'
 ·rw [qbn]
  split
  ·cases h[b']? <;> rfl
  ·rfl

theorem qge (hs:xo.still=true)(ht:xo.takes=false)(hx:ze W ev h xo=some (v,h')) : h'=h:=by
 cases xo <;> first | (simp [XOp.still] at hs; done) | (simp [XOp.takes] at ht; done) | skip
 case ld n a=>cases n <;> (simp only [ze] at hx; (repeat' split at hx) <;> first | (cases hx; done) | (cases hx; rfl))
 all_goals (simp only [ze] at hx; (repeat' split at hx) <;> first | (cases hx; done) | (cases hx; rfl))

theorem qij (ht:xo.takes=true)(hx:ze W ev h xo=some (v,h')) : ∃ k,h'=h++[k]:=by
 cases xo <;> first | (simp [XOp.takes] at ht; done) | skip
 all_goals (simp only [ze] at hx; (repeat' split at hx) <;> first | (cases hx; done) | (cases hx; exact ⟨_,rfl⟩))

theorem qjk (hx:ze W ev h xo=some (v,h')) : XKeep W h h':=by
 cases hs:xo.still with
 | true =>
  cases ht:xo.takes with
  | true =>
   obtain ⟨k,rfl⟩:=qij ht hx
   exact XKeep.app _ _ _
  | false =>
   rw [qge hs ht hx]
   exact XKeep.refl _ _
 | false =>
  cases xo <;> first | (simp [XOp.still] at hs; done) | skip
  case st n a x =>
   simp only [ze] at hx
   (repeat' split at hx) <;> first | (cases hx; done) | skip
   rename_i e
   cases hx
   exact XKeep.setCells e
  case app ty esz bytes s x =>
   simp only [ze] at hx
   (repeat' split at hx) <;> first | (cases hx; done) | skip
   ·cases hx; exact XKeep.refl _ _
   ·cases hx; exact XKeep.app _ _ _
   ·rename_i e
    cases hx; exact XKeep.setCells e
   ·rename_i hc
    cases hx
    exact (XKeep.kill hc.1 h).trans (XKeep.app _ _ _)
  case cpy ty esz d s =>
   simp only [ze] at hx
   (repeat' split at hx) <;> first | (cases hx; done) | skip
   ·cases hx; exact XKeep.refl _ _
   ·rename_i e
    cases hx; exact XKeep.setCells e
  case clr ty zero x =>
   simp only [ze] at hx
   (repeat' split at hx) <;> first | (cases hx; done) | skip
   ·cases hx; exact XKeep.refl _ _
   ·cases hx; exact XKeep.refl _ _
   ·rename_i e
    cases hx; exact XKeep.setCells e
  case call f args =>
   simp only [ze] at hx
   cases hx

def CallKeeps (C:CallF) : Prop:=∀ W f args h v h',C W f args h=some (v,h')→XKeep W h h'

theorem qpf {E:Env}{C:CallF}(HK:CallKeeps C){f:XV}{args:List XV}(hx:qgb E C W f args h=some (v,h')) : XKeep W h h':=by
 unfold qgb at hx
 split at hx
 ·split at hx
  ·(repeat' split at hx) <;> first | (cases hx; done) | skip
   cases hx
   exact XKeep.refl _ _
  ·split at hx
   ·split at hx
    ·rename_i u h1 hcall
     split at hx
     ·cases hx
      have K:=HK _ _ _ _ _ _ hcall
      refine ⟨by rw [qdy]; exact K.len,fun b hb _=>?_,fun b hb=>?_⟩
      ·rw [qdz hb]
       exact K.same b hb (by simpa using hb)
      ·rw [qdz hb]
       exact K.ty b hb
     ·cases hx
    ·cases hx
   ·cases hx
  ·(repeat' split at hx) <;> first | (cases hx; done) | skip
   cases hx
   exact XKeep.refl _ _
  ·exact HK _ _ _ _ _ _ hx
 ·cases hx

theorem qez {E:Env}{C:CallF}(HK:CallKeeps C)(hx:xop E C W ev h xo=some (v,h')) : XKeep W h h':=by
 cases xo
 case call f args=>exact qpf HK (by exact hx)
 all_goals (simp only [xop] at hx; exact qjk hx)

theorem qm0 (hs:xo.still=true)(ht:xo.takes=false)(hx:ze W ev h xo=some (v,h')){G:Heap}(hr:∀ b∈kh ev xo,G[b]? = h[b]?)(hty:∀ b,b<h.length→(G[b]?).map Blk.ty=(h[b]?).map Blk.ty) : ze W' ev G xo=some (v,G):=by
 have hh:=qge hs ht hx
 subst hh
 cases xo <;> first | (simp [XOp.still] at hs; done) | (simp [XOp.takes] at ht; done) | skip
 case ld n a =>
  simp only [kh] at hr
  cases n with
  | none =>
   simp only [ze] at hx ⊢
   cases hea:ev a <;> rw [hea] at hx hr <;> dsimp only at hx hr ⊢ <;> first | (cases hx; done) | skip
   ·(repeat' split at hx) <;> first | (cases hx; done) | (cases hx; simp [*]; done)
   ·unfold qal z9 at hx ⊢
    rw [hr _ (by simp)]
    (repeat' split at hx) <;> first | (cases hx; done) | (cases hx; rfl)
  | some n =>
   simp only [ze] at hx ⊢
   cases hea:ev a <;> rw [hea] at hx hr <;> dsimp only at hx hr ⊢ <;> first | (cases hx; done) | skip
   ·(repeat' split at hx) <;> first | (cases hx; done) | (cases hx; simp [*]; done)
   ·unfold kw z9 at hx ⊢
    rw [hr _ (by simp)]
    (repeat' split at hx) <;> first | (cases hx; done) | (cases hx; rfl)
 case slc ty esz x lo hi mx =>
  simp only [ze] at hx ⊢
  split at hx
  ·rename_i l e m hl he hm
   split at hx
   ·rename_i u hu
    cases hx
    have:yy G ty esz (ev x) l e m=some v:=by
     unfold yy at hu ⊢
     cases hea:ev x <;> rw [hea] at hu <;> dsimp only at hu ⊢ <;> first | (cases hu; done) | exact hu | skip
     rename_i b off len cap
     split at hu
     ·rename_i hc
      have hb:b<h'.length:=by
       rcases a0z b h'.length with hlt | hge
       ·exact hlt
       ·have:=hc.2.2.2.2
        rw [a00 hge] at this
        cases this
      rw [if_pos ⟨hc.1,hc.2.1,hc.2.2.1,hc.2.2.2.1,by rw [hty b hb]; exact hc.2.2.2.2⟩]
      exact hu
     ·cases hu
    rw [this]
   ·cases hx
  ·cases hx
 all_goals (simp only [ze] at hx ⊢; (repeat' split at hx) <;> first | (cases hx; done) | (cases hx; rfl) | (cases hx; simp [*]; done))

def XO.tmps:XO→List Nat
 | .t n=>[n]
 | .c _=>[]
def XOp.xos:XOp→List XO
 | .mv x=>[x]
 | .chk x=>[x]
 | .pick c a b=>[c,a,b]
 | .box _ _ x=>[x]
 | .new _ _=>[]
 | .build _ parts=>parts.map fun p=>p.2.2
 | .buildS _ _ _ parts=>parts.map fun p=>p.2.2
 | .ld _ a=>[a]
 | .st _ a v=>[a,v]
 | .fa _ a=>[a]
 | .ia _ x i=>[x,i]
 | .iaA _ _ x i=>[x,i]
 | .sidx x i=>[x,i]
 | .bin _ x y=>[x,y]
 | .eqb _ x y=>[x,y]
 | .eqs _ _ x y=>[x,y]
 | .un _ x=>[x]
 | .cvt _ x=>[x]
 | .mkS _ _ _ _ l c=>[l,c]
 | .slc _ _ x lo hi mx=>x::(lo.toList++hi.toList++mx.toList)
 | .ext x _=>[x]
 | .mkF _ caps=>caps
 | .len x=>[x]
 | .lens x=>[x]
 | .app _ _ _ s x=>[s,x]
 | .cpy _ _ d s=>[d,s]
 | .clr _ _ x=>[x]
 | .mnx _ xs=>xs
 | .call f args=>f::args
def XOper.looks (o:XOper) : List Nat:=(o.op.xos.flatMap XO.tmps)++(match o.guard with | some (g,_)=>[g] | none=>[])

theorem qm2 {lo:Option XO}(he:∀ x∈lo.toList,ev x=ev' x) : lo.map ev=lo.map ev':=by
 cases lo with
 | none=>rfl
 | some x=>simp [he x (by simp)]

theorem qkq {parts:List (Nat × Nat × XO)}(he:∀ x∈parts.map (fun p=>p.2.2),ev x=ev' x) : parts.map (fun p=>(p.1,p.2.1,ev p.2.2))=parts.map (fun p=>(p.1,p.2.1,ev' p.2.2)) :=
 a31 fun p hp=>by rw [he p.2.2 (List.mem_map.2 ⟨p,hp,rfl⟩)]

theorem qj5 {E:Env}{C:CallF}(he:∀ x∈xo.xos,ev x=ev' x) : xop E C W ev h xo=xop E C W ev' h xo∧kh ev xo=kh ev' xo∧wt E ev xo=wt E ev' xo∧ze W ev h xo=ze W ev' h xo:=by
 cases xo
 case build zero parts =>
  simp only [XOp.xos] at he
  simp only [xop,ze,kh,wt,qkq he,and_self]
 case buildS ty len zero parts =>
  simp only [XOp.xos] at he
  simp only [xop,ze,kh,wt,qkq he,and_self]
 case ld n a =>
  simp only [XOp.xos] at he
  have h1:=he a (by simp)
  cases n <;> simp only [xop,ze,kh,wt,h1,and_self]
 case slc ty esz x lo hi mx =>
  simp only [XOp.xos] at he
  have h1:=he x (by simp)
  have h2:=qm2 (lo:=lo) (ev:=ev) (ev':=ev') (fun x hx=>he x (by simp only [a13,a0w]; exact .inr (.inl (.inl hx))))
  have h3:=qm2 (lo:=hi) (ev:=ev) (ev':=ev') (fun x hx=>he x (by simp only [a13,a0w]; exact .inr (.inl (.inr hx))))
  have h4:=qm2 (lo:=mx) (ev:=ev) (ev':=ev') (fun x hx=>he x (by simp only [a13,a0w]; exact .inr (.inr hx)))
  simp only [xop,ze,kh,wt,h1,h2,h3,h4,and_self]
 case mkF f caps =>
  simp only [XOp.xos] at he
  simp only [xop,ze,kh,wt,a31 he,and_self]
 case mnx mx xs =>
  simp only [XOp.xos] at he
  simp only [xop,ze,kh,wt,a31 he,and_self]
 case call f args =>
  simp only [XOp.xos] at he
  have h1:=he f (by simp)
  have h2:args.map ev=args.map ev':=a31 fun x hx=>he x (by simp [hx])
  simp only [xop,ze,kh,wt,h1,h2,and_self]
 all_goals (simp only [XOp.xos,a13,List.not_mem_nil,or_false,forall_eq_or_imp,forall_eq,false_implies,implies_true] at he; simp only [xop,ze,kh,wt,he,and_self])
end
end Go.Proofs.Ytanblnjomhgphaa.X
namespace Go.Proofs.Ytanblnjomhgphaa.X
open Go

def XOper.chain (x:XOper) : Bool:=x.cls == 2||x.cls == 3||x.cls == 5
def XOper.ok (x:XOper) : Bool:=x.chain||((x.cls == 1||x.cls == 4)&&x.op.still)
def XOp.isLd:XOp→Bool
 | .ld _ _=>true
 | _=>false
def XOper.need (a b:XOper) : Bool :=
 (a.chain&&b.chain)||(a.cls == 3&&b.cls == 1&&b.op.isLd)||(a.cls == 1&&a.op.isLd&&b.cls == 3) ||
 (a.cls == 4&&b.chain)||(a.chain&&b.cls == 4)||(a.chain&&b.op.takes) ||
 (match a.dst with
  | some d=>b.looks.contains d||b.dst == some d
  | none=>false) ||
 (match b.dst with
  | some d=>a.looks.contains d
  | none=>false)

def u4 (ms:List Nat) : List Nat→List XOper→Bool
 | i::r,x::xs=>x.ok && !r.contains i&&(r.zip xs).all (fun p => !x.need p.2||(ms.getD p.1 0).testBit i)&&u4 ms r xs
 | [],[]=>true
 | _,_=>false

def qh1 (ms:List Nat) : List Edge→Nat
 | []=>0
 | e::r=>if Region.binds .any e then (2 ^ e.on ||| ms.getD e.on 0) ||| qh1 ms r else qh1 ms r

def qf5 (ms:List Nat) : Nat→List Oper→Bool
 | _,[]=>true
 | i,o::r=>o.after.toList.all (fun e => !Region.binds .any e||decide (e.on<i))&&(ms.getD i 0 == qh1 ms o.after.toList)&&qf5 ms (i+1) r

def qoy (ops:List Oper)(ms perm:List Nat)(xs:List XOper) : Bool :=
 qf5 ms 0 ops&&(a2z ops.length).all (fun i=>perm.contains i)&&perm.all (fun i=>decide (i<ops.length))&&u4 ms perm xs

section
variable {ms perm:List Nat}{xs:List XOper}

theorem qim:∀ {perm:List Nat} {xs:List XOper},u4 ms perm xs=true→perm.length=xs.length:=by
 intro perm
 induction perm with
 | nil=>intro xs e; cases xs <;> simp [u4] at e ⊢
 | cons i r ih =>
  intro xs e
  cases xs with
  | nil=>simp [u4] at e
  | cons x xs =>
   simp only [u4,a0s] at e
   simp [ih e.2]

theorem qg7:∀ {perm:List Nat} {xs:List XOper},u4 ms perm xs=true→∀ {p:Nat} {x:XOper},xs[p]? = some x→x.ok=true:=by
 intro perm
 induction perm with
 | nil=>intro xs e p x hx; cases xs <;> simp [u4] at e hx
 | cons i r ih =>
  intro xs e p x hx
  cases xs with
  | nil=>simp [u4] at e
  | cons y xs =>
   simp only [u4,a0s] at e
   cases p with
   | zero=>simp at hx; subst hx; exact e.1.1.1
   | succ p=>exact ih e.2 (by simpa using hx)

theorem qfk:∀ {perm:List Nat} {xs:List XOper},u4 ms perm xs=true→∀ {q p:Nat} {x y:XOper} {i j:Nat},q<p→xs[q]? = some x→xs[p]? = some y→perm[q]? = some i→perm[p]? = some j→i≠j∧(x.need y=true→(ms.getD j 0).testBit i=true):=by
 intro perm
 induction perm with
 | nil=>intro xs e q p x y i j _ _ _ hi; simp at hi
 | cons k r ih =>
  intro xs e q p x y i j hqp hx hy hi hj
  cases xs with
  | nil=>simp [u4] at e
  | cons z xs =>
   simp only [u4,a0s] at e
   obtain ⟨⟨⟨_,e2⟩,e3⟩,e4⟩:=e
   cases p with
   | zero=>omega
   | succ p =>
    simp only [a1w] at hy hj
    cases q with
    | zero =>
     simp only [a1k,Option.some.injEq] at hx hi
     subst hx
     subst hi
     refine ⟨?_,fun hn=>?_⟩
     ·rintro rfl
      simp [a0o hj] at e2
     ·rw [a0x] at e3
      have hm:(j,y)∈r.zip xs:=by
       refine a0o (i:=p) ?_
       rw [List.getElem?_zip_eq_some]
       exact ⟨hj,hy⟩
      have:=e3 _ hm
      simpa [hn] using this
    | succ q =>
     simp only [a1w] at hx hi
     exact ih e4 (by omega) hx hy hi hj

theorem qrs {ms:List Nat}{j:Nat} : ∀ {l:List Edge},(qh1 ms l).testBit j=true→∃ e∈l,Region.binds .any e=true∧(e.on=j∨(ms.getD e.on 0).testBit j=true):=by
 intro l
 induction l with
 | nil=>intro h; simp [qh1] at h
 | cons e r ih =>
  intro h
  simp only [qh1] at h
  split at h
  ·rename_i hb
   rw [Nat.testBit_or,Nat.testBit_or,a03,a03] at h
   rcases h with (h | h) | h
   ·refine ⟨e,by simp,hb,.inl ?_⟩
    rw [Nat.testBit_two_pow] at h
    simpa using h
   ·exact ⟨e,by simp,hb,.inr h⟩
   ·obtain ⟨e',h1,h2⟩:=ih h
    exact ⟨e',by simp [h1],h2⟩
  ·obtain ⟨e',h1,h2⟩:=ih h
   exact ⟨e',by simp [h1],h2⟩

theorem qma {ms:List Nat} : ∀ {l:List Oper} {k:Nat},qf5 ms k l=true→∀ {i:Nat} {o:Oper},l[i]? = some o→(∀ e∈o.after,Region.binds .any e=true→e.on<k+i)∧ms.getD (k+i) 0=qh1 ms o.after.toList:=by
 intro l
 induction l with
 | nil=>intro k _ i o ho; simp at ho
 | cons x r ih =>
  intro k e i o ho
  simp only [qf5,a0s,a0x,a03,a1x,decide_eq_true_eq,beq_iff_eq] at e
  cases i with
  | zero =>
   simp only [a1k,Option.some.injEq] at ho
   subst ho
   refine ⟨fun e' he hb=>?_,e.1.2⟩
   rcases e.1.1 e' (by simpa using he) with h1 | h1
   ·rw [h1] at hb; cases hb
   ·exact h1
  | succ i =>
   have:=ih e.2 (i:=i) (o:=o) (by simpa using ho)
   rw [show k+1+i=k+(i+1) by omega] at this
   exact this

def Closed (ops:Array Oper)(listed:Array Bool) : Prop:=∀ (i:Nat) o,listed.getD i false=true→ops[i]? = some o→∀ e∈o.after,Region.binds .any e=true→listed.getD e.on false=true

theorem qku {ops:Array Oper}{listed:Array Bool}(hm:qf5 ms 0 ops.toList=true)(hc:Closed ops listed) : ∀ (N i:Nat),i<N→∀ (o:Oper),ops[i]? = some o→(∀ e∈o.after,Region.binds .any e=true→listed.getD e.on false=true)→∀ j,(ms.getD i 0).testBit j=true→listed.getD j false=true:=by
 intro N
 induction N with
 | zero=>intro i hi; omega
 | succ N ih =>
  intro i hi o ho hr j hj
  have ho':ops.toList[i]? = some o:=by simpa using ho
  obtain ⟨h1,h2⟩:=qma hm ho'
  rw [o8] at h1 h2
  rw [h2] at hj
  obtain ⟨e,he,hb,h3⟩:=qrs hj
  have he':e∈o.after:=by simpa using he
  have hon:=hr e he' hb
  rcases h3 with rfl | h3
  ·exact hon
  ·have hlt:=h1 e he' hb
   have hil:i<ops.size:=(a07.1 ho).1
   have ho2:ops[e.on]? = some ops[e.on]:=a09 (by omega)
   exact ih e.on (by omega) _ ho2 (fun e2 he2 hb2=>hc e.on _ hon ho2 e2 he2 hb2) j h3
end

structure XStep (E:Env) (C:CallF) (W:Nat→Bool) (hs:Nat) (x:XOper) (fr fr':Fr) (h h':Heap) (ld ld' wr wr':List Nat) : Prop where
 go:(∃ g want b,x.guard=some (g,want)∧(fr g = .bool b∨∃ vs,fr g = .tup vs)∧(fr g = .bool b→b≠want)∧fr'=fr.put x.dst (.tup [])∧h'=h∧ld'=ld∧wr'=wr) ∨
  ((x.guard=none∨∃ g want,x.guard=some (g,want)∧fr g = .bool want)∧∃ v,qdq E C W hs x ld wr fr h=some (ld',wr',v,h')∧fr'=fr.put x.dst v)

def qmi {α:Type}(a:α)(f:Nat→α) : Nat→α
 | 0=>a
 | n+1=>f n

theorem qkp {E:Env}{C:CallF}{W:Nat→Bool}{hs:Nat} : ∀ {xs:List XOper} {ld wr:List Nat} {fr fr':Fr} {h h':Heap},qdi E C W hs xs ld wr fr h=some (fr',h') →
  ∃ (H:Nat→Heap) (F:Nat→Fr) (LD WR:Nat→List Nat),H 0=h∧F 0=fr∧LD 0=ld∧WR 0=wr∧H xs.length=h'∧F xs.length=fr' ∧
   ∀ p x,xs[p]? = some x→XStep E C W hs x (F p) (F (p+1)) (H p) (H (p+1)) (LD p) (LD (p+1)) (WR p) (WR (p+1)):=by
 intro xs
 induction xs with
 | nil =>
  intro ld wr fr fr' h h' e
  simp only [qdi] at e
  cases e
  exact ⟨fun _=>h,fun _=>fr,fun _=>ld,fun _=>wr,rfl,rfl,rfl,rfl,rfl,rfl,fun p x hx=>by simp at hx⟩
 | cons o r ih =>
  intro ld wr fr fr' h h' e
  have go:∀ {ld1 wr1:List Nat} {fr1:Fr} {h1:Heap},qdi E C W hs r ld1 wr1 fr1 h1=some (fr',h')→XStep E C W hs o fr fr1 h h1 ld ld1 wr wr1 →
    ∃ (H:Nat→Heap) (F:Nat→Fr) (LD WR:Nat→List Nat),H 0=h∧F 0=fr∧LD 0=ld∧WR 0=wr∧H (o::r).length=h'∧F (o::r).length=fr' ∧
     ∀ p x,(o::r)[p]? = some x→XStep E C W hs x (F p) (F (p+1)) (H p) (H (p+1)) (LD p) (LD (p+1)) (WR p) (WR (p+1)):=by
   intro ld1 wr1 fr1 h1 e1 S
   obtain ⟨H,F,LD,WR,rfl,rfl,rfl,rfl,e2,e3,e4⟩:=ih e1
   refine ⟨qmi h H,qmi fr F,qmi ld LD,qmi wr WR,rfl,rfl,rfl,rfl,e2,e3,fun p x hx=>?_⟩
   cases p with
   | zero=>simp at hx; subst hx; exact S
   | succ p=>exact e4 p x (by simpa using hx)
  simp only [qdi] at e
  cases hg:o.guard with
  | none =>
   rw [hg] at e
   dsimp only at e
   split at e
   ·rename_i ld1 wr1 v h1 e1
    exact go e ⟨.inr ⟨.inl hg,v,e1,rfl⟩⟩
   ·cases e
  | some gw =>
   obtain ⟨g,want⟩:=gw
   rw [hg] at e
   dsimp only at e
   split at e
   ·rename_i b hb
    split at e
    ·rename_i hbw
     subst hbw
     split at e
     ·rename_i ld1 wr1 v h1 e1
      exact go e ⟨.inr ⟨.inr ⟨g,b,hg,hb⟩,v,e1,rfl⟩⟩
     ·cases e
    ·rename_i hbw
     exact go e ⟨.inl ⟨g,want,b,hg,.inl hb,fun _=>hbw,rfl,rfl,rfl,rfl⟩⟩
   ·rename_i vs hb
    exact go e ⟨.inl ⟨g,want,true,hg,.inr ⟨vs,hb⟩,fun h=>(by rw [hb] at h; cases h),rfl,rfl,rfl,rfl⟩⟩
   ·cases e

section
variable {E:Env}{C:CallF}{W:Nat→Bool}{hs:Nat}{x:XOper}{fr fr':Fr}{h h':Heap}{ld ld' wr wr':List Nat}

theorem XStep.keep (HK:CallKeeps C)(S:XStep E C W hs x fr fr' h h' ld ld' wr wr') : XKeep W h h':=by
 rcases S.go with ⟨_,_,_,_,_,_,_,rfl,_⟩ | ⟨_,v,e,_⟩
 ·exact XKeep.refl _ _
 ·unfold qdq at e
  dsimp only at e
  split at e
  ·(repeat' split at e) <;> first | (cases e; done) | skip
   rename_i e1
   cases e
   exact (qjk e1).mono (fun _ _ e=>by cases e)
  ·split at e
   ·(repeat' split at e) <;> first | (cases e; done) | skip
    rename_i e1
    cases e
    exact (qjk e1).mono (fun _ _ e=>by cases e)
   ·split at e
    ·(repeat' split at e) <;> first | (cases e; done) | skip
     rename_i e1
     cases e
     exact (qez HK e1).mono (fun b _ hb=>by simp only [w7,a0s] at hb; exact hb.1)
    ·split at e
     ·(repeat' split at e) <;> first | (cases e; done) | skip
      rename_i e1
      cases e
      exact qez HK e1
     ·(repeat' split at e) <;> first | (cases e; done) | skip
      rename_i e1
      cases e
      exact (qez HK e1).mono (fun b _ hb=>by simp only [w7,a0s] at hb; exact hb.1)

theorem XStep.still (S:XStep E C W hs x fr fr' h h' ld ld' wr wr')(hc:x.chain=false)(hok:x.ok=true) : h'=h∨(x.op.takes=true∧∃ k,h'=h++[k]):=by
 rcases S.go with ⟨_,_,_,_,_,_,_,rfl,_⟩ | ⟨_,v,e,_⟩
 ·exact .inl rfl
 ·have hst:x.op.still=true:=by simp only [XOper.ok,hc,Bool.false_or,a0s] at hok; exact hok.2
  have key:∀ {v:XV} {h':Heap} {W:Nat→Bool},ze W (XO.ev fr) h x.op=some (v,h')→h'=h∨(x.op.takes=true∧∃ k,h'=h++[k]):=by
   intro v h' W e1
   cases ht:x.op.takes with
   | false=>exact .inl (qge hst ht e1)
   | true=>exact .inr ⟨rfl,qij ht e1⟩
  unfold qdq at e
  dsimp only at e
  split at e
  ·(repeat' split at e) <;> first | (cases e; done) | skip
   rename_i e1
   cases e
   exact key e1
  ·split at e
   ·(repeat' split at e) <;> first | (cases e; done) | skip
    rename_i e1
    cases e
    exact key e1
   ·rename_i h1 h2
    have h3:x.cls=2∨x.cls=3∨x.cls=5:=by
     split at e
     ·exact .inl (by assumption)
     ·split at e
      ·exact .inr (.inl (by assumption))
      ·split at e
       ·exact .inr (.inr (by assumption))
       ·cases e
    simp only [XOper.chain,Bool.or_eq_false_iff,beq_eq_false_iff_ne] at hc
    rcases h3 with h3 | h3 | h3
    ·exact absurd h3 hc.1.1
    ·exact absurd h3 hc.1.2
    ·exact absurd h3 hc.2

theorem XStep.lists (S:XStep E C W hs x fr fr' h h' ld ld' wr wr') : (∀ b∈ld,b∈ld')∧(∀ b∈wr,b∈wr'):=by
 rcases S.go with ⟨_,_,_,_,_,_,_,_,rfl,rfl⟩ | ⟨_,v,e,_⟩
 ·exact ⟨fun _ h=>h,fun _ h=>h⟩
 ·unfold qdq at e
  dsimp only at e
  (repeat' split at e) <;> first | (cases e; done) | (cases e; exact ⟨fun _ h=>by simp [h],fun _ h=>by simp [h]⟩)

theorem XStep.quiet (HK:CallKeeps C)(S:XStep E C W hs x fr fr' h h' ld ld' wr wr')(hc:x.cls=2∨x.cls=5){b:Nat}(hb:b<hs)(hbh:b<h.length)(hq:b∈ld∨b ∉ wr') : h'[b]? = h[b]? := by
 rcases S.go with ⟨_,_,_,_,_,_,_,rfl,_⟩ | ⟨_,v,e,_⟩
 ·rfl
 ·have key:∀ (ms:List Nat),yg ms ld=true→(b∈ld∨b ∉ ms)→w7 W hs ms b=false:=by
   intro ms hd hq
   have:ms.contains b=false:=by
    rw [Bool.eq_false_iff]
    intro hm
    have hm':b∈ms:=by simpa using hm
    rcases hq with hq | hq
    ·unfold yg at hd
     rw [a0x] at hd
     have:=hd b hm'
     simp [hq] at this
    ·exact hq hm'
   simp only [w7,this,Bool.or_false]
   have h2:decide (hs≤b)=false:=by simp; omega
   simp [h2]
  unfold qdq at e
  simp only at e
  rcases hc with hc | hc
  ·rw [if_neg (by omega),if_neg (by omega),if_pos hc] at e
   split at e
   ·rename_i hd
    split at e
    ·rename_i e1
     cases e
     exact (qez HK e1).same b hbh (key _ hd (hq.imp id fun h hm=>h (a2s _ hm)))
    ·cases e
   ·cases e
  ·rw [if_neg (by omega),if_neg (by omega),if_neg (by omega),if_neg (by omega),if_pos hc] at e
   split at e
   ·rename_i hd
    split at e
    ·rename_i e1
     cases e
     exact (qez HK e1).same b hbh (key _ hd (hq.imp id fun h hm=>h (a2s _ hm)))
    ·cases e
   ·cases e
end
end Go.Proofs.Ytanblnjomhgphaa.X
namespace Go.Proofs.Ytanblnjomhgphaa.X
open Go

def OnP (perm:List Nat)(listed:Array Bool)(p:Nat) : Prop:=∃ i,perm[p]? = some i∧listed.getD i false=true

structure DC (P:Program) (T:Tab) (sz:TypeId→Nat) (E:Env) (C:CallF) (W:Nat→Bool) (L nt hs:Nat) (ops:Array Oper) (ms perm:List Nat) (xs:List XOper) (H:Nat→Heap) (F:Nat→Fr) (LD WR:Nat→List Nat) : Prop where
 hsz:E.sz=sz
 HC:CallOk P sz C
 HK:CallKeeps C
 HT:∀ t ti,T t=some ti→TOk P T sz t ti
 hW:∀ b,W b=true→L≤b
 hm:qf5 ms 0 ops.toList=true
 hall:∀ i:Nat,i<ops.size→∃ p:Nat,perm[p]? = some i
 hlt:∀ (p i:Nat),perm[p]? = some i→i<ops.size
 hp:u4 ms perm xs=true
 hc:∀ (p i:Nat) (x:XOper),perm[p]? = some i→xs[p]? = some x→∃ o,ops[i]? = some o∧qet T nt ops.toList x.cls o=some x
 hs0:hs=(H 0).length
 steps:∀ (p:Nat) (x:XOper),xs[p]? = some x→XStep E C W hs x (F p) (F (p+1)) (H p) (H (p+1)) (LD p) (LD (p+1)) (WR p) (WR (p+1))

section
variable {P:Program}{T:Tab}{sz:TypeId→Nat}{E:Env}{C:CallF}{W:Nat→Bool}{L nt hs:Nat}{ops:Array Oper}{ms perm:List Nat}{xs:List XOper}{H:Nat→Heap}{F:Nat→Fr}{LD WR:Nat→List Nat}

theorem DC.at_ (D:DC P T sz E C W L nt hs ops ms perm xs H F LD WR){p:Nat}(hp:p<xs.length) : ∃ (x:XOper) (i:Nat),xs[p]? = some x∧perm[p]? = some i :=
 ⟨_,_,s8 hp,s8 (by rw [qim D.hp]; exact hp)⟩

theorem DC.keep (D:DC P T sz E C W L nt hs ops ms perm xs H F LD WR){p:Nat} : ∀ (k:Nat),p+k≤xs.length→XKeep W (H p) (H (p+k)):=by
 intro k
 induction k with
 | zero=>intro _; exact XKeep.refl _ _
 | succ k ih =>
  intro hk
  obtain ⟨x,i,hx,_⟩:=D.at_ (p:=p+k) (by omega)
  exact (ih (by omega)).trans ((D.steps _ x hx).keep D.HK)

theorem DC.len (D:DC P T sz E C W L nt hs ops ms perm xs H F LD WR){p q:Nat}(hpq:p≤q)(hq:q≤xs.length) : (H p).length≤(H q).length:=by
 have:=(D.keep (p:=p) (q - p) (by omega)).len
 rwa [show p+(q - p)=q by omega] at this

theorem DC.ty (D:DC P T sz E C W L nt hs ops ms perm xs H F LD WR){p q:Nat}(hpq:p≤q)(hq:q≤xs.length){b:Nat}(hb:b<(H p).length) : ((H q)[b]?).map Blk.ty=((H p)[b]?).map Blk.ty:=by
 have:=(D.keep (p:=p) (q - p) (by omega)).ty b hb
 rwa [show p+(q - p)=q by omega] at this

theorem DC.lists (D:DC P T sz E C W L nt hs ops ms perm xs H F LD WR){p:Nat} : ∀ (k:Nat),p+k≤xs.length→(∀ b∈LD p,b∈LD (p+k))∧(∀ b∈WR p,b∈WR (p+k)):=by
 intro k
 induction k with
 | zero=>intro _; exact ⟨fun _ h=>h,fun _ h=>h⟩
 | succ k ih =>
  intro hk
  obtain ⟨x,i,hx,_⟩:=D.at_ (p:=p+k) (by omega)
  have h1:=ih (by omega)
  have h2:=(D.steps _ x hx).lists
  exact ⟨fun b hb=>h2.1 b (h1.1 b hb),fun b hb=>h2.2 b (h1.2 b hb)⟩

theorem DC.free (D:DC P T sz E C W L nt hs ops ms perm xs H F LD WR){p:Nat} : ∀ (k:Nat),p+k≤xs.length→(∀ (j:Nat) (x:XOper),p≤j→j<p+k→xs[j]? = some x→x.chain=false)→∀ b:Nat,b<(H p).length→(H (p+k))[b]? = (H p)[b]? := by
 intro k
 induction k with
 | zero=>intro _ _ b _; rfl
 | succ k ih =>
  intro hk hf b hb
  obtain ⟨x,i,hx,_⟩:=D.at_ (p:=p+k) (by omega)
  rw [←ih (by omega) (fun j x h1 h2 h3=>hf j x h1 (by omega) h3) b hb]
  rcases (D.steps _ x hx).still (hf _ x (by omega) (by omega) hx) (qg7 D.hp hx) with h1 | ⟨_,k1,h1⟩
  ·rw [show p+(k+1)=p+k+1 by omega,h1]
  ·have hb2:b<(H (p+k)).length:=a1a hb (D.len (p:=p) (q:=p+k) (by omega) (by omega))
   rw [show p+(k+1)=p+k+1 by omega,h1,a0a hb2]

theorem DC.free' (D:DC P T sz E C W L nt hs ops ms perm xs H F LD WR){p q:Nat}(hpq:p≤q)(hq:q≤xs.length)(hf:∀ j x,p≤j→j<q→xs[j]? = some x→x.chain=false){b:Nat}(hb:b<(H p).length) : (H q)[b]? = (H p)[b]? := by
 have:=D.free (p:=p) (q - p) (by omega) (fun j x h1 h2 h3=>hf j x h1 (by omega) h3) b hb
 rwa [show p+(q - p)=q by omega] at this

theorem DC.same (D:DC P T sz E C W L nt hs ops ms perm xs H F LD WR){p:Nat}{b:Nat}(hb:b<(H p).length)(hbs:b<hs) : ∀ (k:Nat),p+k≤xs.length→(∀ (j:Nat) (x:XOper),p≤j→j<p+k→xs[j]? = some x→x.chain=true→(x.cls=2∨x.cls=5)∧(b∈LD j∨b ∉ WR (j+1)))→(H (p+k))[b]? = (H p)[b]? := by
 intro k
 induction k with
 | zero=>intro _ _; rfl
 | succ k ih =>
  intro hk hf
  obtain ⟨x,i,hx,_⟩:=D.at_ (p:=p+k) (by omega)
  rw [←ih (by omega) (fun j x h1 h2 h3 h4=>hf j x h1 (by omega) h3 h4)]
  have hb2:b<(H (p+k)).length:=a1a hb (D.len (p:=p) (q:=p+k) (by omega) (by omega))
  cases hch:x.chain with
  | true =>
   obtain ⟨h1,h2⟩:=hf _ x (by omega) (by omega) hx hch
   exact (D.steps _ x hx).quiet D.HK h1 hbs hb2 h2
  | false =>
   rcases (D.steps _ x hx).still hch (qg7 D.hp hx) with h1 | ⟨_,k1,h1⟩
   ·rw [show p+(k+1)=p+k+1 by omega,h1]
   ·rw [show p+(k+1)=p+k+1 by omega,h1,a0a hb2]

theorem DC.same' (D:DC P T sz E C W L nt hs ops ms perm xs H F LD WR){p q:Nat}{b:Nat}(hb:b<(H p).length)(hbs:b<hs)(hpq:p≤q)(hq:q≤xs.length)(hf:∀ j x,p≤j→j<q→xs[j]? = some x→x.chain=true→(x.cls=2∨x.cls=5)∧(b∈LD j∨b ∉ WR (j+1))) : (H q)[b]? = (H p)[b]? := by
 have:=D.same hb hbs (q - p) (by omega) (fun j x h1 h2 h3=>hf j x h1 (by omega) h3)
 rwa [show p+(q - p)=q by omega] at this

theorem DC.bef (D:DC P T sz E C W L nt hs ops ms perm xs H F LD WR){listed:Array Bool}(hcl:Closed ops listed){p i:Nat}(hpi:perm[p]? = some i)(hr:i∈Region.ready .any ops listed){q:Nat}{x y:XOper}(hqp:q<p)(hx:xs[q]? = some x)(hy:xs[p]? = some y)(hn:x.need y=true) : OnP perm listed q:=by
 obtain ⟨_,o,ho,hall⟩:=mem_ready.1 hr
 obtain ⟨x',j,hx',hj⟩:=D.at_ (p:=q) (r9.1 hx).1
 have hbit:=(qfk D.hp hqp hx hy hj hpi).2 hn
 exact ⟨j,hj,qku D.hm hcl (i+1) i (Nat.lt_succ_self _) o ho hall j hbit⟩

theorem DC.aft (D:DC P T sz E C W L nt hs ops ms perm xs H F LD WR){listed:Array Bool}(hcl:Closed ops listed){p:Nat}(hno:¬ OnP perm listed p){q:Nat}{x y:XOper}(hpq:p<q)(hx:xs[p]? = some x)(hy:xs[q]? = some y)(hn:x.need y=true) : ¬ OnP perm listed q:=by
 rintro ⟨j,hj,hon⟩
 obtain ⟨x',i,hx',hi⟩:=D.at_ (p:=p) (r9.1 hx).1
 have hbit:=(qfk D.hp hpq hx hy hi hj).2 hn
 have hjl:=D.hlt _ _ hj
 have ho:ops[j]? = some ops[j]:=a09 hjl
 exact hno ⟨i,hi,qku D.hm hcl (j+1) j (Nat.lt_succ_self _) _ ho (fun e he hb=>hcl j _ hon ho e he hb) i hbit⟩

theorem DC.inj (D:DC P T sz E C W L nt hs ops ms perm xs H F LD WR){p q i:Nat}(hp:perm[p]? = some i)(hq:perm[q]? = some i) : p=q:=by
 have hl:=qim D.hp
 have h1:=(r9.1 hp).1
 have h2:=(r9.1 hq).1
 rcases Nat.lt_trichotomy p q with h | h | h
 ·exact absurd rfl (qfk D.hp h (s8 (by omega)) (s8 (by omega)) hp hq).1
 ·exact h
 ·exact absurd rfl (qfk D.hp h (s8 (by omega)) (s8 (by omega)) hq hp).1

theorem DC.on_set (D:DC P T sz E C W L nt hs ops ms perm xs H F LD WR){listed:Array Bool}(hl:listed.size=ops.size){p i:Nat}(hp:perm[p]? = some i)(q:Nat) : OnP perm (listed.setIfInBounds i true) q↔q=p∨OnP perm listed q:=by
 have hil:=D.hlt _ _ hp
 constructor
 ·rintro ⟨j,hj,hon⟩
  by_cases hij:i=j
  ·subst hij
   exact .inl (D.inj hj hp)
  ·rw [getD_set_ne false hij] at hon
   exact .inr ⟨j,hj,hon⟩
 ·rintro (rfl | ⟨j,hj,hon⟩)
  ·exact ⟨i,hp,by simp [hl,hil]⟩
  ·exact ⟨j,hj,getD_set_true hon⟩
end

def Cut (perm:List Nat)(xs:List XOper)(listed:Array Bool)(t k:Nat) : Prop:=∀ (q:Nat) (x:XOper),xs[q]? = some x→x.dst=some t→(OnP perm listed q↔q<k)

structure DInv (sz:TypeId→Nat) (W:Nat→Bool) (L nt:Nat) (perm:List Nat) (xs:List XOper) (H:Nat→Heap) (F:Nat→Fr) (φ0:Phi) (w0:World) (listed:Array Bool) (φ:Phi) (m:Nat) (G:Heap) (a:Act) (w:World) : Prop where
 hmn:m≤xs.length
 chain:∀ (p:Nat) (x:XOper),xs[p]? = some x→x.chain=true→(OnP perm listed p↔p<m)
 rel:Rel sz φ L G w
 gl:G.length=(H xs.length).length
 gty:∀ b:Nat,(G[b]?).map Blk.ty=((H xs.length)[b]?).map Blk.ty
 g:∀ k,m≤k→k≤xs.length→(∀ (j:Nat) (x:XOper),m≤j→j<k→xs[j]? = some x→x.chain=false)→∀ b:Nat,b<(H k).length→φ b ≠ .none→G[b]? = (H k)[b]?
 unb:∀ p,p<xs.length→¬ OnP perm listed p→∀ b,(H p).length≤b→b<(H (p+1)).length→φ b = .none
 frame:∀ t k,k≤xs.length→Cut perm xs listed t k→VRel sz φ L w (F k t) (a.tmps.getD t undef)
 size:nt≤a.tmps.size
 defers:a.defers=[]
 ext:Ext L W φ0 φ w0 w
 born:∀ b,φ b ≠ .none→φ0 b ≠ .none∨(H 0).length≤b
 hold:∀ b,φ b = .none→∀ k,k≤m→b<(H k).length→(H m)[b]? = (H k)[b]?

theorem Ext.wider {L:Nat}{W W':Nat→Bool}{φ φ':Phi}{w w':World}(A:Ext L W φ φ' w w')(hW:∀ b,W b=true→W' b=true) : Ext L W' φ φ' w w' :=
 ⟨A.os,A.tape,A.output,A.size,A.keep,A.dead,fun b cb δ e=>by
  rcases A.fresh b cb δ e with h | h | ⟨b0,δ0,h1,h2⟩
  ·exact .inl h
  ·exact .inr (.inl h)
  ·exact .inr (.inr ⟨b0,δ0,hW b0 h1,h2⟩),fun cb hcb hno=>A.unch cb hcb (fun b δ hb=>hno b δ (hW b hb)),A.shape⟩

theorem Ext.nn {L:Nat}{W:Nat→Bool}{φ φ':Phi}{w w':World}(A:Ext L W φ φ' w w'){b:Nat}(hb:φ b ≠ .none) : φ' b ≠ .none:=by
 intro e
 cases hφ:φ b with
 | none=>exact hb hφ
 | dead=>rw [A.dead b hφ] at e; cases e
 | «at» cb δ=>rcases A.keep b cb δ hφ with h1 | h1 <;> rw [h1] at e <;> cases e

theorem Rel.swap {sz:TypeId→Nat}{φ:Phi}{L:Nat}{h h':Heap}{w:World}(R:Rel sz φ L h w)(he:∀ b,φ b ≠ .none→h'[b]? = h[b]?)(hn:∀ b,h'.length≤b→φ b = .none) : Rel sz φ L h' w:=by
 refine ⟨fun b cb δ e=>?_,R.inj,fun b e=>?_,hn⟩
 ·obtain ⟨k,cc,h1,h2⟩:=R.live b cb δ e
  exact ⟨k,cc,by rw [he b (by rw [e]; exact fun e=>by cases e)]; exact h1,h2⟩
 ·have:=R.dead b e
  unfold z9 at this ⊢
  rw [he b (by rw [e]; exact fun e=>by cases e)]
  exact this

section
variable {P:Program}{T:Tab}{sz:TypeId→Nat}{E:Env}{C:CallF}{W:Nat→Bool}{L nt hs:Nat}{ops:Array Oper}{ms perm:List Nat}{xs:List XOper}{H:Nat→Heap}{F:Nat→Fr}{LD WR:Nat→List Nat}
variable {φ0 φ φ':Phi}{w0 w w':World}{listed:Array Bool}{m:Nat}{G G':Heap}{a:Act}

theorem qns {x y:XOper}{d:Nat}(hd:x.dst=some d)(h:d∈y.looks∨y.dst=some d) : x.need y=true:=by
 unfold XOper.need
 rw [hd]
 have:(y.looks.contains d||y.dst == some d)=true:=by
  rcases h with h | h
  ·simp [h]
  ·simp [h]
 simp only [this,Bool.or_true,Bool.true_or]
theorem qxi {x y:XOper}{d:Nat}(hd:y.dst=some d)(h:d∈x.looks) : x.need y=true:=by
 unfold XOper.need
 rw [hd]
 have:x.looks.contains d=true:=by simp [h]
 simp only [this,Bool.or_true]

theorem qzu (D:DC P T sz E C W L nt hs ops ms perm xs H F LD WR)(hcl:Closed ops listed){p i:Nat}(hpi:perm[p]? = some i)(hr:i∈Region.ready .any ops listed)(hno:¬ OnP perm listed p){x:XOper}(hx:xs[p]? = some x){t:Nat}(ht:t∈x.looks) : Cut perm xs listed t p:=by
 intro q y hy hd
 constructor
 ·intro hon
  rcases Nat.lt_trichotomy q p with h | h | h
  ·exact h
  ·subst h; exact absurd hon hno
  ·exact absurd hon (D.aft hcl hno h hx hy (qxi hd ht))
 ·intro hqp
  exact D.bef hcl hpi hr hqp hy hx (qns hd (.inl ht))

theorem qi6 (D:DC P T sz E C W L nt hs ops ms perm xs H F LD WR)(hcl:Closed ops listed)(hl:listed.size=ops.size){p i:Nat}(hpi:perm[p]? = some i)(hno:¬ OnP perm listed p){x:XOper}(hx:xs[p]? = some x)(hdst:qha nt x.dst=true)(I:DInv sz W L nt perm xs H F φ0 w0 listed φ m G a w)
  (hE:Ext L W φ φ' w w') {v:XV} {cv:Value} (hv:VRel sz φ' L w' v cv) (hF:F (p+1)=(F p).put x.dst v) : ∀ t k,k≤xs.length→Cut perm xs (listed.setIfInBounds i true) t k→VRel sz φ' L w' (F k t) ((a.put x.dst cv).tmps.getD t undef):=by
 intro t k hk hcut
 have hpl:p<xs.length:=(r9.1 hx).1
 by_cases hd:x.dst=some t
 ·have hpk:p<k:=((hcut p x hx hd).1 ((D.on_set hl hpi p).2 (.inl rfl)))
  -- no writer lies between
  have hstay:∀ n,p+1+n≤k→F (p+1+n) t=F (p+1) t:=by
   intro n
   induction n with
   | zero=>intro _; rfl
   | succ n ih =>
    intro hn
    obtain ⟨y,j,hy,hj⟩:=D.at_ (p:=p+1+n) (by omega)
    have hdy:y.dst≠some t:=by
     intro hdy
     have h1:=(hcut _ y hy hdy).2 (by omega)
     rcases (D.on_set hl hpi _).1 h1 with h2 | h2
     ·omega
     ·exact D.aft hcl hno (by omega) hx hy (qns hd (.inr hdy)) h2
    rw [←ih (by omega),show p+1+(n+1)=p+1+n+1 by omega]
    have key:∀ u:XV,((F (p+1+n)).put y.dst u) t=F (p+1+n) t:=by
     intro u
     unfold Fr.put
     cases hyd:y.dst with
     | none=>rfl
     | some d' =>
      dsimp only
      rw [if_neg (fun e=>hdy (by rw [hyd,e]))]
    rcases (D.steps _ y hy).go with ⟨_,_,_,_,_,_,h3,_⟩ | ⟨_,u,_,h3⟩
    ·rw [h3,key]
    ·rw [h3,key]
  have h1:=hstay (k - (p+1)) (by omega)
  rw [show p+1+(k - (p+1))=k by omega] at h1
  rw [h1,hF,hd]
  rw [hd] at hdst
  have hlt:t<a.tmps.size:=a1a (of_decide_eq_true hdst) I.size
  simp only [Fr.put,if_true,Act.put]
  simp [a1l,hlt]
  exact hv
 ·have hcut':Cut perm xs listed t k:=by
   intro q y hy hdy
   rw [←hcut q y hy hdy,D.on_set hl hpi q]
   constructor
   ·exact .inr
   ·rintro (rfl | h)
    ·rw [hx] at hy
     cases hy
     exact absurd hdy hd
    ·exact h
  have h1:=(I.frame t k hk hcut').ext hE D.hW
  have h2:(a.put x.dst cv).tmps.getD t undef=a.tmps.getD t undef:=by
   cases hxd:x.dst with
   | none=>rfl
   | some d =>
    have hne:¬ d=t:=fun e=>hd (by rw [hxd,e])
    simp [Act.put,a1l,a22,hne]
  rw [h2]
  exact h1
end
end Go.Proofs.Ytanblnjomhgphaa.X
namespace Go.Proofs.Ytanblnjomhgphaa.X
open Go
section
variable {P:Program}{T:Tab}{sz:TypeId→Nat}{E:Env}{C:CallF}{W:Nat→Bool}{L nt hs:Nat}{ops:Array Oper}{ms perm:List Nat}{xs:List XOper}{H:Nat→Heap}{F:Nat→Fr}{LD WR:Nat→List Nat}
variable {φ0 φ φ':Phi}{w0 w w':World}{listed:Array Bool}{m:Nat}{G G':Heap}{a:Act}

theorem qjs {nt:Nat}{ops:List Oper}{cls:Nat}{o:Oper}{x:XOper}(e:qet T nt ops cls o=some x) : jk T o.op=some x.op∧qbb nt ops o.guard=some x.guard∧qha nt o.dst=true∧x.dst=o.dst∧x.cls=cls:=by
 unfold qet at e
 split at e
 ·split at e
  ·cases e
   exact ⟨by assumption,by assumption,by assumption,rfl,rfl⟩
  ·cases e
 ·cases e

theorem zaq (H:Nat→Heap){p b:Nat}(h1:(H p).length≤b) : ∀ k,b<(H (p+k)).length→∃ j,p≤j∧j<p+k∧(H j).length≤b∧b<(H (j+1)).length:=by
 intro k
 induction k with
 | zero=>intro h2; rw [Nat.add_zero] at h2; omega
 | succ k ih =>
  intro h2
  by_cases h3:b<(H (p+k)).length
  ·obtain ⟨j,h4,h5,h6⟩:=ih h3
   exact ⟨j,h4,by omega,h6⟩
  ·exact ⟨p+k,by omega,by omega,by omega,by rw [show p+k+1=p+(k+1) by omega]; exact h2⟩

theorem qpi (D:DC P T sz E C W L nt hs ops ms perm xs H F LD WR)(hcl:Closed ops listed){p i:Nat}(hpi:perm[p]? = some i)(hr:i∈Region.ready .any ops listed)(hno:¬ OnP perm listed p){x:XOper}(hx:xs[p]? = some x)(hch:x.chain=true)(I:DInv sz W L nt perm xs H F φ0 w0 listed φ m G a w) :
  m≤p∧(∀ (j:Nat) (y:XOper),m≤j→j<p→xs[j]? = some y→y.chain=false)∧(∀ b,(H p).length≤b→φ b = .none)∧Rel sz φ L (H p) w:=by
 have hpl:p<xs.length:=(r9.1 hx).1
 have h1:m≤p:=by
  rcases a0z p m with h | h
  ·exact absurd ((I.chain p x hx hch).2 h) hno
  ·exact h
 have h2:∀ (j:Nat) (y:XOper),m≤j→j<p→xs[j]? = some y→y.chain=false:=by
  intro j y hmj hjp hy
  cases hc:y.chain with
  | false=>rfl
  | true =>
   have hon:=D.bef hcl hpi hr hjp hy hx (by unfold XOper.need; simp [hc,hch])
   have:=(I.chain j y hy hc).1 hon
   omega
 have h3:∀ b,(H p).length≤b→φ b = .none:=by
  intro b hb
  cases hφ:φ b with
  | none=>rfl
  | _ =>
   exfalso
   have hn:φ b ≠ .none:=by rw [hφ]; exact fun e=>by cases e
   have hbn:b<(H xs.length).length:=by
    rcases a0z b (H xs.length).length with h | h
    ·exact h
    ·exact absurd (I.rel.new b (by rw [I.gl]; exact h)) hn
   obtain ⟨j,j1,j2,j3,j4⟩:=zaq H hb (xs.length - p) (by rw [show p+(xs.length - p)=xs.length by omega]; exact hbn)
   obtain ⟨y,k,hy,hk⟩:=D.at_ (p:=j) (by omega)
   have hoff:¬ OnP perm listed j:=by
    rcases a0z p j with h | h
    ·refine D.aft hcl hno h hx hy ?_
     cases hc:y.chain with
     | true=>unfold XOper.need; simp [hc,hch]
     | false =>
      rcases (D.steps j y hy).still hc (qg7 D.hp hy) with h5 | ⟨h5,_⟩
      ·rw [h5] at j4; omega
      ·unfold XOper.need; simp [h5,hch]
    ·rw [show j=p by omega]; exact hno
   exact hn (I.unb j (by omega) hoff b j3 j4)
 refine ⟨h1,h2,h3,I.rel.swap (fun b hn=>?_) h3⟩
 have hb:b<(H p).length:=by
  rcases a0z b (H p).length with h | h
  ·exact h
  ·exact absurd (h3 b h) hn
 exact (I.g p h1 (Nat.le_of_lt hpl) h2 b hb hn).symm

theorem qpj (D:DC P T sz E C W L nt hs ops ms perm xs H F LD WR)(hcl:Closed ops listed)(hl:listed.size=ops.size){p i:Nat}(hpi:perm[p]? = some i)(hno:¬ OnP perm listed p){x:XOper}(hx:xs[p]? = some x)(hdst:qha nt x.dst=true)(I:DInv sz W L nt perm xs H F φ0 w0 listed φ m G a w)
  (hch:x.chain=false) (hE:Ext L W φ φ' w w') (R:Rel sz φ' L G w') (hφ:∀ b,φ' b ≠ .none→φ b ≠ .none) {v:XV} {cv:Value} (hv:VRel sz φ' L w' v cv) (hF:F (p+1)=(F p).put x.dst v) :
  DInv sz W L nt perm xs H F φ0 w0 (listed.setIfInBounds i true) φ' m G (a.put x.dst cv) w':=by
 have hnone:∀ b,φ b = .none→φ' b = .none:=fun b hb=>by
  cases h:φ' b with
  | none=>rfl
  | _=>exact absurd hb (hφ b (by rw [h]; exact fun e=>by cases e))
 have hback:∀ b,φ' b = .none→φ b = .none:=fun b hb=>by
  cases h:φ b with
  | none=>rfl
  | _=>exact absurd hb (hE.nn (by rw [h]; exact fun e=>by cases e))
 refine ⟨I.hmn,fun q y hy hc=>?_,R,I.gl,I.gty,fun k h1 h2 h3 b h4 h5=>I.g k h1 h2 h3 b h4 (hφ b h5),fun q hq hoff b h1 h2=>?_,qi6 D hcl hl hpi hno hx hdst I hE hv hF,?_,(by cases x.dst <;> exact I.defers),I.ext.trans hE,fun b hb=>I.born b (hφ b hb),fun b hb=>I.hold b (hback b hb)⟩
 ·rw [←I.chain q y hy hc,D.on_set hl hpi q]
  constructor
  ·rintro (rfl | h)
   ·rw [hx] at hy; cases hy; rw [hc] at hch; cases hch
   ·exact h
  ·exact .inr
 ·exact hnone b (I.unb q hq (fun h=>hoff ((D.on_set hl hpi q).2 (.inr h))) b h1 h2)
 ·have:=I.size
  cases x.dst <;> simpa [Act.put] using this

theorem q0q (D:DC P T sz E C W L nt hs ops ms perm xs H F LD WR)(hcl:Closed ops listed)(hl:listed.size=ops.size){p i:Nat}(hpi:perm[p]? = some i)(hno:¬ OnP perm listed p){x:XOper}(hx:xs[p]? = some x)(hdst:qha nt x.dst=true)(I:DInv sz W L nt perm xs H F φ0 w0 listed φ m G a w)
  (hch:x.chain=false) {k:Blk} (hH:H (p+1)=H p++[k]) (hE:Ext L W φ (yz φ (H p).length w.heap.size 0) w w') (R:Rel sz (yz φ (H p).length w.heap.size 0) L (G.set (H p).length k) w') {v:XV} {cv:Value} (hv:VRel sz (yz φ (H p).length w.heap.size 0) L w' v cv) (hF:F (p+1)=(F p).put x.dst v) :
  DInv sz W L nt perm xs H F φ0 w0 (listed.setIfInBounds i true) (yz φ (H p).length w.heap.size 0) m (G.set (H p).length k) (a.put x.dst cv) w':=by
 have hpl:p<xs.length:=(r9.1 hx).1
 have hsl:(H p).length<(H (p+1)).length:=by rw [hH]; simp
 have hself:(H (p+1))[(H p).length]? = some k:=by rw [hH]; simp
 have hsn:φ (H p).length = .none:=I.unb p hpl hno _ (a0d _) hsl
 have hne:∀ b,b≠(H p).length→yz φ (H p).length w.heap.size 0 b=φ b:=fun b hb=>by simp [yz,hb]
 have hmono:(H (p+1)).length≤(H xs.length).length:=D.len (by omega) (a0d _)
 refine ⟨I.hmn,fun q y hy hc=>?_,R,by rw [List.length_set]; exact I.gl,fun b=>?_,fun k' h1 h2 h3 b h4 h5=>?_,fun q hq hoff b h1 h2=>?_,qi6 D hcl hl hpi hno hx hdst I hE hv hF,?_,(by cases x.dst <;> exact I.defers),I.ext.trans hE,fun b hb=>?_,fun b hb k' h1 h2=>?_⟩
 ·rw [←I.chain q y hy hc,D.on_set hl hpi q]
  constructor
  ·rintro (rfl | h)
   ·rw [hx] at hy; cases hy; rw [hc] at hch; cases hch
   ·exact h
  ·exact .inr
 ·rw [a2n]
  split
  ·rename_i hb
   subst hb
   rw [if_pos (by rw [I.gl]; omega)]
   have:=D.ty (p:=p+1) (q:=xs.length) (by omega) (a0d _) hsl
   rw [this,hself]
  ·exact I.gty b
 ·by_cases hb:b=(H p).length
  ·subst hb
   rw [a2n,if_pos rfl,if_pos (by rw [I.gl]; omega)]
   have hk':p+1≤k':=by
    rcases a0z p k' with h | h
    ·exact h
    ·have:=D.len h (by omega)
     omega
   rcases a0z p m with hpm | hpm
   ·-- born before the last chain operation
    have h6:=I.hold _ hsn (p+1) (by omega) hsl
    have h7:(H k')[(H p).length]? = (H m)[(H p).length]? := D.free' h1 h2 h3 (by have:=D.len (p:=p+1) (q:=m) (by omega) I.hmn; omega)
    rw [h7,h6,hself]
   ·rw [D.free' hk' h2 (fun j y h6 h7 h8=>h3 j y (by omega) h7 h8) hsl,hself]
  ·rw [hne b hb] at h5
   rw [a2n,if_neg (fun e=>hb e.symm)]
   exact I.g k' h1 h2 h3 b h4 h5
 ·have hoff':¬ OnP perm listed q:=fun h=>hoff ((D.on_set hl hpi q).2 (.inr h))
  have hqp:q≠p:=fun e=>hoff ((D.on_set hl hpi q).2 (.inl e))
  have hb:b≠(H p).length:=by
   rintro rfl
   rcases a0z q p with h | h
   ·have:=D.len (p:=q+1) (q:=p) (by omega) (by omega)
    omega
   ·have:=D.len (p:=p+1) (q:=q) (by omega) (by omega)
    omega
  rw [hne b hb]
  exact I.unb q hq hoff' b h1 h2
 ·have:=I.size
  cases x.dst <;> simpa [Act.put] using this
 ·by_cases hbs:b=(H p).length
  ·subst hbs
   exact .inr (D.len (a12 _) (by omega))
  ·rw [hne b hbs] at hb
   exact I.born b hb
 ·by_cases hbs:b=(H p).length
  ·subst hbs
   simp [yz] at hb
  ·rw [hne b hbs] at hb
   exact I.hold b hb k' h1 h2

theorem qnx (D:DC P T sz E C W L nt hs ops ms perm xs H F LD WR)(hcl:Closed ops listed)(hl:listed.size=ops.size){p i:Nat}(hpi:perm[p]? = some i)(hr:i∈Region.ready .any ops listed)(hno:¬ OnP perm listed p){x:XOper}(hx:xs[p]? = some x)(hdst:qha nt x.dst=true)(I:DInv sz W L nt perm xs H F φ0 w0 listed φ m G a w)
  (hch:x.chain=true) {W1:Nat→Bool} (hW1:∀ b,W1 b=true→W b=true) {v:XV} {cv:Value} (S:Sim sz φ L W1 (H p) w v (H (p+1)) φ' w' cv) (hF:F (p+1)=(F p).put x.dst v) :
  DInv sz W L nt perm xs H F φ0 w0 (listed.setIfInBounds i true) φ' (p+1) (H (p+1)++(H xs.length).drop (H (p+1)).length) (a.put x.dst cv) w':=by
 obtain ⟨r1,r2,r3,R0⟩:=qpi D hcl hpi hr hno hx hch I
 have hpl:p<xs.length:=(r9.1 hx).1
 have hE:Ext L W φ φ' w w':=S.ext.wider hW1
 have hmono:(H (p+1)).length≤(H xs.length).length:=D.len (by omega) (a0d _)
 have hback:∀ b,φ' b = .none→φ b = .none:=fun b hb=>by
  cases h:φ b with
  | none=>rfl
  | _=>exact absurd hb (hE.nn (by rw [h]; exact fun e=>by cases e))
 have hin:∀ b,φ' b ≠ .none→b<(H (p+1)).length:=fun b hb=>by
  rcases a0z b (H (p+1)).length with h | h
  ·exact h
  ·exact absurd (S.rel.new b h) hb
 refine ⟨by omega,fun q y hy hc=>?_,S.rel.swap (fun b hb=>by rw [a0a (hin b hb)]) (fun b hb=>S.rel.new b (by simp at hb; omega)),by simp; omega,fun b=>?_,fun k h1 h2 h3 b h4 h5=>?_,fun q hq hoff b h1 h2=>?_,qi6 D hcl hl hpi hno hx hdst I hE S.val hF,?_,(by cases x.dst <;> exact I.defers),I.ext.trans hE,fun b hb=>?_,fun b hb k h1 h2=>?_⟩
 ·rw [D.on_set hl hpi q]
  constructor
  ·rintro (rfl | h)
   ·omega
   ·have:=(I.chain q y hy hc).1 h
    omega
  ·intro hqp
   rcases a0z q p with h | h
   ·exact .inr (D.bef hcl hpi hr h hy hx (by unfold XOper.need; simp [hc,hch]))
   ·exact .inl (by omega)
 ·rcases a0z b (H (p+1)).length with h | h
  ·rw [a0a h]
   exact (D.ty (p:=p+1) (q:=xs.length) (by omega) (a0d _) h).symm
  ·rw [a0i h,a1j]
   congr 2
   omega
 ·rw [a0a (hin b h5),D.free' h1 h2 h3 (hin b h5)]
 ·cases hb:φ' b with
  | none=>rfl
  | _ =>
   exfalso
   have hn:φ' b ≠ .none:=by rw [hb]; exact fun e=>by cases e
   rcases S.born b hn with h | h
   ·exact h (I.unb q hq (fun h=>hoff ((D.on_set hl hpi q).2 (.inr h))) b h1 h2)
   ·have hqp:q≠p:=fun e=>hoff ((D.on_set hl hpi q).2 (.inl e))
    have hlt:=hin b hn
    rcases a0z q p with h3 | h3
    ·have:=D.len (p:=q+1) (q:=p) (by omega) (by omega)
     omega
    ·have:=D.len (p:=p+1) (q:=q) (by omega) (by omega)
     omega
 ·have:=I.size
  cases x.dst <;> simpa [Act.put] using this
 ·rcases S.born b hb with h | h
  ·exact I.born b h
  ·exact .inr (a1q (D.len (a12 p) (by omega)) h)
 ·have hb0:=hback b hb
  rcases a0z p k with h | h
  ·rw [show k=p+1 by omega]
  ·have hlen:b<(H p).length:=a1a h2 (D.len h (by omega))
   rw [S.hold b hlen (.inl hb0)]
   rcases a0z k m with h3 | h3
   ·have h4:b<(H m).length:=a1a h2 (D.len (by omega) I.hmn)
    rw [D.free' r1 (by omega) r2 h4]
    exact I.hold b hb0 k (by omega) h2
   ·exact D.free' h (by omega) (fun j y h4 h5 h6=>r2 j y (by omega) h5 h6) h2
end
end Go.Proofs.Ytanblnjomhgphaa.X
namespace Go.Proofs.Ytanblnjomhgphaa.X
open Go
section
variable {P:Program}{T:Tab}{sz:TypeId→Nat}{E:Env}{C:CallF}{W:Nat→Bool}{L nt hs:Nat}{ops:Array Oper}{ms perm:List Nat}{xs:List XOper}{H:Nat→Heap}{F:Nat→Fr}{LD WR:Nat→List Nat}
variable {φ0 φ φ':Phi}{w0 w w':World}{listed:Array Bool}{m:Nat}{G G' h h':Heap}{a:Act}{Q:Go.Exit→Act→World→Prop}

theorem q0v {fr:Fr}(hv:∀ t,VRel sz φ L w (fr t) (a.tmps.getD t undef)) : EvRel sz φ L w (XO.ev fr) a.eval:=by
 intro x b e
 cases x with
 | tmp t=>simp only [kp] at e; cases e; exact hv t
 | const c =>
  simp only [kp] at e
  cases hc:u0 c with
  | none=>rw [hc] at e; cases e
  | some u=>rw [hc] at e; cases e; exact VRel.const hc
 | global g=>simp only [kp] at e; cases e
 | func f=>simp only [kp] at e; cases e; exact .fn f [] #[] rfl (fun i a b h1 h2=>by simp at h1)

theorem qr6 {o:Oper}{j d:Nat}{want b:Bool}(ho:o.guard=some (j,want)){oj:Oper}(hj:ops[j]? = some oj)(hd:oj.dst=some d)(hlt:d<a.tmps.size)(hv:VRel sz φ L w (.bool b) (a.tmps.getD d undef)) :
  Region.wanted o (yielded ops a.tmps)=(b == want):=by
 unfold Region.wanted yielded
 rw [ho]
 rw [a1l,a09 hlt] at hv
 simp only [a0r] at hv
 simp only [hj,a1n,hd,a09 hlt]
 generalize a.tmps[d]=u at hv
 cases hv
 cases b <;> cases want <;> rfl

theorem qf7 {x:XOper}{fr:Fr} : ∀ y∈x.op.xos,XO.ev (kv x.looks fr) y=XO.ev fr y:=by
 intro y hy
 cases y with
 | c v=>rfl
 | t n =>
  have:n∈x.looks:=by
   unfold XOper.looks
   refine a2s _ (List.mem_flatMap.2 ⟨_,hy,by simp [XO.tmps]⟩)
  simp [XO.ev,kv,this]

theorem qzz {op:Op}{n:Option Nat}{ad:XO}(hc:jk T op=some (.ld n ad)) : ∃ a,kp a=some ad:=by
 have key:∀ {α:Type} (x:Option α) (g:α→XOp),(∀ y,g y ≠ .ld n ad)→x.map g≠some (.ld n ad):=by
  intro α x g hg e
  cases x with
  | none=>cases e
  | some y=>exact hg y (by simpa using e)
 cases op with
 | load t a =>
  simp only [jk] at hc
  (repeat' split at hc) <;> first | (cases hc; done) | (cases hc; exact ⟨_,by assumption⟩)
 | call c=>simp only [jk,qbh] at hc; (repeat' split at hc) <;> first | (cases hc; done) | exact absurd hc (key _ _ (fun _ e=>by cases e))
 | move x=>exact absurd hc (key _ _ (fun _ e=>by cases e))
 | assign x=>exact absurd hc (key _ _ (fun _ e=>by cases e))
 | nilCheck x=>exact absurd hc (key _ _ (fun _ e=>by cases e))
 | unOp op xt x=>exact absurd hc (key _ _ (fun _ e=>by cases e))
 | extract x i=>exact absurd hc (key _ _ (fun _ e=>by cases e))
 | makeFunc fn first caps =>
  exfalso
  cases fn with
  | func g =>
   simp only [jk] at hc
   split at hc
   ·exact key _ _ (fun _ e=>by cases e) hc
   ·cases hc
  | _=>simp only [jk] at hc; cases hc
 | _=>exfalso; simp only [jk] at hc; (repeat' split at hc) <;> cases hc

theorem qpm {ev:XO→XV}{xo:XOp}{b:Nat}(hb:b∈kh ev xo) : ∃ n a o,xo = .ld n a∧ev a = .ptr b o:=by
 cases xo <;> simp [kh] at hb
 rename_i n a
 cases hea:ev a <;> rw [hea] at hb <;> simp at hb
 subst hb
 exact ⟨n,a,_,rfl,hea⟩

theorem qqd (D:DC P T sz E C W L nt hs ops ms perm xs H F LD WR)(hcl:Closed ops listed){p i:Nat}(hpi:perm[p]? = some i)(hr:i∈Region.ready .any ops listed)(hno:¬ OnP perm listed p){x:XOper}(hx:xs[p]? = some x)(I:DInv sz W L nt perm xs H F φ0 w0 listed φ m G a w)
  (hcls:(x.cls=1∧x.op.isLd=true∧∀ b∈kh (XO.ev (F p)) x.op,b<hs∧b ∉ WR p∧b∈LD (p+1))∨x.cls=4) {b:Nat} (hb:b∈kh (XO.ev (F p)) x.op) (hbl:b<(H p).length) (hn:φ b ≠ .none) : G[b]? = (H p)[b]? := by
 have hpl:p<xs.length:=(r9.1 hx).1
 have hxc:x.chain=false:=by
  rcases hcls with ⟨h,_⟩ | h <;> simp [XOper.chain,h]
 rcases hcls with ⟨h1,hld,h2⟩ | h1
 ·obtain ⟨h3,h4,h5⟩:=h2 b hb
  have hbm:b<(H m).length:=a1a (by rw [←D.hs0]; exact h3) (D.len (a12 _) I.hmn)
  have hg:=I.g m (a0d _) I.hmn (fun j y a1 a2=>by omega) b hbm hn
  rw [hg]
  rcases a0z p m with hpm | hpm
  ·refine D.same' hbl h3 (by omega) I.hmn (fun j y j1 j2 hy hc=>?_)
   have hjp:p<j:=by
    rcases a0z p j with h | h
    ·exact h
    ·have:j=p:=by omega
     subst this
     rw [hx] at hy; cases hy
     rw [hc] at hxc; cases hxc
   have hon:=(I.chain j y hy hc).2 j2
   have hc2:y.cls=2∨y.cls=5:=by
    have:(y.cls=2∨y.cls=3)∨y.cls=5:=by simpa [XOper.chain] using hc
    rcases this with (h | h) | h
    ·exact .inl h
    ·exact absurd hon (D.aft hcl hno hjp hx hy (by unfold XOper.need; simp [h,h1,hld]))
    ·exact .inr h
   refine ⟨hc2,.inl ?_⟩
   have:=(D.lists (p:=p+1) (j - (p+1)) (by have:=(r9.1 hy).1; omega)).1 b h5
   rwa [show p+1+(j - (p+1))=j by omega] at this
  ·refine (D.same' hbm h3 hpm (by omega) (fun j y j1 j2 hy hc=>?_)).symm
   have hoff:¬ OnP perm listed j:=fun h=>by have:=(I.chain j y hy hc).1 h; omega
   have hc2:y.cls=2∨y.cls=5:=by
    have:(y.cls=2∨y.cls=3)∨y.cls=5:=by simpa [XOper.chain] using hc
    rcases this with (h | h) | h
    ·exact .inl h
    ·exact absurd (D.bef hcl hpi hr j2 hy hx (by unfold XOper.need; simp [h,h1,hld])) hoff
    ·exact .inr h
   refine ⟨hc2,.inr (fun hm=>h4 ?_)⟩
   have:=(D.lists (p:=j+1) (p - (j+1)) (by omega)).2 b hm
   rwa [show j+1+(p - (j+1))=p by omega] at this
 ·rcases a0z p m with hpm | hpm
  ·have hf:∀ (j:Nat) (y:XOper),p≤j→j<m→xs[j]? = some y→y.chain=false:=by
    intro j y j1 j2 hy
    cases hc:y.chain with
    | false=>rfl
    | true =>
     exfalso
     have hjp:p<j:=by
      rcases a0z p j with h | h
      ·exact h
      ·have:j=p:=by omega
       subst this
       rw [hx] at hy; cases hy
       rw [hc] at hxc; cases hxc
     exact D.aft hcl hno hjp hx hy (by unfold XOper.need; simp [h1,hc]) ((I.chain j y hy hc).2 j2)
   have hbm:b<(H m).length:=a1a hbl (D.len (by omega) I.hmn)
   rw [I.g m (a0d _) I.hmn (fun j y a1 a2=>by omega) b hbm hn]
   exact D.free' (by omega) I.hmn hf hbl
  ·refine I.g p hpm (by omega) (fun j y j1 j2 hy=>?_) b hbl hn
   cases hc:y.chain with
   | false=>rfl
   | true =>
    exfalso
    have:=(I.chain j y hy hc).1 (D.bef hcl hpi hr j2 hy hx (by unfold XOper.need; simp [h1,hc]))
    omega

theorem qwr (D:DC P T sz E C W L nt hs ops ms perm xs H F LD WR)(hcl:Closed ops listed)(hl:listed.size=ops.size){i:Nat}(hr:i∈Region.ready .any ops listed)(I:DInv sz W L nt perm xs H F φ0 w0 listed φ m G a w){K:Act→World→Prop}
  (hK:∀ φ' m' G' a' w',DInv sz W L nt perm xs H F φ0 w0 (listed.setIfInBounds i true) φ' m' G' a' w'→K a' w') : wpOp P ops Q i K a w:=by
 obtain ⟨hoff,o,ho,hall⟩:=mem_ready.1 hr
 obtain ⟨p,hpi⟩:=D.hall i (a07.1 ho).1
 have hpl:p<xs.length:=by rw [←qim D.hp]; exact (r9.1 hpi).1
 have hx:xs[p]? = some xs[p]:=s8 hpl
 generalize xs[p]=x at hx
 obtain ⟨o',ho',hco⟩:=D.hc p i x hpi hx
 rw [ho] at ho'
 cases ho'
 obtain ⟨c1,c2,c3,c4,_⟩:=qjs hco
 have hno:¬ OnP perm listed p:=by
  rintro ⟨j,hj,hon⟩
  rw [hpi] at hj
  cases hj
  have hil:i<listed.size:=by rw [hl]; exact (a07.1 ho).1
  simp [hil] at hoff hon
  rw [hoff] at hon
  cases hon
 have hval:∀ t,VRel sz φ L w (kv x.looks (F p) t) (a.tmps.getD t undef):=by
  intro t
  unfold kv
  by_cases ht:t∈x.looks
  ·rw [if_pos (by simpa using ht)]
   exact I.frame t p (by omega) (qzu D hcl hpi hr hno hx ht)
  ·rw [if_neg (by simpa using ht)]
   exact .undef _
 have hev:=q0v hval
 have hdst:qha nt x.dst=true:=by rw [c4]; exact c3
 have hok:=qg7 D.hp hx
 have S:=D.steps p x hx
 -- the guard
 have hguard:∀ {g:Nat} {want b:Bool},x.guard=some (g,want)→F p g = .bool b→Region.wanted o (yielded ops a.tmps)=(b == want):=by
  intro g want b hg hb
  rw [hg] at c2
  cases hog:o.guard with
  | none=>rw [hog] at c2; simp [qbb] at c2
  | some jw =>
   obtain ⟨j,want'⟩:=jw
   rw [hog] at c2
   simp only [qbb] at c2
   split at c2
   ·rename_i oj hoj
    split at c2
    ·rename_i d hd
     split at c2
     ·rename_i hdn
      cases c2
      have h1:=hval g
      have:g∈x.looks:=by unfold XOper.looks; rw [hg]; simp
      rw [show kv x.looks (F p) g=F p g by simp [kv,this],hb] at h1
      exact qr6 hog (by simpa using hoj) hd (a1a hdn I.size) h1
     ·cases c2
    ·cases c2
   ·cases c2
 have hguard2:∀ {g:Nat} {want:Bool} {vs:List XV},x.guard=some (g,want)→F p g = .tup vs→Region.wanted o (yielded ops a.tmps)=false:=by
  intro g want vs hg hb
  rw [hg] at c2
  cases hog:o.guard with
  | none=>rw [hog] at c2; simp [qbb] at c2
  | some jw =>
   obtain ⟨j,want'⟩:=jw
   rw [hog] at c2
   simp only [qbb] at c2
   split at c2
   ·rename_i oj hoj
    split at c2
    ·rename_i d hd
     split at c2
     ·rename_i hdn
      cases c2
      have h1:=hval g
      have:g∈x.looks:=by unfold XOper.looks; rw [hg]; simp
      rw [show kv x.looks (F p) g=F p g by simp [kv,this],hb] at h1
      exact qlz hog (by simpa using hoj) hd (a1a hdn I.size) h1
     ·cases c2
    ·cases c2
   ·cases c2
 unfold wpOp
 simp only [ho]
 rcases S.go with ⟨g,want,b,hg,hb,hne,hF,hH,_⟩ | ⟨hgo,v,hx1,hF⟩
 ·-- not wanted
  rw [if_neg (by
   rcases hb with hb | ⟨vs,hb⟩
   ·rw [hguard hg hb]; simpa using hne hb
   ·rw [hguard2 hg hb]; simp)]
  cases hch:x.chain with
  | true =>
   obtain ⟨_,_,_,R0⟩:=qpi D hcl hpi hr hno hx hch I
   have SS:Sim sz φ L W (H p) w (.tup []) (H (p+1)) φ w undef:=by rw [hH]; exact Sim.same R0 qif
   rw [←c4]
   exact hK _ _ _ _ _ (qnx D hcl hl hpi hr hno hx hdst I hch (fun _ h=>h) SS hF)
  | false =>
   rw [←c4]
   exact hK _ _ _ _ _ (qpj D hcl hl hpi hno hx hdst I hch (Ext.refl _ _ _ _) I.rel (fun _ h=>h) qif hF)
 ·have hwant:Region.wanted o (yielded ops a.tmps)=true:=by
   rcases hgo with hg | ⟨g,want,hg,hb⟩
   ·rw [hg] at c2
    cases hog:o.guard with
    | none=>exact qks hog _
    | some jw =>
     obtain ⟨j,want'⟩:=jw
     rw [hog] at c2
     simp only [qbb] at c2
     (repeat' split at c2) <;> cases c2
   ·rw [hguard hg hb]; simp
  rw [if_pos hwant]
  left
  obtain ⟨k1,k2,k3,k4⟩:=qj5 (xo:=x.op) (W:=W) (h:=H p) (E:=E) (C:=C) (qf7 (x:=x) (fr:=F p))
  -- a chain operation
  have chainGo:∀ {W1:Nat→Bool},(∀ b,W1 b=true→W b=true)→x.chain=true→xop E C W1 (XO.ev (F p)) (H p) x.op=some (v,H (p+1))→o.wp P a w K Q:=by
   intro W1 hW1 hch e1
   obtain ⟨_,_,_,R0⟩:=qpi D hcl hpi hr hno hx hch I
   rw [←(qj5 (W:=W1) (h:=H p) (E:=E) (C:=C) (qf7 (x:=x) (fr:=F p))).1] at e1
   refine qlb D.hsz D.HC D.HT R0 (fun b hb=>D.hW b (hW1 b hb)) hev c1 e1 (fun φ1 w1 cv SS=>?_)
   rw [←c4]
   exact hK _ _ _ _ _ (qnx D hcl hl hpi hr hno hx hdst I hch hW1 SS hF)
  -- a still one
  have stillGo:x.chain=false→((x.cls=1∧∀ b∈kh (XO.ev (F p)) x.op,b<hs∧b ∉ WR p∧b∈LD (p+1))∨x.cls=4)→ze (fun _=>false) (XO.ev (F p)) (H p) x.op=some (v,H (p+1))→o.wp P a w K Q:=by
   intro hch hcls e1
   have hst:x.op.still=true:=by simp only [XOper.ok,hch,Bool.false_or,a0s] at hok; exact hok.2
   rw [←(qj5 (W:=fun _=>false) (h:=H p) (E:=E) (C:=C) (qf7 (x:=x) (fr:=F p))).2.2.2] at e1
   cases ht:x.op.takes with
   | true =>
    obtain ⟨w1,cv,hrun,hT⟩:=qyu D.HT hev c1 ht e1
    have hlen:(H p).length<(H (p+1)).length:=by
     obtain ⟨k,hk⟩:=qij ht e1
     rw [hk]; simp
    have hsn:φ (H p).length = .none:=I.unb p hpl hno _ (a0d _) hlen
    obtain ⟨k,hk,hE,hR,hv⟩:=hT.slot I.rel D.hW hsn (by rw [I.gl]; have:=D.len (p:=p+1) (q:=xs.length) (by omega) (a0d _); omega)
    have fin:=hK _ _ _ _ _ (q0q D hcl hl hpi hno hx hdst I hch hk hE hR hv hF)
    rw [c4] at fin
    unfold Oper.wp
    rcases hrun with h1 | ⟨h1,rfl⟩
    ·rw [h1,Oper.upon_value]; exact fin
    ·rw [h1,Oper.upon_skip]; exact fin
   | false =>
    have hHp:H (p+1)=H p:=qge hst ht e1
    have e2:ze (fun _=>false) (XO.ev (kv x.looks (F p))) G x.op=some (v,G):=by
     refine qm0 hst ht e1 (fun b hb=>?_) (fun b hb=>?_)
     ·obtain ⟨n,ad,off,hxo,hea⟩:=qpm hb
      have hbn:φ b ≠ .none:=by
       rw [hxo] at c1
       obtain ⟨a',ha'⟩:=qzz c1
       have hvr:∃ cv,VRel sz φ L w (.ptr b off) cv:=⟨_,by rw [←hea]; exact hev a' ad ha'⟩
       obtain ⟨cv,hvr⟩:=hvr
       cases hvr with
       | ptr b o a hn hp=>exact hn
      have hbl:b<(H p).length:=by
       have e3:=e1
       rw [hxo] at e3
       cases n with
       | none =>
        simp only [ze,hea] at e3
        unfold qal z9 at e3
        rcases a0z b (H p).length with h | h
        ·exact h
        ·rw [a00 h] at e3; cases e3
       | some n =>
        simp only [ze,hea] at e3
        unfold kw z9 at e3
        rcases a0z b (H p).length with h | h
        ·exact h
        ·rw [a00 h] at e3; cases e3
      rw [k2] at hb
      refine qqd D hcl hpi hr hno hx I ?_ hb hbl hbn
      rcases hcls with ⟨h1,h2⟩ | h1
      ·exact .inl ⟨h1,by rw [hxo]; rfl,h2⟩
      ·exact .inr h1
     ·rw [I.gty b]
      exact D.ty (p:=p) (q:=xs.length) (by omega) (a0d _) hb
    have e3:xop E C (fun _=>false) (XO.ev (kv x.looks (F p))) G x.op=some (v,G):=by
     cases hxo:x.op <;> rw [hxo] at e2 hst <;> first | exact e2 | (simp [XOp.still] at hst)
    refine qlb D.hsz D.HC D.HT I.rel (fun b hb=>by cases hb) hev c1 e3 (fun φ1 w1 cv SS=>?_)
    have hφ:∀ b,φ1 b ≠ .none→φ b ≠ .none:=by
     intro b hb
     rcases SS.born b hb with h | h
     ·exact h
     ·exact absurd (SS.rel.new b h) hb
    rw [←c4]
    exact hK _ _ _ _ _ (qpj D hcl hl hpi hno hx hdst I hch (SS.ext.wider (fun _ h=>by cases h)) SS.rel hφ SS.val hF)
  unfold qdq at hx1
  dsimp only at hx1
  split at hx1
  ·rename_i hc1
   split at hx1
   ·rename_i hcond
    split at hx1
    ·rename_i e1
     have hLD:LD (p+1)=kh (XO.ev (F p)) x.op++LD p:=by simp only [Option.some.injEq,Prod.mk.injEq] at hx1; exact hx1.1.symm
     simp only [Option.some.injEq,Prod.mk.injEq] at hx1
     obtain ⟨_,_,rfl,h4⟩:=hx1
     rw [h4] at e1
     refine stillGo (by simp [XOper.chain,hc1]) (.inl ⟨hc1,fun b hb=>?_⟩) e1
     have h5:=a0x.1 hcond.1 b hb
     have h6:=a0x.1 hcond.2 b hb
     exact ⟨by simpa using h5,by simpa using h6,by rw [hLD]; exact a2s _ hb⟩
    ·cases hx1
   ·cases hx1
  ·split at hx1
   ·rename_i hc4
    split at hx1
    ·rename_i e1
     simp only [Option.some.injEq,Prod.mk.injEq] at hx1
     obtain ⟨_,_,rfl,h4⟩:=hx1
     rw [h4] at e1
     exact stillGo (by simp [XOper.chain,hc4]) (.inr hc4) e1
    ·cases hx1
   ·split at hx1
    ·rename_i hc2
     split at hx1
     ·split at hx1
      ·rename_i e1
       simp only [Option.some.injEq,Prod.mk.injEq] at hx1
       obtain ⟨_,_,rfl,h4⟩:=hx1
       rw [h4] at e1
       exact chainGo (fun b hb=>by simp only [w7,a0s] at hb; exact hb.1) (by simp [XOper.chain,hc2]) e1
      ·cases hx1
     ·cases hx1
    ·split at hx1
     ·rename_i hc3
      split at hx1
      ·rename_i e1
       simp only [Option.some.injEq,Prod.mk.injEq] at hx1
       obtain ⟨_,_,rfl,h4⟩:=hx1
       rw [h4] at e1
       exact chainGo (fun b hb=>hb) (by simp [XOper.chain,hc3]) e1
      ·cases hx1
     ·split at hx1
      ·rename_i hc5
       split at hx1
       ·split at hx1
        ·rename_i e1
         simp only [Option.some.injEq,Prod.mk.injEq] at hx1
         obtain ⟨_,_,rfl,h4⟩:=hx1
         rw [h4] at e1
         exact chainGo (fun b hb=>by simp only [w7,a0s] at hb; exact hb.1) (by simp [XOper.chain,hc5]) e1
        ·cases hx1
       ·cases hx1
      ·cases hx1
end
end Go.Proofs.Ytanblnjomhgphaa.X
namespace Go.Proofs.Ytanblnjomhgphaa.X
open Go

def qhj (T:Tab)(nt:Nat)(ops:List Oper) : List Nat→List Nat→Option (List XOper)
 | [],_=>some []
 | i::perm,cls=>match ops[i]? with
  | some o=>match qet T nt ops (cls.headD 0) o,qhj T nt ops perm cls.tail with
   | some a,some b=>some (a::b)
   | _,_=>none
  | none=>none

section
variable {P:Program}{T:Tab}{sz:TypeId→Nat}{E:Env}{C:CallF}{W:Nat→Bool}{L nt hs:Nat}{ops:Array Oper}{ms perm:List Nat}{xs:List XOper}{H:Nat→Heap}{F:Nat→Fr}{LD WR:Nat→List Nat}
variable {φ0 φ φ':Phi}{w0 w w':World}{listed:Array Bool}{m:Nat}{G G' h h':Heap}{fr fr':Fr}{a:Act}{Q:Go.Exit→Act→World→Prop}

theorem qpz:∀ {perm cls:List Nat} {xs:List XOper},qhj T nt ops.toList perm cls=some xs→∀ (p i:Nat) (x:XOper),perm[p]? = some i→xs[p]? = some x→∃ o,ops[i]? = some o∧qet T nt ops.toList x.cls o=some x:=by
 intro perm
 induction perm with
 | nil=>intro cls xs e p i x hp; simp at hp
 | cons j r ih =>
  intro cls xs e p i x hp hx
  simp only [qhj] at e
  split at e
  ·rename_i o ho
   split at e
   ·rename_i y ys hy hys
    cases e
    cases p with
    | zero =>
     simp only [a1k,Option.some.injEq] at hp hx
     subst hp
     subst hx
     refine ⟨o,by simpa using ho,?_⟩
     rw [(qjs hy).2.2.2.2]
     exact hy
    | succ p=>exact ih hys p i x (by simpa using hp) (by simpa using hx)
   ·cases e
  ·cases e

theorem qs7 {α:Type}{p q:α→Bool} : ∀ {l:List α},(∀ x∈l,q x=true→p x=true)→(∃ x∈l,p x=true∧q x=false)→(l.filter q).length<(l.filter p).length:=by
 intro l
 induction l with
 | nil=>intro _ h; obtain ⟨x,hx,_⟩:=h; cases hx
 | cons y r ih =>
  intro h1 h2
  have hle:(r.filter q).length≤(r.filter p).length:=by
   clear ih h2
   induction r with
   | nil=>simp
   | cons z r ih2 =>
    have h3:=ih2 (fun x hx=>h1 x (by rcases a13.1 hx with h | h <;> simp [h]))
    have h4:=h1 z (by simp)
    cases hq:q z <;> cases hp:p z <;> simp [List.filter_cons,hq,hp] at h4 ⊢ <;> omega
  have hy:=h1 y (by simp)
  obtain ⟨x,hx,hp,hq⟩:=h2
  rcases a13.1 hx with rfl | hx
  ·simp [List.filter_cons,hp,hq]
   omega
  ·have:=ih (fun x hx=>h1 x (by simp [hx])) ⟨x,hx,hp,hq⟩
   cases hqy:q y <;> cases hpy:p y <;> simp [List.filter_cons,hqy,hpy] at hy ⊢ <;> omega

theorem qo9 (hm:qf5 ms 0 ops.toList=true)(hl:listed.size=ops.size)(hr:Region.ready .any ops listed=[]) : ∀ i,i<ops.size→listed.getD i false=true:=by
 have key:∀ n i,i<n→i<ops.size→listed.getD i false=true:=by
  intro n
  induction n with
  | zero=>intro i h; omega
  | succ n ih =>
   intro i hi hil
   cases hb:listed.getD i false with
   | true=>rfl
   | false =>
    exfalso
    have ho:ops[i]? = some ops[i]:=a09 hil
    have:i∈Region.ready .any ops listed:=by
     rw [mem_ready]
     refine ⟨?_,_,ho,fun e he hbd=>?_⟩
     ·have h2:i<listed.size:=by rw [hl]; exact hil
      simp [h2] at hb ⊢
      exact hb
     ·have h3:=(qma hm (i:=i) (o:=ops[i]) (by simp [ho])).1 e he hbd
      exact ih e.on (by omega) (by omega)
    rw [hr] at this
    cases this
 exact fun i hi=>key (i+1) i (Nat.lt_succ_self _) hi

theorem qry (hcl:Closed ops listed){i:Nat}(hr:i∈Region.ready .any ops listed) : Closed ops (listed.setIfInBounds i true):=by
 intro j o hj ho e he hb
 obtain ⟨_,o',ho',hall⟩:=mem_ready.1 hr
 refine getD_set_true ?_
 by_cases hij:i=j
 ·subst hij
  rw [ho] at ho'
  cases ho'
  exact hall e he hb
 ·rw [getD_set_ne false hij] at hj
  exact hcl j o hj ho e he hb

theorem q1g (D:DC P T sz E C W L nt hs ops ms perm xs H F LD WR)(hall:∀ i,i<ops.size→listed.getD i false=true)(I:DInv sz W L nt perm xs H F φ0 w0 listed φ m G a w) : SimC sz φ0 L W (H 0) w0 nt (F xs.length) (H xs.length) φ a w:=by
 have hon:∀ p,p<xs.length→OnP perm listed p:=by
  intro p hp
  obtain ⟨x,i,hx,hi⟩:=D.at_ hp
  exact ⟨i,hi,hall i (D.hlt _ _ hi)⟩
 have hfree:∀ (j:Nat) (x:XOper),m≤j→j<xs.length→xs[j]? = some x→x.chain=false:=by
  intro j x h1 h2 hx
  cases hc:x.chain with
  | false=>rfl
  | true =>
   have:=(I.chain j x hx hc).1 (hon j h2)
   omega
 have hlast:∀ b,(H xs.length).length≤b→φ b = .none:=fun b hb=>I.rel.new b (by rw [I.gl]; exact hb)
 have hback:∀ b,b<(H 0).length→φ0 b = .none→φ b = .none:=by
  intro b hb h0
  cases h:φ b with
  | none=>rfl
  | _ =>
   exfalso
   rcases I.born b (by rw [h]; exact fun e=>by cases e) with h1 | h1
   ·exact h1 h0
   ·omega
 refine ⟨I.ext,I.rel.swap (fun b hn=>?_) hlast,⟨fun t=>I.frame t xs.length (a0d _) (fun q x hx _=>?_),I.size,I.defers⟩,I.born,fun b hb h1=>?_,D.len (a12 _) (a0d _)⟩
 ·have hb:b<(H xs.length).length:=by
   rcases a0z b (H xs.length).length with h | h
   ·exact h
   ·exact absurd (hlast b h) hn
  exact (I.g _ I.hmn (a0d _) hfree b hb hn).symm
 ·have hq:=(r9.1 hx).1
  exact ⟨fun _=>hq,fun _=>hon q hq⟩
 ·rcases h1 with h1 | h1
  ·have h2:b<(H m).length:=a1a hb (D.len (a12 _) I.hmn)
   rw [D.free' I.hmn (a0d _) hfree h2]
   exact I.hold b (hback b hb h1) 0 (a12 _) hb
  ·have:=(D.keep (p:=0) xs.length (by omega)).same b hb h1
   rwa [o8] at this

theorem q1o (D:DC P T sz E C W L nt hs ops ms perm xs H F LD WR)(hQ:∀ φ' a' w',SimC sz φ0 L W (H 0) w0 nt (F xs.length) (H xs.length) φ' a' w'→Q .normal a' w') :
  ∀ (fuel:Nat) (listed:Array Bool) (φ:Phi) (m:Nat) (G:Heap) (a:Act) (w:World),Closed ops listed→listed.size=ops.size→((a2z ops.size).filter (fun i => !listed.getD i false)).length≤fuel →
   DInv sz W L nt perm xs H F φ0 w0 listed φ m G a w→wpAny P .any ops Q fuel listed a w:=by
 have done:∀ {listed:Array Bool} {φ:Phi} {m:Nat} {G:Heap} {a:Act} {w:World},listed.size=ops.size→DInv sz W L nt perm xs H F φ0 w0 listed φ m G a w→Region.ready .any ops listed=[]→Q .normal a w:=by
  intro listed φ m G a w hl I hr
  exact hQ _ _ _ (q1g D (qo9 D.hm hl hr) I)
 intro fuel
 induction fuel with
 | zero =>
  intro listed φ m G a w hcl hl hcount I
  have hall:∀ i,i<ops.size→listed.getD i false=true:=by
   intro i hi
   cases hb:listed.getD i false with
   | true=>rfl
   | false =>
    have:i∈(a2z ops.size).filter (fun i => !listed.getD i false):=List.mem_filter.2 ⟨List.mem_range.2 hi,by rw [hb]; rfl⟩
    rw [List.eq_nil_of_length_eq_zero (Nat.le_zero.1 hcount)] at this
    cases this
  have hr:Region.ready .any ops listed=[]:=by
   cases hr:Region.ready .any ops listed with
   | nil=>rfl
   | cons i r =>
    exfalso
    obtain ⟨h1,o,ho,_⟩:=mem_ready.1 (show i∈Region.ready .any ops listed by rw [hr]; simp)
    have hil:=(a07.1 ho).1
    have h2:=hall i hil
    have h3:i<listed.size:=by rw [hl]; exact hil
    simp [h3] at h1 h2
    rw [h2] at h1
    cases h1
  exact ⟨hr,done hl I hr⟩
 | succ fuel ih =>
  intro listed φ m G a w hcl hl hcount I
  refine ⟨done hl I,fun i hi=>qwr D hcl hl hi I (fun φ' m' G' a' w' I'=>?_)⟩
  refine ih _ _ _ _ _ _ (qry hcl hi) (by simp [hl]) ?_ I'
  obtain ⟨h1,o,ho,_⟩:=mem_ready.1 hi
  have hil:=(a07.1 ho).1
  have h3:i<listed.size:=by rw [hl]; exact hil
  have:=qs7 (p:=fun i => !listed.getD i false) (q:=fun j => !(listed.setIfInBounds i true).getD j false) (l:=a2z ops.size) (fun j _ hj=>by
   by_cases hij:i=j
   ·subst hij
    simp [h3] at hj
   ·rw [getD_set_ne false hij] at hj
    exact hj) ⟨i,List.mem_range.2 hil,by simp [h3] at h1 ⊢; exact h1,by simp [h3]⟩
  omega

theorem Rel.heap {w1:World}(hh:w1.heap=w.heap)(ho:w1.os=w.os)(ht:w1.tape=w.tape)(hu:w1.output=w.output)(R:Rel sz φ L h w) : Rel sz φ L h w1∧Ext L W φ φ w w1:=by
 have hE:∀ (W:Nat→Bool),Ext L W φ φ w w1:=fun W=>⟨ho,ht,hu,by rw [hh]; exact a0d _,fun _ _ _ e => .inl e,fun _ e=>e,fun _ _ _ e => .inl e,fun _ _ _=>by rw [hh],fun cb cc ty fz e=>⟨cc,by rw [hh]; exact e,rfl⟩⟩
 refine ⟨⟨fun b cb δ e=>?_,R.inj,R.dead,R.new⟩,hE W⟩
 obtain ⟨k,cc,h1,h2,h3,h4,h5⟩:=R.live b cb δ e
 refine ⟨k,cc,h1,h2,by rw [hh]; exact h3,h4,fun i v hv=>?_⟩
 obtain ⟨cv,h6,h7⟩:=h5 i v hv
 exact ⟨cv,h6,h7.ext (hE (fun _=>false)) (fun _ e=>by cases e)⟩

theorem qv0 (hsz:E.sz=sz)(HC:CallOk P sz C)(HK:CallKeeps C)(HT:∀ t ti,T t=some ti→TOk P T sz t ti)(hW:∀ b,W b=true→L≤b)(hmix:P.follows .mixedOrders=true){id:Nat}{cls:List Nat}
  (hok:qoy ops.toList ms perm xs=true) (hcomp:qhj T nt ops.toList perm cls=some xs) (R:Rel sz φ L h w) (FR:FRel sz φ L w nt fr a) (hx:qdi E C W h.length xs [] [] fr h=some (fr',h'))
  (hQ:∀ φ' a' w',SimC sz φ L W h w nt fr' h' φ' a' w'→Q .normal a' w') : (Code.region id ops true).wp P Q a w:=by
 refine wp_region_any hmix ?_
 obtain ⟨H,F,LD,WR,e1,e2,e3,e4,e5,e6,e7⟩:=qkp hx
 unfold qoy at hok
 simp only [a0s] at hok
 obtain ⟨⟨⟨o1,o2⟩,o3⟩,o4⟩:=hok
 have D:DC P T sz E C W L nt h.length ops ms perm xs H F LD WR:=by
  refine ⟨hsz,HC,HK,HT,hW,o1,fun i hi=>?_,fun p i hp=>?_,o4,qpz hcomp,by rw [e1],e7⟩
  ·have:=a0x.1 o2 i (List.mem_range.2 (by simpa using hi))
   exact List.mem_iff_getElem?.1 (by simpa using this)
  ·have:=a0x.1 o3 i (a0o hp)
   simpa using this
 subst e1
 subst e2
 subst e5
 subst e6
 obtain ⟨R1,hE⟩:=Rel.heap (W:=W) (w:=w) (w1:={ w with drawn:=w.drawn+1 }) rfl rfl rfl rfl R
 have hoff:∀ p,¬ OnP perm (Array.replicate ops.size false) p:=by
  rintro p ⟨i,_,hon⟩
  rw [a1l,Array.getElem?_replicate] at hon
  split at hon <;> cases hon
 have hle:∀ k,k≤xs.length→(H 0).length≤(H k).length:=fun k hk=>D.len (a12 _) hk
 refine q1o D (φ0:=φ) (w0:=w) hQ ops.size _ φ 0 (H 0++(H xs.length).drop (H 0).length) a _ ?_ (by simp) ?_ ⟨a12 _,fun p x hx hc=>⟨fun h=>absurd h (hoff p),fun h=>by omega⟩,R1.swap (fun b hn=>?_) (fun b hb=>R.new b (by simp at hb; omega)),?_,fun b=>?_,fun k h1 h2 h3 b h4 h5=>?_,fun p hp _ b h1 h2=>R.new b (a1q (hle p (by omega)) h1),fun t k hk hcut=>?_,FR.size,FR.defers,hE,fun b hb => .inl hb,fun b hb k h1 h2=>by rw [show k=0 by omega]⟩
 ·intro i o hi
  exact absurd hi (by rw [a1l,Array.getElem?_replicate]; split <;> simp)
 ·refine a1q (List.length_filter_le _ _) (by simp)
 ·have hb:b<(H 0).length:=by
   rcases a0z b (H 0).length with h | h
   ·exact h
   ·exact absurd (R.new b h) hn
  rw [a0a hb]
 ·have:=hle _ (a0d xs.length)
  simp
  omega
 ·rcases a0z b (H 0).length with h | h
  ·rw [a0a h]
   exact (D.ty (p:=0) (q:=xs.length) (a12 _) (a0d _) h).symm
  ·rw [a0i h,a1j]
   congr 2
   omega
 ·have hb:b<(H 0).length:=by
   rcases a0z b (H 0).length with h | h
   ·exact h
   ·exact absurd (R.new b h) h5
  rw [a0a hb]
  exact (D.free' (p:=0) (q:=k) (a12 _) h2 h3 hb).symm
 ·-- none has written t yet
  have hstay:∀ n,n≤k→F n t=F 0 t:=by
   intro n
   induction n with
   | zero=>intro _; rfl
   | succ n ih =>
    intro hn
    obtain ⟨y,j,hy,hj⟩:=D.at_ (p:=n) (by omega)
    have hdy:y.dst≠some t:=fun hdy=>hoff n ((hcut n y hy hdy).2 (by omega))
    rw [←ih (by omega)]
    have key:∀ u:XV,((F n).put y.dst u) t=F n t:=by
     intro u
     unfold Fr.put
     cases hyd:y.dst with
     | none=>rfl
     | some d' =>
      dsimp only
      rw [if_neg (fun e=>hdy (by rw [hyd,e]))]
    rcases (D.steps _ y hy).go with ⟨_,_,_,_,_,_,h3,_⟩ | ⟨_,u,_,h3⟩
    ·rw [h3,key]
    ·rw [h3,key]
  rw [hstay k (a0d _)]
  exact (FR.vals t).ext hE hW
end
end Go.Proofs.Ytanblnjomhgphaa.X
namespace Go.Proofs.Ytanblnjomhgphaa.X
open Go

inductive Ann where
 | loop (keep:List Nat)
 | draw (perm cls:List Nat)
 | frz (ts:List Nat)

def qof (x:XCode) : List Ann→XCode × List Ann
 | .frz []::an=>(x,an)
 | .frz ts::an=>(.seq x (.frz ts),an)
 | an=>(x,an)

def yb (T:Tab)(nt:Nat) : Code→List Ann→Option (XCode × List Ann)
 | .skip,an=>some (.skip,an)
 | .ret,an=>some (.ret,an)
 | .exit id,an=>some (.exit id,an)
 | .seq a b,an=>match yb T nt a an with
  | some (x,an1)=>match yb T nt b an1 with
   | some (y,an2)=>some (.seq x y,an2)
   | none=>none
  | none=>none
 | .cond c a b,an=>match kp c,yb T nt a an with
  | some x,some (y,an1)=>match yb T nt b an1 with
   | some (z,an2)=>some (.cond x y z,an2)
   | none=>none
  | _,_=>none
 | .block id c,an=>match yb T nt c an with
  | some (x,an1)=>some (.block id x,an1)
  | none=>none
 | .loop c,.loop keep::an=>match yb T nt c an with
  | some (x,an1)=>some (.loop keep x,an1)
  | none=>none
 | .region _ ops false,an=>match qgq T nt ops.toList [] ops.toList with
  | some xs=>some (qof (.reg false xs) an)
  | none=>none
 | .region _ ops true,.draw perm cls::an=>match qhj T nt ops.toList perm cls with
  | some xs=>if qoy ops.toList (Region.before ops).toList perm xs=true then some (qof (.reg true xs) an) else none
  | none=>none
 | _,_=>none

def qd7 (T:Tab) : ResultVar→Option XRes
 | .tmp t=>some (.t t)
 | .cell a t=>match T t with
  | some ti=>some (.cell a (if ti.k.agg then some ti.size else none))
  | none=>none

def XE.toExit:XE→Go.Exit
 | .normal => .normal
 | .ret => .ret
 | .exit id => .exit id

section
variable {P:Program}{T:Tab}{sz:TypeId→Nat}{E:Env}{C:CallF}{W:Nat→Bool}{L nt:Nat}

theorem q00 (hW:∀ b,W b=true→L≤b) : ∀ (ts:List Nat) {φ:Phi} {h h':Heap} {w:World} {fr fr':Fr} {a:Act},Rel sz φ L h w→FRel sz φ L w nt fr a→qik W ts fr h=some (fr',h')→∃ φ',SimC sz φ L W h w nt fr' h' φ' a w:=by
 intro ts
 induction ts with
 | nil =>
  intro φ h h' w fr fr' a R F hx
  simp only [qik] at hx
  cases hx
  exact ⟨φ,SimC.refl R F⟩
 | cons t ts ih =>
  intro φ h h' w fr fr' a R F hx
  simp only [qik] at hx
  split at hx
  ·rename_i b hfr
   split at hx
   ·rename_i k hk
    split at hx
    ·rename_i hwb
     obtain ⟨hE,hR⟩:=qo8 (W:=W) R hW hk
     have F1:=F.ext hE hW
     have hv:=F.vals t
     rw [hfr] at hv
     have F2:FRel sz (xh φ b) L w nt (fr.put (some t) (.ref k.cells 0)) a:=by
      refine ⟨fun u=>?_,F1.size,F1.defers⟩
      show VRel sz (xh φ b) L w (if u=t then .ref k.cells 0 else fr u) (a.tmps.getD u undef)
      by_cases hu:u=t
      ·rw [if_pos hu,hu]
       generalize a.tmps.getD t undef=cv at hv
       cases hv with
       | ptr b o ad hn hp =>
        obtain ⟨cb,δ,cc,k1,k2,k3,k4⟩:=qf4 R hn hk
        have hpa:=hp cb δ k1
        have hno:¬ Wr (xh φ b) L cb:=by
         rintro ⟨b1,δ1,_,e⟩
         unfold xh at e
         split at e
         ·cases e
         ·rename_i hne
          exact hne (R.inj b1 b cb δ1 δ e k1)
        have:ad.add 0=ad:=rfl
        rw [←this]
        refine .ref k.cells 0 ad (fun j=>(cc[δ+j]?).getD undef) (by rw [hpa]) ⟨by rw [hpa]; exact (a07.1 k2).1,by rw [hpa]; exact hno⟩ (fun j hj=>?_) (fun j x hx=>?_)
        ·rw [hpa,qar]
         have hlt:δ+j<cc.size:=by omega
         have e2:0+δ+j=δ+j:=by omega
         simp [World.cell?,k2,e2,hlt]
        ·obtain ⟨cu,h7,h8⟩:=k4 j x hx
         rw [h7]
         exact h8.ext hE hW
      ·rw [if_neg hu]
       exact F1.vals u
     have S1:SimC sz φ L W h w nt (fr.put (some t) (.ref k.cells 0)) (kill h b) (xh φ b) a w:=by
      refine ⟨hE,hR,F2,fun x e => .inl ?_,fun x hxl e=>?_,by rw [ye]; exact a0d _⟩
      ·unfold xh at e
       split at e
       ·rename_i hxb
        rw [hxb]
        intro h0
        have hv2:=F.vals t
        rw [hfr] at hv2
        generalize a.tmps.getD t undef=cv at hv2
        cases hv2 with
        | ptr b o ad hn hp=>exact hn h0
       ·exact e
      ·rw [qbn]
       split
       ·rename_i hxb
        subst hxb
        rcases e with e | e
        ·exfalso
         have hv2:=F.vals t
         rw [hfr] at hv2
         generalize a.tmps.getD t undef=cv at hv2
         cases hv2 with
         | ptr b o ad hn hp=>exact hn e
        ·rw [hwb] at e; cases e
       ·rfl
     obtain ⟨φ2,S2⟩:=ih hR F2 hx
     exact ⟨φ2,S1.trans S2⟩
    ·cases hx
   ·cases hx
  ·cases hx

theorem qn4 (hW:∀ b,W b=true→L≤b){n:Nat}{x xc:XCode}{an an':List Ann}(hc:qof x an=(xc,an')){φ:Phi}{h h':Heap}{w:World}{fr fr':Fr}{a:Act}{e:XE}{Q:Go.Exit→Act→World→Prop}{c:Code}
  (hreg:∀ {e:XE} {fr':Fr} {h':Heap},jz E C n W x fr h=some (e,fr',h')→(∀ φ' a' w',SimC sz φ L W h w nt fr' h' φ' a' w'→Q e.toExit a' w')→c.wp P Q a w)
  (hx:jz E C n W xc fr h=some (e,fr',h')) (hnorm:∀ e fr' h',jz E C n W x fr h=some (e,fr',h')→e = .normal) (hQ:∀ φ' a' w',SimC sz φ L W h w nt fr' h' φ' a' w'→Q e.toExit a' w') : c.wp P Q a w:=by
 unfold qof at hc
 split at hc
 ·cases hc; exact hreg hx hQ
 ·rename_i ts _ _
  cases hc
  simp only [jz] at hx
  cases hxa:jz E C n W x fr h with
  | none=>rw [hxa] at hx; cases hx
  | some r =>
   obtain ⟨e1,fr1,h1⟩:=r
   rw [hxa] at hx
   have he:=hnorm _ _ _ hxa
   subst he
   dsimp only at hx
   split at hx
   ·rename_i fr2 h2 e2
    cases hx
    refine hreg hxa (fun φ1 a1 w1 S1=>?_)
    obtain ⟨φ2,S2⟩:=q00 hW _ S1.rel S1.frame e2
    exact hQ _ _ _ (S1.trans S2)
   ·cases hx
 ·cases hc; exact hreg hx hQ

theorem qzj (hsz:E.sz=sz)(HC:CallOk P sz C)(HK:CallKeeps C)(HT:∀ t ti,T t=some ti→TOk P T sz t ti)(hW:∀ b,W b=true→L≤b)(hmix:P.follows .mixedOrders=true)(n:Nat) :
  ∀ (c:Code) (an an':List Ann) (xc:XCode),yb T nt c an=some (xc,an')→∀ {φ:Phi} {h h':Heap} {w:World} {fr fr':Fr} {a:Act} {e:XE} {Q:Go.Exit→Act→World→Prop},Rel sz φ L h w→FRel sz φ L w nt fr a→jz E C n W xc fr h=some (e,fr',h') →
   (∀ φ' a' w',SimC sz φ L W h w nt fr' h' φ' a' w'→Q e.toExit a' w')→c.wp P Q a w:=by
 intro c
 induction c with
 | skip =>
  intro an an' xc hc φ h h' w fr fr' a e Q R F hx hQ
  simp only [yb] at hc
  cases hc
  simp only [jz] at hx
  cases hx
  exact wp_skip (hQ _ _ _ (SimC.refl R F))
 | ret =>
  intro an an' xc hc φ h h' w fr fr' a e Q R F hx hQ
  simp only [yb] at hc
  cases hc
  simp only [jz] at hx
  cases hx
  exact wp_ret (hQ _ _ _ (SimC.refl R F))
 | exit id =>
  intro an an' xc hc φ h h' w fr fr' a e Q R F hx hQ
  simp only [yb] at hc
  cases hc
  simp only [jz] at hx
  cases hx
  exact wp_exit (hQ _ _ _ (SimC.refl R F))
 | seq x y ihx ihy =>
  intro an an' xc hc φ h h' w fr fr' a e Q R F hx hQ
  simp only [yb] at hc
  split at hc
  ·rename_i cx an1 h1
   split at hc
   ·rename_i cy an2 h2
    cases hc
    simp only [jz] at hx
    refine wp_seq ?_
    cases hxa:jz E C n W cx fr h with
    | none=>rw [hxa] at hx; cases hx
    | some r =>
     obtain ⟨e1,fr1,h1'⟩:=r
     rw [hxa] at hx
     refine ihx _ _ _ h1 R F hxa (fun φ1 a1 w1 S1=>?_)
     cases e1 with
     | normal=>exact ihy _ _ _ h2 S1.rel S1.frame hx (fun φ2 a2 w2 S2=>hQ _ _ _ (S1.trans S2))
     | ret=>cases hx; exact hQ _ _ _ S1
     | exit id=>cases hx; exact hQ _ _ _ S1
   ·cases hc
  ·cases hc
 | cond c x y ihx ihy =>
  intro an an' xc hc φ h h' w fr fr' a e Q R F hx hQ
  simp only [yb] at hc
  split at hc
  ·rename_i co cx an1 h0 h1
   split at hc
   ·rename_i cy an2 h2
    cases hc
    simp only [jz] at hx
    have hv:=F.eval c co h0
    cases hco:co.ev fr <;> rw [hco] at hx <;> first | (cases hx; done) | skip
    rename_i b
    have hv':VRel sz φ L w (.bool b) (a.eval c):=by rw [←hco]; exact hv
    generalize hea:a.eval c=u at hv'
    cases hv'
    refine wp_cond hea ?_
    cases b with
    | true=>exact ihx _ _ _ h1 R F hx hQ
    | false=>exact ihy _ _ _ h2 R F hx hQ
   ·cases hc
  ·cases hc
 | block id c ih =>
  intro an an' xc hc φ h h' w fr fr' a e Q R F hx hQ
  simp only [yb] at hc
  split at hc
  ·rename_i cx an1 h1
   cases hc
   simp only [jz] at hx
   refine wp_block ?_
   cases hxa:jz E C n W cx fr h with
   | none=>rw [hxa] at hx; cases hx
   | some r =>
    obtain ⟨e1,fr1,h1'⟩:=r
    rw [hxa] at hx
    refine ih _ _ _ h1 R F hxa (fun φ1 a1 w1 S1=>?_)
    cases e1 with
    | normal=>cases hx; exact hQ _ _ _ S1
    | ret=>cases hx; exact hQ _ _ _ S1
    | exit i =>
     dsimp only at hx
     simp only [XE.toExit,Exit.inBlock]
     split at hx
     ·rename_i hi
      cases hx
      rw [if_pos hi]
      exact hQ _ _ _ S1
     ·rename_i hi
      cases hx
      rw [if_neg hi]
      exact hQ _ _ _ S1
  ·cases hc
 | loop c ih =>
  intro an an' xc hc φ h h' w fr fr' a e Q R F hx hQ
  cases an with
  | nil=>simp only [yb] at hc; cases hc
  | cons an0 an =>
   cases an0 with
   | draw p q=>simp only [yb] at hc; cases hc
   | frz ts=>simp only [yb] at hc; cases hc
   | loop keep =>
    simp only [yb] at hc
    split at hc
    ·rename_i cx an1 h1
     cases hc
     simp only [jz] at hx
     refine wp_loop_rounds n ?_
     have key:∀ (k:Nat) {φ:Phi} {h:Heap} {w:World} {fr:Fr} {a:Act},Rel sz φ L h w→FRel sz φ L w nt fr a→qeo (jz E C n W cx) keep k fr h=some (e,fr',h') →
       (∀ φ' a' w',SimC sz φ L W h w nt fr' h' φ' a' w'→Q e.toExit a' w')→Code.rounds P c Q k a w:=by
      intro k
      induction k with
      | zero=>intro φ h w fr a _ _ hx _; simp only [qeo] at hx; cases hx
      | succ k ihk =>
       intro φ h w fr a R F hx hQ
       rw [rounds_succ]
       simp only [qeo] at hx
       have F':FRel sz φ L w nt (kv keep fr) a:=⟨fun t=>by
        unfold kv
        split
        ·exact F.vals t
        ·exact .undef _,F.size,F.defers⟩
       cases hxa:jz E C n W cx (kv keep fr) h with
       | none=>rw [hxa] at hx; cases hx
       | some r =>
        obtain ⟨e1,fr1,h1'⟩:=r
        rw [hxa] at hx
        refine ih _ _ _ h1 R F' hxa (fun φ1 a1 w1 S1=>?_)
        cases e1 with
        | normal=>exact ihk S1.rel S1.frame hx (fun φ2 a2 w2 S2=>hQ _ _ _ (S1.trans S2))
        | ret=>cases hx; exact hQ _ _ _ S1
        | exit id=>cases hx; exact hQ _ _ _ S1
     exact key n R F hx hQ
    ·cases hc
 | region id ops dr =>
  intro an an' xc hc φ h h' w fr fr' a e Q R F hx hQ
  cases dr with
  | false =>
   simp only [yb] at hc
   split at hc
   ·rename_i xs h1
    simp only [Option.some.injEq] at hc
    refine qn4 hW hc (n:=n) (fun {e fr' h'} hx hQ=>?_) hx (fun e fr' h' hx=>?_) hQ
    ·simp only [jz] at hx
     split at hx
     ·rename_i fr1 h1' e1
      cases hx
      refine wp_region ?_
      have:=q2b hsz HC HT hW (ops:=ops) (Q:=Q) ops.toList 0 xs [] (fun i=>by simp) h1 R F e1 hQ
      rw [←List.range_eq_range'] at this
      simpa using this
     ·cases hx
    ·simp only [jz] at hx
     split at hx
     ·cases hx; rfl
     ·cases hx
   ·cases hc
  | true =>
   cases an with
   | nil=>simp only [yb] at hc; cases hc
   | cons an0 an =>
    cases an0 with
    | loop keep=>simp only [yb] at hc; cases hc
    | frz ts=>simp only [yb] at hc; cases hc
    | draw perm cls =>
     simp only [yb] at hc
     split at hc
     ·rename_i xs h1
      split at hc
      ·rename_i hok
       simp only [Option.some.injEq] at hc
       refine qn4 hW hc (n:=n) (fun {e fr' h'} hx hQ=>?_) hx (fun e fr' h' hx=>?_) hQ
       ·simp only [jz] at hx
        split at hx
        ·rename_i fr1 h1' e1
         cases hx
         exact qv0 hsz HC HK HT hW hmix hok h1 R F e1 hQ
        ·cases hx
       ·simp only [jz] at hx
        split at hx
        ·cases hx; rfl
        ·cases hx
      ·cases hc
     ·cases hc
 | _=>intro an an' xc hc; simp only [yb] at hc; cases hc

theorem quq (HK:CallKeeps C) : ∀ {xs:List XOper} {fr fr':Fr} {h h':Heap},qex E C W xs fr h=some (fr',h')→XKeep W h h':=by
 intro xs
 induction xs with
 | nil=>intro fr fr' h h' e; simp only [qex] at e; cases e; exact XKeep.refl _ _
 | cons o r ih =>
  intro fr fr' h h' e
  simp only [qex] at e
  split at e
  ·split at e
   ·rename_i e1
    exact (qez HK e1).trans (ih e)
   ·cases e
  ·split at e
   ·split at e
    ·split at e
     ·rename_i e1
      exact (qez HK e1).trans (ih e)
     ·cases e
    ·exact ih e
   ·exact ih e
   ·cases e

theorem qru (HK:CallKeeps C){xs:List XOper}{fr fr':Fr}{h h':Heap}{hs:Nat}(e:qdi E C W hs xs [] [] fr h=some (fr',h')) : XKeep W h h':=by
 obtain ⟨H,F,LD,WR,rfl,rfl,_,_,rfl,rfl,e7⟩:=qkp e
 have key:∀ k,k≤xs.length→XKeep W (H 0) (H k):=by
  intro k
  induction k with
  | zero=>intro _; exact XKeep.refl _ _
  | succ k ih =>
   intro hk
   exact (ih (by omega)).trans ((e7 k xs[k] (s8 (by omega))).keep HK)
 exact key _ (a0d _)

theorem qtp:∀ (ts:List Nat) {fr fr':Fr} {h h':Heap},qik W ts fr h=some (fr',h')→XKeep W h h':=by
 intro ts
 induction ts with
 | nil=>intro fr fr' h h' hx; simp only [qik] at hx; cases hx; exact XKeep.refl _ _
 | cons t ts ih =>
  intro fr fr' h h' hx
  simp only [qik] at hx
  split at hx
  ·split at hx
   ·split at hx
    ·rename_i hw
     exact (XKeep.kill hw h).trans (ih hx)
    ·cases hx
   ·cases hx
  ·cases hx

theorem qri (HK:CallKeeps C)(n:Nat) : ∀ (c:XCode) {fr fr':Fr} {h h':Heap} {e:XE},jz E C n W c fr h=some (e,fr',h')→XKeep W h h':=by
 intro c
 induction c with
 | skip=>intro fr fr' h h' e hx; simp only [jz] at hx; cases hx; exact XKeep.refl _ _
 | ret=>intro fr fr' h h' e hx; simp only [jz] at hx; cases hx; exact XKeep.refl _ _
 | exit id=>intro fr fr' h h' e hx; simp only [jz] at hx; cases hx; exact XKeep.refl _ _
 | seq a b iha ihb =>
  intro fr fr' h h' e hx
  simp only [jz] at hx
  cases hxa:jz E C n W a fr h with
  | none=>rw [hxa] at hx; cases hx
  | some r =>
   obtain ⟨e1,fr1,h1⟩:=r
   rw [hxa] at hx
   cases e1 with
   | normal=>exact (iha hxa).trans (ihb hx)
   | ret=>cases hx; exact iha hxa
   | exit id=>cases hx; exact iha hxa
 | cond c a b iha ihb =>
  intro fr fr' h h' e hx
  simp only [jz] at hx
  split at hx
  ·split at hx
   ·exact iha hx
   ·exact ihb hx
  ·cases hx
 | block id c ih =>
  intro fr fr' h h' e hx
  simp only [jz] at hx
  cases hxa:jz E C n W c fr h with
  | none=>rw [hxa] at hx; cases hx
  | some r =>
   obtain ⟨e1,fr1,h1⟩:=r
   rw [hxa] at hx
   cases e1 with
   | normal=>cases hx; exact ih hxa
   | ret=>cases hx; exact ih hxa
   | exit i =>
    dsimp only at hx
    split at hx <;> (cases hx; exact ih hxa)
 | loop keep c ih =>
  intro fr fr' h h' e hx
  simp only [jz] at hx
  have key:∀ (k:Nat) {fr fr':Fr} {h h':Heap} {e:XE},qeo (jz E C n W c) keep k fr h=some (e,fr',h')→XKeep W h h':=by
   intro k
   induction k with
   | zero=>intro fr fr' h h' e hx; simp only [qeo] at hx; cases hx
   | succ k ihk =>
    intro fr fr' h h' e hx
    simp only [qeo] at hx
    cases hxa:jz E C n W c (kv keep fr) h with
    | none=>rw [hxa] at hx; cases hx
    | some r =>
     obtain ⟨e1,fr1,h1⟩:=r
     rw [hxa] at hx
     cases e1 with
     | normal=>exact (ih hxa).trans (ihk hx)
     | ret=>cases hx; exact ih hxa
     | exit id=>cases hx; exact ih hxa
  exact key n hx
 | frz ts =>
  intro fr fr' h h' e hx
  simp only [jz] at hx
  split at hx
  ·rename_i e1
   cases hx
   exact qtp ts e1
  ·cases hx
 | reg d ops =>
  intro fr fr' h h' e hx
  cases d with
  | false =>
   simp only [jz] at hx
   split at hx
   ·rename_i e1
    cases hx
    exact quq HK e1
   ·cases hx
  | true =>
   simp only [jz] at hx
   split at hx
   ·rename_i e1
    cases hx
    exact qru HK e1
   ·cases hx

theorem qux {args:List XV}{h h':Heap}{v:XV} : ∀ {o:Orc},qmy W args h o=some (v,h')→XKeep W h h':=by
 intro o e
 cases o with
 | ins =>
  unfold qmy at e
  dsimp only at e
  (repeat' split at e) <;> first | (cases e; done) | skip
  ·cases e; exact XKeep.app _ _ _
  ·rename_i hc
   cases e
   exact (XKeep.kill hc.2.1 h).trans (XKeep.app _ _ _)
 | srt =>
  unfold qmy at e
  dsimp only at e
  (repeat' split at e) <;> first | (cases e; done) | skip
  ·cases e; exact XKeep.refl _ _
  ·rename_i hs
   cases e
   exact XKeep.setCells hs

theorem qmj {n:Nat}{f:Nat}{args:List XV}{h h':Heap}{v:XV}(e:xu E (n+1) W f args h=some (v,h')) :
  (∃ fn ex fr1,E.fns f=some fn∧jz E (xu E n) n W fn.code (zk args) h=some (ex,fr1,h')∧(ex = .normal∨ex = .ret)∧qdu fn.results fr1 h'=some v)∨∃ o,E.orc f=some o∧qmy W args h o=some (v,h'):=by
 simp only [xu] at e
 cases hf:E.fns f with
 | none =>
  rw [hf] at e
  dsimp only at e
  right
  split at e
  ·rename_i o ho
   exact ⟨o,ho,e⟩
  ·cases e
 | some fn =>
  rw [hf] at e
  dsimp only at e
  cases hx:jz E (xu E n) n W fn.code (zk args) h with
  | none=>rw [hx] at e; cases e
  | some r =>
   obtain ⟨ex,fr1,h1⟩:=r
   rw [hx] at e
   cases ex with
   | exit id=>cases e
   | normal =>
    dsimp only at e
    split at e
    ·rename_i u hu
     cases e
     exact .inl ⟨fn,.normal,fr1,rfl,hx,.inl rfl,hu⟩
    ·cases e
   | ret =>
    dsimp only at e
    split at e
    ·rename_i u hu
     cases e
     exact .inl ⟨fn,.ret,fr1,rfl,hx,.inr rfl,hu⟩
    ·cases e

theorem ql5 (E:Env) : ∀ n,CallKeeps (xu E n):=by
 intro n
 induction n with
 | zero=>intro W f args h v h' e; simp only [xu] at e; cases e
 | succ n ih =>
  intro W f args h v h' e
  rcases qmj e with ⟨fn,ex,fr1,_,hx,_,_⟩ | ⟨o,_,ho⟩
  ·exact qri ih n _ hx
  ·exact qux ho
end
end Go.Proofs.Ytanblnjomhgphaa.X
namespace Go.Proofs.Ytanblnjomhgphaa.X
open Go

def OrcOk (P:Program)(sz:TypeId→Nat)(f:Nat)(o:Orc) : Prop:=∀ W args h v h',qmy W args h o=some (v,h')→∀ (φ:Phi) (L:Nat) (w:World) (cargs:Array Value),(∀ b,W b=true→L≤b)→Rel sz φ L h w→LRel sz φ L w args cargs.toList →
 (∃ fn,P.funcs[f]? = some fn∧fn.name ≠ "runtime.NumGoroutine" ∧ fn.body.isSome=true)∧Calls P f cargs w (fun e w'=>∃ cv φ',e = .returned cv∧Sim sz φ L W h w v h' φ' w' cv)

structure FnsOk (P:Program) (T:Tab) (E:Env) : Prop where
 fns:∀ f xf,E.fns f=some xf→∃ fn body an,P.funcs[f]? = some fn∧fn.name ≠ "runtime.NumGoroutine" ∧ fn.body=some body∧yb T xf.ntmps body an=some (xf.code,[])∧xf.ntmps≤fn.ntmps∧fn.results.toList.map (qd7 T)=xf.results.map some
 orc:∀ f o,E.orc f=some o→OrcOk P E.sz f o

def qmd (tmps:Array Value)(r:ResultVar) : Sem Value :=
 match r with
 | .tmp t=>pure (tmps.getD t undef)
 | .cell ad t=>do loadVar t (← asAddr (tmps.getD ad undef))

section
variable {P:Program}{T:Tab}{sz:TypeId→Nat}{E:Env}{C:CallF}{W:Nat→Bool}{L nt:Nat}{φ:Phi}{h h':Heap}{w:World}{fr:Fr}{a:Act}

theorem zaz (HT:∀ t ti,T t=some ti→TOk P T sz t ti)(R:Rel sz φ L h w)(F:FRel sz φ L w nt fr a){r:ResultVar}{xr:XRes}(hc:qd7 T r=some xr){v:XV}(hx:qec fr h xr=some v) :
  ∃ cv,(qmd a.tmps r).run P w = .ok cv w∧VRel sz φ L w v cv:=by
 cases r with
 | tmp t =>
  simp only [qd7] at hc
  cases hc
  simp only [qec] at hx
  cases hx
  exact ⟨_,Sem.run_pure ..,F.vals t⟩
 | cell ad t =>
  simp only [qd7] at hc
  split at hc
  ·rename_i ti ht
   cases hc
   have hv:=F.vals ad
   have hld:ze (fun _=>false) (XO.ev fr) h (.ld (if ti.k.agg then some ti.size else none) (.t ad))=some (v,h):=by
    cases hk:ti.k.agg with
    | false =>
     rw [hk] at hx
     simp only [a06,if_false,qec] at hx
     simp only [a06,if_false,ze,XO.ev]
     cases hf:fr ad <;> rw [hf] at hx <;> first | (cases hx; done) | skip
     dsimp only at hx ⊢
     rw [hx]
    | true =>
     rw [hk] at hx
     simp only [if_true,qec] at hx
     simp only [if_true,ze,XO.ev]
     cases hf:fr ad <;> rw [hf] at hx <;> first | (cases hx; done) | skip
     dsimp only at hx ⊢
     split at hx
     ·cases hx; rfl
     ·cases hx
   obtain ⟨cv,h1,h2,_⟩:=qur (HT _ _ ht) R (ev:=XO.ev fr) (a := .t ad) (va:=a.tmps.getD ad undef) hv hld
   refine ⟨cv,?_,h2⟩
   simp only [qmd]
   generalize a.tmps.getD ad undef=va at h1 hv
   have:∃ b,va = .pointer (some b):=by
    have hf2:∃ b o,fr ad = .ptr b o:=by
     cases hk:ti.k.agg <;> rw [hk] at hx <;> simp only [qec,a06,if_false,if_true] at hx <;>
      (cases hf:fr ad <;> rw [hf] at hx <;> first | (cases hx; done) | exact ⟨_,_,rfl⟩)
    obtain ⟨b,o,hf2⟩:=hf2
    rw [hf2] at hv
    cases hv
    exact ⟨_,rfl⟩
   obtain ⟨b,rfl⟩:=this
   simpa [Instr.loadAt,Instr.sureAddr,asAddr] using h1
  ·cases hc

theorem q1m (HT:∀ t ti,T t=some ti→TOk P T sz t ti)(R:Rel sz φ L h w)(F:FRel sz φ L w nt fr a) : ∀ {rs:List ResultVar} {xrs:List XRes} {vs:List XV},rs.map (qd7 T)=xrs.map some→xrs.mapM (qec fr h)=some vs →
  ∃ cvs,(rs.mapM (qmd a.tmps)).run P w = .ok cvs w∧LRel sz φ L w vs cvs:=by
 intro rs
 induction rs with
 | nil =>
  intro xrs vs h1 h2
  cases xrs with
  | nil =>
   simp at h2
   subst h2
   exact ⟨[],by simp,⟨rfl,fun i a b h1=>by simp at h1⟩⟩
  | cons x xs=>simp at h1
 | cons r rs ih =>
  intro xrs vs h1 h2
  cases xrs with
  | nil=>simp at h1
  | cons x xs =>
   simp only [a3q,List.cons.injEq] at h1
   rw [a29] at h2
   cases hx:qec fr h x with
   | none=>simp [hx] at h2
   | some v =>
    cases hxs:xs.mapM (qec fr h) with
    | none=>simp [hx,hxs] at h2
    | some vs' =>
     simp [hx,hxs] at h2
     subst h2
     obtain ⟨cv,h3,h4⟩:=zaz HT R F h1.1 hx
     obtain ⟨cvs,h5,h6⟩:=ih h1.2 hxs
     refine ⟨cv::cvs,?_,⟨by simp [h6.len],fun i a b ha hb=>?_⟩⟩
     ·rw [a29,Sem.run_bind,h3]
      simp only [Result.andThen,Sem.run_bind,h5,Sem.run_pure]
     ·cases i with
      | zero=>simp at ha hb; subst ha; subst hb; exact h4
      | succ i=>exact h6.at_ i a b (by simpa using ha) (by simpa using hb)

theorem qpy (HT:∀ t ti,T t=some ti→TOk P T sz t ti)(R:Rel sz φ L h w)(F:FRel sz φ L w nt fr a){fn:Func}{xrs:List XRes}{v:XV}(hc:fn.results.toList.map (qd7 T)=xrs.map some)(hx:qdu xrs fr h=some v) :
  ∃ cv,(results fn a.tmps).run P w = .ok cv w∧VRel sz φ L w v cv:=by
 unfold qdu at hx
 cases hvs:xrs.mapM (qec fr h) with
 | none=>rw [hvs] at hx; cases hx
 | some vs =>
  rw [hvs] at hx
  obtain ⟨cvs,h1,h2⟩:=q1m HT R F hc hvs
  have hl:=h2.len
  have hrun:(results fn a.tmps).run P w = .ok (if h:cvs.toArray.size=1 then cvs.toArray[0] else .tuple cvs.toArray) w:=by
   unfold results
   rw [show fn.results=fn.results.toList.toArray by simp,List.mapM_toArray]
   simp only [Sem.run_bind,Sem.run_map]
   have e:∀ (f:ResultVar→Sem Value),f=qmd a.tmps→(List.mapM f fn.results.toList).run P w = .ok cvs w:=fun f e=>by rw [e]; exact h1
   rw [e _ (funext fun r=>by cases r <;> rfl)]
   simp [Result.andThen]
  cases vs with
  | nil =>
   simp at hx
   subst hx
   cases cvs with
   | nil=>exact ⟨_,hrun,.tup [] _ rfl (fun i v cv h=>by simp at h)⟩
   | cons c cs=>simp at hl
  | cons v0 vs =>
   cases cvs with
   | nil=>simp at hl
   | cons c cs =>
    cases vs with
    | nil =>
     simp at hx
     subst hx
     cases cs with
     | nil=>exact ⟨_,hrun,h2.at_ 0 _ _ rfl rfl⟩
     | cons c2 cs=>simp at hl
    | cons v1 vs =>
     simp at hx
     subst hx
     refine ⟨_,hrun,?_⟩
     cases cs with
     | nil=>simp at hl
     | cons c2 cs =>
      rw [dif_neg (by simp)]
      exact .tup _ _ (by simpa using hl) (fun i v cv ha hb=>h2.at_ i v cv ha (by simpa using hb))

theorem qx1 (HF:FnsOk P T E)(HT:∀ t ti,T t=some ti→TOk P T E.sz t ti)(hmix:P.follows .mixedOrders=true) : ∀ n,CallOk P E.sz (xu E n):=by
 intro n
 induction n with
 | zero=>intro W f args h v h' e; simp only [xu] at e; cases e
 | succ n ih =>
  intro W f args h v h' e φ L w cargs hW R ha
  rcases qmj e with ⟨xf,ex,fr1,hf,hx,hex,hr⟩ | ⟨o,ho,hx⟩
  case inr=>exact HF.orc f o ho W args h v h' hx φ L w cargs hW R ha
  obtain ⟨fn,body,an,p1,p2,p3,p4,p5,p6⟩:=HF.fns f xf hf
  refine ⟨⟨fn,p1,p2,by rw [p3]; rfl⟩,calls_of_wp p1 p3 ?_⟩
  have F:FRel E.sz φ L w xf.ntmps (zk args) { tmps:=cargs++Array.replicate (fn.ntmps - cargs.size) undef,defers:=[] }:=by
   refine ⟨fun t=>?_,by simp; omega,rfl⟩
   unfold zk
   have hl:=ha.len
   simp only [a3x] at hl
   by_cases ht:t<cargs.size
   ·have h1:(cargs++Array.replicate (fn.ntmps - cargs.size) undef).getD t undef=cargs[t]:=by
     rw [a1l,Array.getElem?_append_left ht,a09 ht]; rfl
    rw [h1]
    have h2:args[t]? = some args[t]:=s8 (by omega)
    rw [List.getD_eq_getElem?_getD,h2]
    exact ha.at_ t _ _ h2 (by simp [ht])
   ·rw [List.getD_eq_getElem?_getD,a00 (by omega)]
    exact .undef _
  refine qzj rfl ih (ql5 E n) HT hW hmix n body an [] xf.code p4 R F hx (fun φ' a' w' S=>?_)
  obtain ⟨cv,r1,r2⟩:=qpy HT S.rel S.frame p6 hr
  have fin:a'.defers=[]∧∃ a9,(results fn a'.tmps).run P w' = .ok a9 w'∧(∃ cv φ',Ending.returned a9 = .returned cv∧Sim E.sz φ L W h w v h' φ' w' cv) :=
   ⟨S.frame.defers,cv,r1,cv,φ',rfl,⟨S.ext,S.rel,r2,S.born,S.hold,S.grow⟩⟩
  rcases hex with rfl | rfl
  ·exact fin
  ·exact fin
end
end Go.Proofs.Ytanblnjomhgphaa.X
namespace Go.Proofs.Ytanblnjomhgphaa.X
open Go

inductive Fits (T:Tab) : Nat→List XV→Prop
 | int {t:Nat} {ti:TI} {k:IntKind} {n:Int} (ht:T t=some ti) (hk:ti.k = .int k) (hw:(Lit.int k n).wf=true) : Fits T t [.int k n]
 | bool {t:Nat} {ti:TI} {b:Bool} (ht:T t=some ti) (hk:ti.k = .bool) : Fits T t [.bool b]
 | str {t:Nat} {ti:TI} {s:ByteArray} (ht:T t=some ti) (hk:ti.k = .str) (hs:s.size≤reachBytes) : Fits T t [.str s]
 | slice {t e:Nat} {ti ei:TI} {es:List (List XV)} (ht:T t=some ti) (hk:ti.k = .slice e) (he:T e=some ei) (hs:es.length*ei.bytes≤reachBytes) (hl:∀ (i:Nat) cs,es[i]? = some cs→cs.length=ei.size) (hf:∀ (i:Nat) cs,es[i]? = some cs→Fits T e cs) : Fits T t [.list es]
 | struct {t:Nat} {ti:TI} {fs:List (Nat × Nat)} {ps:List (List XV)} (ht:T t=some ti) (hk:ti.k = .struct fs) (hl:ps.length=fs.length) (hf:∀ (i:Nat) f p,fs[i]? = some f→ps[i]? = some p→Fits T f.2 p) : Fits T t ps.flatten

def ql0 (T:Tab) : Nat→List (Nat × Nat)→Nat→Bool
 | o,[],n=>o == n
 | o,(o',t)::r,n=>match T t with
  | some ti=>o == o'&&ql0 T (o+ti.size) r n
  | none=>false

def rd (T:Tab) : Nat→Nat→Bool
 | 0,_=>false
 | d+1,t=>match T t with
  | some ti=>match ti.k with
   | .int _ | .bool | .str=>true
   | .slice e=>(match T e with
    | some ei=>decide (0<ei.size)
    | none=>false)&&rd T d e
   | .struct fs=>ql0 T 0 fs ti.size&&fs.all (fun f=>rd T d f.2)
   | _=>false
  | none=>false

section
variable {H:Type}{enc:TypeId × Value→H}{P:Program}{T:Tab}{sz:TypeId→Nat}{w:World}{spare:Nat→Bool}{held:Bool}

def qfz:Phi:=fun _ => .none
theorem wr0 (cb:Nat) : ¬ Wr qfz 0 cb:=by rintro ⟨b,δ,_,e⟩; cases e

theorem TOk.cellsOf {t:Nat}{ti:TI}(H:TOk P T sz t ti) : P.cellsOf t=ti.size∧P.bytesOf t=ti.bytes:=by
 obtain ⟨i,z,h1,h2,h3,_⟩:=H.info
 simp [Program.cellsOf,Program.bytesOf,h1,h2,h3]

theorem cells?_at {b n:Nat}{a:Addr}{cs:List Value}(h:w.cells? b a n=some cs) : cs.length=n∧∀ j,j<n→∃ v,cs[j]? = some v∧w.cell? (a.add j)=some v:=by
 unfold World.cells? at h
 split at h
 ·obtain ⟨h1,h2⟩:=x5 h
  refine ⟨by simpa using h1,fun j hj=>?_⟩
  exact h2 j j (by rw [List.getElem?_range hj])
 ·cases h

theorem cell?_spot {a:Addr}{v:Value}(h:w.cell? a=some v) : a.spot=none∧a.block<w.heap.size:=by
 refine ⟨?_,qqk h⟩
 unfold World.cell? at h
 split at h
 ·split at h
  ·cases h
  ·rename_i hs
   simpa using hs
 ·cases h

theorem qrb (HT:∀ t ti,T t=some ti→TOk P T sz t ti){r:TypeId→List Value→Option (DataW H × List MemPlace)}
  (ih:∀ (t:Nat) cs x,r t cs=some x→(x.1.weights P t).all (· ≤ reachBytes)=true→∀ d,rd T d t=true→∃ xs,Fits T t xs∧LRel sz qfz 0 w xs cs) {cs:List Value} :
  ∀ {fs:List Field} {o n d:Nat} {xs:List (DataW H × List MemPlace)},ql0 T o (fs.map fun f=>(f.offset,f.type)) n=true→(fs.all (fun f=>rd T d f.type))=true→cs.length=n →
   xs.length=fs.length→(∀ (i:Nat) (f:Field),fs[i]? = some f→r f.type ((cs.drop f.offset).take (P.cellsOf f.type))=xs[i]?)→(DataW.weightsEach P (fs.map (·.type)) (xs.map (·.1))).all (· ≤ reachBytes)=true →
   ∃ ps:List (List XV),ps.length=fs.length∧(∀ (i:Nat) f p,fs[i]? = some f→ps[i]? = some p→Fits T f.type p)∧LRel sz qfz 0 w ps.flatten (cs.drop o):=by
 intro fs
 induction fs with
 | nil =>
  intro o n d xs ht _ hn _ _ _
  simp only [List.map_nil,ql0,beq_iff_eq] at ht
  refine ⟨[],rfl,fun i f p h=>by simp at h,?_⟩
  have:cs.drop o=[]:=List.drop_eq_nil_of_le (by omega)
  rw [this]
  exact ⟨rfl,fun i a b h=>by simp at h⟩
 | cons f fs ihf =>
  intro o n d xs ht hr hn hl hm hw
  simp only [a3q,ql0] at ht
  split at ht
  ·rename_i ti hti
   simp only [a0s,beq_iff_eq] at ht
   obtain ⟨rfl,ht⟩:=ht
   simp only [a26,a0s] at hr
   have hsz:=(HT _ _ hti).cellsOf.1
   cases xs with
   | nil=>simp at hl
   | cons x xs =>
    have hx:=hm 0 f rfl
    rw [hsz] at hx
    simp only [a1k] at hx
    simp only [a3q,DataW.weightsEach,a2l,a0s] at hw
    obtain ⟨p,hp1,hp2⟩:=ih _ _ _ hx hw.1 d hr.1
    obtain ⟨ps,h1,h2,h3⟩:=ihf ht hr.2 hn (by simpa using hl) (fun i g hg=>hm (i+1) g (by simpa using hg)) hw.2
    refine ⟨p::ps,by simp [h1],fun i g q hg hq=>?_,?_⟩
    ·cases i with
     | zero=>simp at hg hq; subst hg; subst hq; exact hp1
     | succ i=>exact h2 i g q (by simpa using hg) (by simpa using hq)
    ·have e:cs.drop f.offset=(cs.drop f.offset).take ti.size++cs.drop (f.offset+ti.size):=by
      rw [←List.drop_drop,List.take_append_drop]
     rw [List.flatten_cons,e]
     exact LRel.append hp2 h3
  ·cases ht

theorem qn9:∀ {l:List (DataW H)} {e:TypeId},(DataW.weightsAll P e l).all (· ≤ reachBytes)=true→∀ (i:Nat) x,l[i]? = some x→(x.weights P e).all (· ≤ reachBytes)=true:=by
 intro l
 induction l with
 | nil=>intro e _ i x h; simp at h
 | cons y r ih =>
  intro e h i x hx
  simp only [DataW.weightsAll,a2l,a0s] at h
  cases i with
  | zero=>simp at hx; subst hx; exact h.1
  | succ i=>exact ih h.2 i x (by simpa using hx)

theorem qp3 {α:Type}{Q:Nat→α→Prop} : ∀ (n:Nat),(∀ i,i<n→∃ a,Q i a)→∃ l:List α,l.length=n∧∀ (i:Nat) a,l[i]? = some a→Q i a:=by
 intro n
 induction n with
 | zero=>intro _; exact ⟨[],rfl,fun i a h=>by simp at h⟩
 | succ n ih =>
  intro h
  obtain ⟨l,h1,h2⟩:=ih (fun i hi=>h i (by omega))
  obtain ⟨a,ha⟩:=h n (by omega)
  refine ⟨l++[a],by simp [h1],fun i b hb=>?_⟩
  by_cases hi:i<l.length
  ·rw [a0a hi] at hb
   exact h2 i b hb
  ·rw [a0i (by omega)] at hb
   have:i - l.length=0:=by
    rcases Nat.eq_zero_or_pos (i - l.length) with h | h
    ·exact h
    ·rw [a00 (by simp; omega)] at hb; cases hb
   rw [this] at hb
   simp at hb
   subst hb
   rw [show i=n by omega]
   exact ha

theorem qwh (HT:∀ t ti,T t=some ti→TOk P T sz t ti) : ∀ (fuel:Nat) (t:Nat) (cs:List Value) (x:DataW H × List MemPlace),DataW.trod enc P w 0 spare held fuel t cs=some x→(x.1.weights P t).all (· ≤ reachBytes)=true→∀ d,rd T d t=true →
  ∃ xs,Fits T t xs∧LRel sz qfz 0 w xs cs:=by
 intro fuel
 induction fuel with
 | zero=>intro t cs x h; simp [DataW.trod] at h
 | succ fuel ih =>
  intro t cs x h hw d hr
  cases d with
  | zero=>simp [rd] at hr
  | succ d =>
   simp only [rd] at hr
   cases hT:T t with
   | none=>rw [hT] at hr; cases hr
   | some ti =>
    rw [hT] at hr
    dsimp only at hr
    have HO:=HT t ti hT
    obtain ⟨ds,hu,hd⟩:=HO.desc
    have one:∀ {u:XV} {cv:Value},VRel sz qfz 0 w u cv→LRel sz qfz 0 w [u] [cv]:=fun hv=>⟨rfl,fun i a b h1 h2=>by
     rcases i with _ | i
     ·simp at h1 h2; subst h1; subst h2; exact hv
     ·simp at h1⟩
    cases hk:ti.k with
    | int k =>
     rw [hk] at hd
     cases ds <;> simp [ka] at hd
     subst hd
     obtain ⟨n,rfl,rfl,hwf⟩:=DataW.trod_int hu h
     exact ⟨_,.int hT hk hwf,one (.int _ _)⟩
    | bool =>
     rw [hk] at hd
     cases ds <;> simp [ka] at hd
     obtain ⟨b,rfl,rfl⟩:=DataW.trod_bool hu h
     exact ⟨_,.bool hT hk,one (.bool _)⟩
    | str =>
     rw [hk] at hd
     cases ds <;> simp [ka] at hd
     obtain ⟨s,rfl,rfl,_⟩:=DataW.trod_string hu h
     refine ⟨_,.str hT hk ?_,one (.str s)⟩
     simp only [DataW.weights,a26,List.all_nil,Bool.and_true,decide_eq_true_eq,a3x] at hw
     exact hw
    | slice e =>
     rw [hk] at hd hr
     cases ds <;> simp [ka] at hd
     rename_i e'
     subst hd
     simp only [a0s] at hr
     rcases DataW.trod_slice hu h with ⟨rfl,rfl⟩ | ⟨a,len,cap,elems,rest,n,hfu,rfl,rfl,hb,hl,hm,hlen,hel,_,_⟩
     ·cases hTe:T e with
      | none=>rw [hTe] at hr; cases hr.1
      | some ei=>exact ⟨_,.slice (es:=[]) hT hk hTe (by simp) (fun i cs h=>by simp at h) (fun i cs h=>by simp at h),one qen⟩
     ·obtain rfl:fuel=n:=by omega
      cases hTe:T e with
      | none=>rw [hTe] at hr; cases hr.1
      | some ei =>
       rw [hTe] at hr
       have hpos:0<ei.size:=of_decide_eq_true hr.1
       have HE:=HT e ei hTe
       obtain ⟨hce,hbe⟩:=HE.cellsOf
       rw [hce] at hel
       have hwt:(elems.length+rest.length)*ei.bytes≤reachBytes∧(DataW.weightsAll P e (elems.map (·.1))).all (· ≤ reachBytes)=true:=by
        simp only [DataW.weights,hu,a26,a2l,a0s,decide_eq_true_eq,List.length_map] at hw
        rw [hbe] at hw
        exact ⟨hw.1,hw.2.1⟩
       have each:∀ i,i<len→∃ (p:List XV),Fits T e p∧∃ cs,w.cells? 0 (a.add (i*ei.size)) ei.size=some cs∧LRel sz qfz 0 w p cs:=by
        intro i hi
        have h1:=hel i hi
        have hil:i<elems.length:=by omega
        rw [s8 hil,Option.bind_eq_some_iff] at h1
        obtain ⟨cs,h2,h3⟩:=h1
        obtain ⟨p,h4,h5⟩:=ih _ _ _ h3 (qn9 hwt.2 i _ (by simp [hil])) d hr.2
        exact ⟨p,h4,cs,h2,h5⟩
       obtain ⟨es,h1,h2⟩:=qp3 len each
       have hcell:∀ i,i<len→∀ j,j<ei.size→∃ v,w.cell? (a.add (i*ei.size+j))=some v:=by
        intro i hi j hj
        obtain ⟨p,_,cs,h3,_⟩:=each i hi
        obtain ⟨v,_,h4⟩:=(cells?_at h3).2 j hj
        rw [qf9] at h4
        exact ⟨v,h4⟩
       have hlen2:∀ (i:Nat) cs,es[i]? = some cs→cs.length=ei.size:=by
        intro i p hp
        obtain ⟨_,cs,h3,h4⟩:=h2 i p hp
        rw [h4.len,(cells?_at h3).1]
       refine ⟨_,.slice hT hk hTe ?_ hlen2 (fun i p hp=>(h2 i p hp).1),one ?_⟩
       ·rw [h1,← hlen]
        exact a1q (Nat.mul_le_mul_right _ (by omega)) hwt.1
       ·rw [←h1]
        refine .list es (some a) cap ei.size (fun i j=>(w.cell? (a.add (i*ei.size+j))).getD undef) (by omega) hlen2 (fun h0=>?_) (fun ad i j e1 hi hj=>?_) (fun i p j v hp hv=>?_)
        ·obtain ⟨v,h3⟩:=hcell 0 (by omega) 0 hpos
         rw [show 0*ei.size+0=0 by omega] at h3
         have h4:=cell?_spot h3
         have:a.add 0=a:=by simp [Addr.add]
         rw [this] at h4
         exact ⟨a,rfl,h4.1,h4.2,wr0 _⟩
        ·cases e1
         obtain ⟨v,h3⟩:=hcell i (by omega) j hj
         rw [h3]
         rfl
        ·obtain ⟨_,cs,h3,h4⟩:=h2 i p hp
         have hj:j<ei.size:=by
          rw [←hlen2 i p hp]
          exact (r9.1 hv).1
         obtain ⟨cv,h5,h6⟩:=(cells?_at h3).2 j hj
         rw [qf9] at h6
         rw [h6]
         exact h4.at_ j v cv hv h5
    | struct fs =>
     rw [hk] at hd hr
     cases ds <;> simp [ka] at hd
     rename_i fields
     simp only [a0s] at hr
     obtain ⟨xs,n,hfu,rfl,hcl,hxl,hat⟩:=DataW.trod_struct hu h
     obtain rfl:fuel=n:=by omega
     have hwt:(DataW.weightsEach P (fields.toList.map (·.type)) (xs.map (·.1))).all (· ≤ reachBytes)=true:=by
      simpa only [DataW.weights,hu] using hw
     rw [←hd] at hr
     obtain ⟨ps,h1,h2,h3⟩:=qrb HT (fun t cs x hx hw d hr=>ih t cs x hx hw d hr) (fs:=fields.toList) (d:=d) hr.1 (by simpa [List.all_map] using hr.2) (by rw [hcl,HO.cellsOf.1]) (by simpa using hxl) (fun i f hf=>hat i f (by simpa using hf)) hwt
     refine ⟨_,.struct hT hk (ps:=ps) (by rw [h1,← hd]; simp) (fun i f p hf hp=>?_),by simpa using h3⟩
     rw [←hd,List.getElem?_map] at hf
     cases hfi:fields.toList[i]? with
     | none=>rw [hfi] at hf; cases hf
     | some g =>
      rw [hfi] at hf
      cases hf
      exact h2 i g p hfi hp
    | _=>rw [hk] at hr; cases hr
end
end Go.Proofs.Ytanblnjomhgphaa.X
namespace Go.Proofs.Ytanblnjomhgphaa.X
open Go Go.RowKit

def FitsV (T:Tab)(t:Nat)(x:XV) : Prop:=∃ ti,T t=some ti∧(if ti.k.agg then ∃ xs,x = .agg xs∧Fits T t xs else Fits T t [x])

section
variable {H:Type}{enc:TypeId × Value→H}{P:Program}{T:Tab}{sz:TypeId→Nat}{w:World}{spare:Nat→Bool}{held:Bool}

theorem q04 {t:Nat}{ti:TI}{xs:List XV}(hT:T t=some ti)(ha:ti.k.agg=false)(h:Fits T t xs) : ∃ x,xs=[x]:=by
 cases h with
 | struct ht hk _ _=>rw [hT] at ht; cases ht; rw [hk] at ha; cases ha
 | int=>exact ⟨_,rfl⟩
 | bool=>exact ⟨_,rfl⟩
 | str=>exact ⟨_,rfl⟩
 | slice=>exact ⟨_,rfl⟩

theorem za0 (HT:∀ t ti,T t=some ti→TOk P T sz t ti){t:Nat}{v:Value}{d:DataW H}{p:List MemPlace}{base:Nat}(hval:Value.okWide P w .any base t v)(h:DataW.Trod enc P w 0 spare held t v d p)
  (hw:(d.weights P t).all (· ≤ reachBytes)=true) {dp:Nat} (hr:rd T dp t=true) : ∃ x,VRel sz qfz 0 w x v∧FitsV T t x:=by
 obtain ⟨fuel,hf⟩:=h
 obtain ⟨xs,h1,h2⟩:=qwh HT fuel t v.cells.toList (d,p) hf hw dp hr
 cases hT:T t with
 | none=>cases dp <;> simp [rd,hT] at hr
 | some ti =>
  obtain ⟨ds,hu,hd⟩:=(HT t ti hT).desc
  cases ha:ti.k.agg with
  | true =>
   cases hk:ti.k with
   | struct fs =>
    rw [hk] at hd
    cases ds <;> simp [ka] at hd
    obtain ⟨cs,rfl,_⟩:=Go.WideShapes.okWide_struct hu hval
    exact ⟨.agg xs,.agg xs cs (by simpa [Value.cells] using h2.len) (fun i a b h3 h4=>h2.at_ i a b h3 (by simpa [Value.cells] using h4)),ti,hT,by rw [if_pos ha]; exact ⟨xs,rfl,h1⟩⟩
   | array n e=>cases dp <;> simp [rd,hT,hk] at hr
   | _=>rw [hk] at ha; cases ha
  | false =>
   obtain ⟨x,rfl⟩:=q04 hT ha h1
   have hv:v.cells = #[v]:=by
    cases hk:ti.k with
    | int k =>
     rw [hk] at hd
     cases ds <;> simp [ka] at hd
     obtain ⟨n,rfl⟩:=Go.WideShapes.okWide_int hu hval
     rfl
    | bool =>
     rw [hk] at hd
     cases ds <;> simp [ka] at hd
     obtain ⟨n,rfl⟩:=Go.WideShapes.okWide_bool hu hval
     rfl
    | str =>
     rw [hk] at hd
     cases ds <;> simp [ka] at hd
     obtain ⟨n,rfl⟩:=Go.WideShapes.okWide_string hu hval
     rfl
    | slice e =>
     rw [hk] at hd
     cases ds <;> simp [ka] at hd
     obtain ⟨a,l,c,rfl⟩:=Go.WideShapes.okWide_slice hu hval
     rfl
    | struct fs=>rw [hk] at ha; cases ha
    | array n e=>rw [hk] at ha; cases ha
    | ptr=>cases dp <;> simp [rd,hT,hk] at hr
    | other=>cases dp <;> simp [rd,hT,hk] at hr
   rw [hv] at h2
   exact ⟨x,h2.at_ 0 x v rfl (by simp),ti,hT,by rw [ha]; simpa using h1⟩

theorem q02 (HT:∀ t ti,T t=some ti→TOk P T sz t ti){base dp:Nat} : ∀ {ts:List TypeId} {vs:List Value} {ds:List (DataW H)} {p:List MemPlace},DataW.TrodAll enc P w 0 spare held ts vs ds p →
  (∀ (j:Nat) t v,ts[j]? = some t→vs[j]? = some v→Value.okWide P w .any base t v)→(DataW.weightsEach P ts ds).all (· ≤ reachBytes)=true→(ts.all fun t=>rd T dp t)=true →
  ∃ xs,LRel sz qfz 0 w xs vs∧xs.length=ts.length∧∀ (j:Nat) t x,ts[j]? = some t→xs[j]? = some x→FitsV T t x:=by
 intro ts
 induction ts with
 | nil =>
  intro vs ds p h _ _ _
  cases vs <;> cases ds <;> simp [DataW.TrodAll] at h
  exact ⟨[],⟨rfl,fun i a b h=>by simp at h⟩,rfl,fun j t x h=>by simp at h⟩
 | cons t ts ih =>
  intro vs ds p h hval hw hr
  cases vs with
  | nil=>simp [DataW.TrodAll] at h
  | cons v vs =>
   cases ds with
   | nil=>simp [DataW.TrodAll] at h
   | cons d ds =>
    obtain ⟨p1,q1,h1,h2,_⟩:=h
    simp only [DataW.weightsEach,a2l,a0s] at hw
    simp only [a26,a0s] at hr
    obtain ⟨x,h3,h4⟩:=za0 HT (hval 0 t v rfl rfl) h1 hw.1 hr.1
    obtain ⟨xs,h5,h6,h7⟩:=ih h2 (fun j t' v' ha hb=>hval (j+1) t' v' (by simpa using ha) (by simpa using hb)) hw.2 hr.2
    refine ⟨x::xs,⟨by simp [h5.len],fun i a b ha hb=>?_⟩,by simp [h6],fun j t' x' ha hb=>?_⟩
    ·cases i with
     | zero=>simp at ha hb; subst ha; subst hb; exact h3
     | succ i=>exact h5.at_ i a b (by simpa using ha) (by simpa using hb)
    ·cases j with
     | zero=>simp at ha hb; subst ha; subst hb; exact h4
     | succ j=>exact h7 j t' x' (by simpa using ha) (by simpa using hb)

theorem q0s (hl:laidOutB P=true){W W':World}(hb:Below W.heap.size W W') : ∀ {ts:List TypeId} {vs:List Value} {ds:List (DataW H)} {p:List MemPlace},(ts.all fun t=>P.readableRec t&&decide (t<P.types.size))=true →
  DataW.TrodAll enc P W 0 (fun _=>true) true ts vs ds p→∃ q,DataW.TrodAll enc P W' 0 (fun b=>decide (b<W.heap.size)) true ts vs ds q:=by
 intro ts
 induction ts with
 | nil =>
  intro vs ds p _ h
  cases vs <;> cases ds <;> simp [DataW.TrodAll] at h ⊢
 | cons t ts ih =>
  intro vs ds p hr h
  cases vs with
  | nil=>simp [DataW.TrodAll] at h
  | cons v vs =>
   cases ds with
   | nil=>simp [DataW.TrodAll] at h
   | cons d ds =>
    obtain ⟨p1,q1,h1,h2,_⟩:=h
    simp only [a26,a0s,decide_eq_true_eq] at hr
    obtain ⟨q,h3⟩:=ih (by simpa [a0x] using hr.2) h2
    have hlt:∀ x∈p1,x.block<W.heap.size:=by
     obtain ⟨m,hm⟩:=h1
     exact DataW.trod_lt m _ _ _ hm
    exact ⟨p1++q,p1,q,Below.trod hl hr.1.1 hr.1.2 h1 hb hlt,h3,rfl⟩

theorem qox {W W':World}{Wb:Nat→Bool}{φ':Phi}(hE:Ext 0 Wb qfz φ' W W') : Below W.heap.size W W' :=
 ⟨hE.os,hE.tape,hE.output,hE.size,fun k hk=>hE.unch k hk (fun b δ _ e=>by cases e)⟩

theorem qt1 {E:Env}(HF:FnsOk P T E)(HT:∀ t ti,T t=some ti→TOk P T E.sz t ti)(hmix:P.follows .mixedOrders=true){f n:Nat}{xs:List XV}{h':Heap}(hx:xu E n (fun _=>true) f xs []=some (.bool true,h'))
  {W:World} {cargs:Array Value} (ha:LRel E.sz qfz 0 W xs cargs.toList) : Calls P f cargs W (fun e W'=>e = .returned (.bool true)∧Below W.heap.size W W'):=by
 have R:Rel E.sz qfz 0 [] W:=by
  refine ⟨fun b cb δ e=>?_,fun b b' cb δ δ' e=>?_,fun b e=>?_,fun b _=>rfl⟩
  ·cases e
  ·cases e
  ·cases e
 obtain ⟨_,h⟩:=qx1 HF HT hmix n _ f xs [] _ _ hx qfz 0 W cargs (fun b _=>a12 b) R ha
 refine h.mono ?_
 rintro e W' ⟨cv,φ',rfl,S⟩
 refine ⟨?_,qox S.ext⟩
 have:=S.val
 cases this
 rfl
end
end Go.Proofs.Ytanblnjomhgphaa.X
namespace Go.Proofs.Ytanblnjomhgphaa.X
open Go

def kOf:TypeDesc→Option XTy
 | .int k=>some (.int k)
 | .bool=>some .bool
 | .string=>some .str
 | .struct fs=>some (.struct (fs.toList.map fun f=>(f.offset,f.type)))
 | .slice e=>some (.slice e)
 | .array n e=>some (.array n e)
 | .pointer _=>some .ptr
 | .func _ _ _=>some .other
 | _=>none

def zbw (P:Program)(t:Nat) : TypeDesc→Bool
 | .struct fs => !P.stoodInHeld t && !P.eqGuardType P.depth t&&fs.toList.all (fun f=>decide (f.name ≠ "_"))
 | _=>true

def qoj (P:Program)(t:Nat) : Option TI :=
 match P.underlying t,P.info? t with
 | some d,some i=>match kOf d,i.zero with
  | some k,some z=>match z.cells.toList.mapM u0 with
   | some zs=>if zbw P t d=true then some ⟨k,i.size,i.bytes,zs⟩ else none
   | none=>none
  | _,_=>none
 | _,_=>none

theorem q14 {P:Program}{T:Tab}{t:Nat}{ti:TI}(h:qoj P t=some ti) : TOk P T P.cellsOf t ti:=by
 unfold qoj at h
 split at h
 ·rename_i d i hd hi
  split at h
  ·rename_i k z hk hz
   split at h
   ·rename_i zs hzs
    split at h
    ·rename_i he
     cases h
     have hdo:ka k d=true:=by cases d <;> simp [kOf] at hk <;> subst hk <;> simp [ka]
     have hmap:z.cells.toList.map u0=zs.map some:=by
      clear hz he hk hdo
      generalize z.cells.toList=l at hzs
      induction l generalizing zs with
      | nil=>simp at hzs; subst hzs; rfl
      | cons a l ih =>
       rw [a29] at hzs
       cases ha:u0 a with
       | none=>simp [ha] at hzs
       | some b =>
        cases hl:l.mapM u0 with
        | none=>simp [ha,hl] at hzs
        | some r =>
         simp [ha,hl] at hzs
         subst hzs
         simp [ha,ih r hl]
     refine ⟨⟨d,hd,hdo⟩,⟨i,z,hi,rfl,rfl,hz,hmap⟩,by simp [Program.cellsOf,hi],fun fs hfs=>?_⟩
     cases d <;> simp [kOf] at hk <;> subst hk <;> first | (cases hfs; done) | skip
     rename_i fields
     simp only [zbw,a0s,a1x,a0x,decide_eq_true_eq] at he
     exact ⟨he.1.1,he.1.2,fields,hd,he.2⟩
    ·cases h
   ·cases h
  ·cases h
 ·cases h

def qnf (l:List (Nat × TI)) : Tab:=fun t=>(l.find? fun p=>p.1 == t).map (·.2)

def szL (l:List (Nat × TI)) : TypeId→Nat:=fun t=>((qnf l t).map TI.size).getD 0

theorem q94 {P:Program}{l:List (Nat × TI)}(h:∀ p∈l,qoj P p.1=some p.2) : ∀ t ti,qnf l t=some ti→TOk P (qnf l) (szL l) t ti:=by
 intro t ti e
 have key:TOk P (qnf l) P.cellsOf t ti:=by
  unfold qnf at e
  cases hf:l.find? (fun p=>p.1 == t) with
  | none=>rw [hf] at e; cases e
  | some p =>
   rw [hf] at e
   cases e
   have h1:=a3v hf
   have h2:=List.find?_some hf
   simp at h2
   subst h2
   exact q14 (h p h1)
 exact ⟨key.desc,key.info,by simp [szL,e],key.eqs⟩

def qhu (T:Tab) : List ResultVar→Option (List XRes)
 | []=>some []
 | r::rs=>match qd7 T r,qhu T rs with
  | some a,some b=>some (a::b)
  | _,_=>none

theorem qpq {T:Tab} : ∀ {l:List ResultVar} {r:List XRes},qhu T l=some r→l.map (qd7 T)=r.map some:=by
 intro l
 induction l with
 | nil=>intro r e; simp only [qhu] at e; cases e; rfl
 | cons a l ih =>
  intro r e
  simp only [qhu] at e
  split at e
  ·rename_i x y hx hy
   cases e
   simp [hx,ih hy]
  ·cases e

def q0c (T:Tab)(fn:Func)(an:List Ann) : Option XFn :=
 match fn.body,qhu T fn.results.toList with
 | some body,some rs=>match yb T fn.ntmps body an with
  | some (c,[])=>some ⟨c,fn.ntmps,rs⟩
  | _=>none
 | _,_=>none

structure FnOk (P:Program) (T:Tab) (f:Nat) (xf:XFn) : Prop where
 ok:∃ fn an,P.funcs[f]? = some fn∧fn.name ≠ "runtime.NumGoroutine" ∧ q0c T fn an=some xf

def q0y (l:List (Nat × XFn))(f:Nat) : Option XFn:=(l.find? fun p=>p.1 == f).map (·.2)

def q1c (l:List (Nat × Orc))(f:Nat) : Option Orc:=(l.find? fun p=>p.1 == f).map (·.2)
theorem q98 {P:Program}{T:Tab}{l:List (Nat × XFn)}{lo:List (Nat × Orc)}{mode:Nat→Nat}{sz:TypeId→Nat}(h:∀ p∈l,FnOk P T p.1 p.2)(h2:∀ p∈lo,OrcOk P sz p.1 p.2) : FnsOk P T ⟨q0y l,mode,sz,q1c lo⟩:=by
 refine ⟨fun f xf e=>?_,fun f o e=>?_⟩
 case refine_2 =>
  simp only [q1c] at e
  cases hf:lo.find? (fun p=>p.1 == f) with
  | none=>rw [hf] at e; cases e
  | some p =>
   rw [hf] at e
   cases e
   have h3:=List.find?_some hf
   simp at h3
   subst h3
   exact h2 p (a3v hf)
 simp only [q0y] at e
 cases hf:l.find? (fun p=>p.1 == f) with
 | none=>rw [hf] at e; cases e
 | some p =>
  rw [hf] at e
  cases e
  have h1:=a3v hf
  have h2:=List.find?_some hf
  simp at h2
  subst h2
  obtain ⟨fn,an,h3,h4,h5⟩:=(h p h1).ok
  unfold q0c at h5
  split at h5
  ·rename_i body rs hb hr
   split at h5
   ·rename_i c hc
    show ∃ fn body an,P.funcs[p.1]? = some fn∧fn.name ≠ "runtime.NumGoroutine" ∧ fn.body=some body∧yb T p.2.ntmps body an=some (p.2.code,[])∧p.2.ntmps≤fn.ntmps∧fn.results.toList.map (qd7 T)=p.2.results.map some
    rw [←Option.some.inj h5]
    exact ⟨fn,body,an,h3,h4,hb,hc,a0d _,qpq hr⟩
   ·cases h5
  ·cases h5
end Go.Proofs.Ytanblnjomhgphaa.X
