/- A machine of this claim's own, sound for the model's, and plain theory over it: no condition (1). -/
import Derived.Test.YtanblnjomhgphaaZHeap
import Derived.IntWalk
open List renaming all_eq_true→a0x,drop_append_of_le_length→a1s,drop_drop→a2b,drop_succ_cons→s6,flatMap_cons→a3r,flatten_append→a1r,flatten_cons→a0y,getElem?_append_left→a0a,getElem?_eq_some_iff→r9,length_cons→a0p,length_take→a0f,map_cons→a3q,mem_cons→a13,mem_singleton→a1m,nodup_append→a2p,range→a2z,replicate→a0t,take_append_drop→a18,take_append_of_le_length→a1g,take_succ_cons→s5
open Nat renaming le_refl→a0d,succ_mul→a2o,zero_le→a12
set_option linter.unusedVariables false
set_option linter.unusedSimpArgs false
namespace Go.Proofs.Ytanblnjomhgphaa.X
open Go

def cI (n:Int) : List XV:=[.int .i64 n]
def cU8 (n:Int) : List XV:=[.int .u8 n]
def cB (b:Bool) : List XV:=[.bool b]
def cS (s:ByteArray) : List XV:=[.str s]
def lst {α:Type}(f:α→List XV)(l:List α) : XV := .list (l.map f)
def cL {α:Type}(f:α→List XV)(l:List α) : List XV:=[lst f l]

def zy {α:Type}(l:List α)(i:Int) : Option α:=if 0≤i then l[i.toNat]? else none
def sl {α:Type}(l:List α)(lo hi:Int) : Option (List α):=if 0≤lo∧lo≤hi∧hi≤l.length then some ((l.take hi.toNat).drop lo.toNat) else none
def ck {β:Type}(p:Prop)[Decidable p](x:Option β) : Option β:=if p then x else none
def ju {α:Type}(b:Nat)(a x:List α) : Option (List α):=if (a.length+x.length)*b≤70368744177664 then some (a++x) else none
def mkN {α:Type}(b:Nat)(n:Int)(z:α) : Option (List α):=if 0≤n∧n*b≤140737488355328 then some (a0t n.toNat z) else none
def z8 (k:IntKind)(a b:Int) : Int:=k.wrap (BitVec.ofInt k.bits a &&& BitVec.ofInt k.bits b).toNat
def wor (k:IntKind)(a b:Int) : Int:=k.wrap (BitVec.ofInt k.bits a ||| BitVec.ofInt k.bits b).toNat
def qde (k:IntKind)(a b:Int) : Int:=k.wrap (a*2 ^ (min b.toNat k.bits))
def jo (k:IntKind)(a b:Int) : Int:=a.fdiv (2 ^ (min b.toNat k.bits))

inductive Oc (σ ρ:Type) where
 | nxt (s:σ)
 | brk (s:σ)
 | ret (r:ρ)

def jnO {σ ρ:Type}(o:Oc σ ρ)(k:σ→Option ρ) : Option ρ :=
 match o with
 | .nxt s=>k s
 | .brk s=>k s
 | .ret r=>some r
def jn {σ ρ:Type}(x:Option (Oc σ ρ))(k:σ→Option ρ) : Option ρ:=x.bind fun o=>jnO o k
theorem kd {σ ρ:Type}{x:Option (Oc σ ρ)}{k:σ→Option ρ}{r:ρ}(h:jn x k=some r) : ∃ o,x=some o∧jnO o k=some r:=by
 unfold jn at h
 cases x with
 | none=>cases h
 | some o=>exact ⟨o,rfl,h⟩
theorem qk {α β:Type}{x:Option α}{k:α→Option β}{r:β}(h:x.bind k=some r) : ∃ a,x=some a∧k a=some r:=by
 cases x with
 | none=>cases h
 | some a=>exact ⟨a,rfl,h⟩
theorem qa2 {β:Type}{p:Prop}[Decidable p]{x:Option β}{r:β}(h:ck p x=some r) : p∧x=some r:=by
 unfold ck at h
 split at h
 ·exact ⟨by assumption,h⟩
 ·cases h
theorem zba {β:Type}{p:Prop}[Decidable p]{x:Option β}(h:p) : ck p x=x:=if_pos h

def xy {α σ ρ:Type}(B:Nat→α→σ→Option (Oc σ ρ)) : List α→Nat→σ→Option (Oc σ ρ)
 | [],_,s=>some (.nxt s)
 | x::r,i,s=>match B i x s with
  | some (.nxt s')=>xy B r (i+1) s'
  | some (.brk s')=>some (.nxt s')
  | some (.ret q)=>some (.ret q)
  | none=>none
def jt {α σ ρ:Type}(B:Nat→α→σ→Option (Oc σ ρ))(l:List α)(s:σ) : Option (Oc σ ρ):=if l.length≤4611686018427387904 then xy B l 0 s else none
def qdv {σ ρ:Type}(B:Nat→σ→Option (Oc σ ρ)) : Nat→Nat→σ→Option (Oc σ ρ)
 | 0,_,s=>some (.nxt s)
 | n+1,i,s=>match B i s with
  | some (.nxt s')=>qdv B n (i+1) s'
  | some (.brk s')=>some (.nxt s')
  | some (.ret q)=>some (.ret q)
  | none=>none
def wi {σ ρ:Type}(B:Nat→σ→Option (Oc σ ρ))(n:Int)(s:σ) : Option (Oc σ ρ):=if n≤4611686018427387904 then qdv B n.toNat 0 s else none
def wo {σ ρ:Type}(B:σ→Option (Oc σ ρ)) : Nat→σ→Option (Oc σ ρ)
 | 0,_=>none
 | n+1,s=>match B s with
  | some (.nxt s')=>wo B n s'
  | some (.brk s')=>some (.nxt s')
  | some (.ret q)=>some (.ret q)
  | none=>none

structure Obj where
 fp:List Nat
 ok:Heap→Prop
 loc:∀ h h':Heap,(∀ b∈fp,h'[b]? = h[b]?)→ok h→ok h'

def Blk1 (b:Nat)(cs:List XV)(ty:TypeId) : Obj:=⟨[b],fun h=>h[b]? = some ⟨cs,ty,true⟩,fun h h' e H=>by rw [e b (by simp)]; exact H⟩

abbrev geL (n:Nat) : Nat→Prop:=fun b=>n≤b
structure Sep (h:Heap) (lo:Nat→Prop) (S:List Obj) : Prop where
 base:∀ b,h.length≤b→lo b
 nodup:(S.flatMap Obj.fp).Nodup
 ran:∀ b∈S.flatMap Obj.fp,lo b∧b<h.length
 ok:∀ o∈S,o.ok h

section
variable {h:Heap}{lo:Nat→Prop}{S:List Obj}{o o1 o2 o3 o4 o5:Obj}{b:Nat}{cs vs:List XV}{ty:TypeId}

theorem Sep.nil (h:Heap) : Sep h (geL h.length) []:=⟨fun _ h=>h,by simp,fun b hb=>by simp at hb,fun o ho=>by simp at ho⟩
theorem Sep.drop (H:Sep h lo (o::S)) : Sep h lo S:=by
 refine ⟨H.base,?_,fun b hb=>H.ran b (by simp [hb]),fun x hx=>H.ok x (by simp [hx])⟩
 have:=H.nodup
 rw [a3r,a2p] at this
 exact this.2.1
theorem Sep.perm {S':List Obj}(H:Sep h lo S)(p:S.Perm S') : Sep h lo S':=by
 have q:=p.flatMap_right Obj.fp
 exact ⟨H.base,q.nodup_iff.1 H.nodup,fun b hb=>H.ran b (q.mem_iff.2 hb),fun x hx=>H.ok x (p.mem_iff.2 hx)⟩
theorem qt8 {k:Blk}(hk:h[b]? = some k)(hl:k.live=true) : z9 h b=some k:=by
 unfold z9
 rw [hk]
 simp [hl]
theorem Sep.blk0 (H:Sep h lo (Blk1 b cs ty::S)) : z9 h b=some ⟨cs,ty,true⟩:=qt8 (H.ok (Blk1 b cs ty) (by simp)) rfl
theorem Sep.ge (H:Sep h lo (Blk1 b cs ty::S)) : lo b:=(H.ran b (by simp [Blk1])).1
theorem Sep.lt (H:Sep h lo (Blk1 b cs ty::S)) : b<h.length:=(H.ran b (by simp [Blk1])).2

theorem Sep.keep {h':Heap}(H:Sep h lo S)(hl:h.length≤h'.length)(he:∀ b∈S.flatMap Obj.fp,h'[b]? = h[b]?) : Sep h' lo S:=by
 refine ⟨fun b hb=>H.base b (Nat.le_trans hl hb),H.nodup,fun b hb=>?_,fun x hx=>x.loc h h' (fun b hb=>he b (List.mem_flatMap.2 ⟨x,hx,hb⟩)) (H.ok x hx)⟩
 have:=H.ran b hb
 exact ⟨this.1,by omega⟩
theorem Sep.new (H:Sep h lo S)(cs:List XV)(ty:TypeId) : Sep (h++[⟨cs,ty,true⟩]) lo (Blk1 h.length cs ty::S):=by
 have K:Sep (h++[⟨cs,ty,true⟩]) lo S:=H.keep (by simp) (fun b hb=>by rw [a0a (H.ran b hb).2])
 refine ⟨K.base,?_,fun b hb=>?_,fun x hx=>?_⟩
 ·rw [a3r,a2p]
  refine ⟨by simp [Blk1],H.nodup,fun a ha b hb=>?_⟩
  simp only [Blk1,a1m] at ha
  subst ha
  have:=(H.ran b hb).2
  omega
 ·rw [a3r,List.mem_append] at hb
  rcases hb with hb | hb
  ·simp only [Blk1,a1m] at hb
   subst hb
   exact ⟨H.base _ (a0d _),by simp⟩
  ·exact K.ran b hb
 ·rcases a13.1 hx with rfl | hx
  ·simp [Blk1]
  ·exact K.ok x hx
theorem Sep.set (H:Sep h lo (Blk1 b cs ty::S))(cs':List XV) : Sep (h.set b ⟨cs',ty,true⟩) lo (Blk1 b cs' ty::S):=by
 have hb:=H.lt
 have hno:b ∉ S.flatMap Obj.fp:=by
  have:=H.nodup
  rw [a3r,a2p] at this
  intro hb
  exact this.2.2 b (by simp [Blk1]) b hb rfl
 have K:Sep (h.set b ⟨cs',ty,true⟩) lo S:=H.drop.keep (by simp) (fun x hx=>by rw [List.getElem?_set_ne]; rintro rfl; exact hno hx)
 refine ⟨K.base,H.nodup,fun x hx=>?_,fun x hx=>?_⟩
 ·have:=H.ran x hx
  simpa using this
 ·rcases a13.1 hx with rfl | hx
  ·simp [Blk1,hb]
  ·exact K.ok x hx
theorem Sep.kill (H:Sep h lo (Blk1 b cs ty::S)) : Sep (X.kill h b) lo S:=by
 have hno:b ∉ S.flatMap Obj.fp:=by
  have:=H.nodup
  rw [a3r,a2p] at this
  intro hb
  exact this.2.2 b (by simp [Blk1]) b hb rfl
 exact H.drop.keep (by rw [ye]; exact a0d _) (fun x hx=>by rw [qbn,if_neg]; rintro rfl; exact hno hx)

theorem zc3 (hb:z9 h b=some ⟨cs,ty,true⟩)(o:Nat) : qal h b o=cs[o]? := by simp [qal,hb]
theorem qf2 (hb:z9 h b=some ⟨cs,ty,true⟩)(o n:Nat) : kw h b o n=if o+n≤cs.length then some ((cs.drop o).take n) else none:=by simp [kw,hb]
theorem qkc {W:Nat→Bool}{o:Nat}(hw:W b=true)(hb:z9 h b=some ⟨cs,ty,true⟩)(hl:o+vs.length≤cs.length)(h1:vs.all XV.one=true) : setCells W h b o vs=some (h.set b ⟨jv cs o vs,ty,true⟩):=by
 simp [setCells,hb,hw,hl]
 simpa using h1
end

section
variable {E:Env}{W:Nat→Bool}{k:List It}{Q:QE}{fr:Fr}{h:Heap}{lo:Nat→Prop}{S:List Obj}{d:Option Nat}{r:List XOper}{b:Nat}{cs:List XV}{ty:TypeId}

theorem qd {o:Option XV}{v:XV}(e:o=some v)(H:Run E W (.ops r::k) Q (fr.put d v) h) : Put1 E W o d r k Q fr h:=by
 rw [e]; exact H
theorem qq {o:Option XV}{v:XV}{hs:Nat}{ld wr:List Nat}(e:o=some v)(H:Run E W (.draw hs r ld wr::k) Q (fr.put d v) h) : Put1D E W o d hs r ld wr k Q fr h:=by
 rw [e]; exact H
theorem q18 {z:List XV}(hS:Sep h lo S)(H:∀ b h',Sep h' lo (Blk1 b z ty::S)→Run E W (.ops r::k) Q (fr.put d (.ptr b 0)) h') : Put2 E W (qna W h ty z) d r k Q fr :=
 H h.length _ (hS.new z ty)
theorem q07 {n:Nat}{v:XV}{cs:List XV}(hS:Sep h lo S)(e:v.cells=cs)(h1:cs.length=n)(h2:cs.all XV.one=true)(H:∀ b h',Sep h' lo (Blk1 b cs ty::S)→Run E W (.ops r::k) Q (fr.put d (.ptr b 0)) h') : Put2 E W (qq4 W h ty n v) d r k Q fr:=by
 subst e
 rw [qxm h1 h2]
 exact H h.length _ (hS.new _ ty)
theorem qm8 {n o:Nat}{v:XV}{cs':List XV}(hS:Sep h lo (Blk1 b cs ty::S))(hw:W b=true)(h1:v.cells.length=n)(h2:v.cells.all XV.one=true)(h3:o+n≤cs.length)(e:jv cs o v.cells=cs')
  (H:∀ h',Sep h' lo (Blk1 b cs' ty::S)→Run E W (.ops r::k) Q (fr.put d .undef) h') : Put2 E W (pst W h n (.ptr b o) v) d r k Q fr:=by
 rw [zat,if_pos h1,qkc hw hS.blk0 (by rw [h1]; exact h3) h2]
 subst e
 exact H _ (hS.set _)
theorem q12 {esz bytes:Nat}{z:List XV}{n:Int}(hS:Sep h lo S)(h0:0≤n)(h1:n*bytes≤140737488355328)(h2:z.length=esz)
  (H:∀ b h',Sep h' lo (Blk1 b (a0t n.toNat z).flatten ty::S)→Run E W (.ops r::k) Q (fr.put d (.row b 0 n.toNat n.toNat)) h') : Put2 E W (qk1 W h ty esz bytes z (.int .i64 n) (.int .i64 n)) d r k Q fr:=by
 have e:qk1 W h ty esz bytes z (.int .i64 n) (.int .i64 n)=some (.row h.length 0 n.toNat n.toNat,h++[⟨(a0t n.toNat z).flatten,ty,true⟩]):=if_pos ⟨rfl,h0,h1,h2⟩
 rw [e]
 exact H h.length _ (hS.new _ ty)
theorem qgf {len:Nat}{z:List XV}{ps:List (Nat × Nat × XV)}{cs:List XV}(hS:Sep h lo S)(e:fill z ps=some cs)(H:∀ b h',Sep h' lo (Blk1 b cs ty::S)→Run E W (.ops r::k) Q (fr.put d (.row b 0 len len)) h') : Put2 E W (xe h ty len z ps) d r k Q fr:=by
 have e2:xe h ty len z ps=some (.row h.length 0 len len,h++[⟨cs,ty,true⟩]):=by simp [xe,e]
 rw [e2]
 exact H h.length _ (hS.new _ ty)
theorem q1h {t:Nat}{ts:List Nat}(hf:fr t = .ptr b 0)(hS:Sep h lo (Blk1 b cs ty::S))(hw:W b=true)(H:∀ h',Sep h' lo S→Run E W (.code (.frz ts)::k) Q (fr.put (some t) (.ref cs 0)) h') : Run E W (.code (.frz (t::ts))::k) Q fr h :=
 zar hf hS.blk0 hw (H _ hS.kill)
end

section
variable {E:Env}{W:Nat→Bool}{k:List It}{Q:QE}{fr:Fr}{h:Heap}{a b c:XCode}

theorem za1:∀ (k1 k:List It) {Q:QE} {fr:Fr} {h:Heap},Run E W k1 (fun e fr h=>wc E W k Q e fr h) fr h=Run E W (k1++k) Q fr h:=by
 have key:∀ (k1 k:List It) {Q:QE},wc E W k1 (wc E W k Q)=wc E W (k1++k) Q:=by
  intro k1
  induction k1 with
  | nil=>intro k Q; rfl
  | cons i k1 ih =>
   intro k Q
   cases i <;> (simp only [List.cons_append,wc]; rw [ih k])
 intro k1 k Q fr h
 unfold Run
 rw [key]
theorem Run.mono {k1:List It}{Q Q':QE}(hQ:∀ e fr h,Q e fr h→Q' e fr h){fr:Fr}{h:Heap}(H:Run E W k1 Q fr h) : Run E W k1 Q' fr h:=by
 have key:∀ (k1:List It) {e:XE} {fr:Fr} {h:Heap},wc E W k1 Q e fr h→wc E W k1 Q' e fr h:=by
  intro k1
  induction k1 with
  | nil=>intro e fr h H; exact hQ _ _ _ H
  | cons i k1 ih =>
   intro e fr h H
   cases i with
   | code c =>
    cases e with
    | normal=>exact WC.mono c (fun e fr h=>ih) H
    | ret=>exact ih H
    | exit id=>exact ih H
   | ops xs =>
    cases e with
    | normal=>exact WO.mono (fun fr h=>ih) H
    | ret=>exact ih H
    | exit id=>exact ih H
   | draw hs xs ld wr =>
    cases e with
    | normal=>exact WD.mono (fun fr h=>ih) H
    | ret=>exact ih H
    | exit id=>exact ih H
   | blk id =>
    cases e with
    | normal=>exact ih H
    | ret=>exact ih H
    | exit i =>
     simp only [wc] at H ⊢
     split at H
     ·rename_i hi; rw [if_pos hi]; exact ih H
     ·rename_i hi; rw [if_neg hi]; exact ih H
 exact key k1 H

def JQ (E:Env)(W:Nat→Bool)(J:Fr→Heap→Prop)(k:List It)(Q:QE) : QE:=fun e fr h=>match e with
 | .normal=>J fr h
 | e=>wc E W k Q e fr h
theorem joint {k1 k:List It}(J:Fr→Heap→Prop)(h1:Run E W k1 (JQ E W J k Q) fr h)(h2:∀ fr h,J fr h→Run E W k Q fr h) : Run E W (k1++k) Q fr h:=by
 rw [←za1]
 refine Run.mono (fun e fr h H=>?_) h1
 cases e with
 | normal=>exact h2 _ _ H
 | ret=>exact H
 | exit id=>exact H
theorem qr3 {t:Bool}(J:Fr→Heap→Prop)(h1:t=true→Run E W [.code a] (JQ E W J k Q) fr h)(h0:t=false→Run E W [.code b] (JQ E W J k Q) fr h)(h2:∀ fr h,J fr h→Run E W k Q fr h) : CondK E W (.bool t) a b k Q fr h :=
 q9 (fun e=>joint (k1:=[.code a]) J (h1 e) h2) (fun e=>joint (k1:=[.code b]) J (h0 e) h2)
theorem qv2 (n:Nat){xs:List XOper}(J:Fr→Heap→Prop)(h1:Run E W [.ops (xs.take n)] (JQ E W J (.ops (xs.drop n)::k) Q) fr h)(h2:∀ fr h,J fr h→Run E W (.ops (xs.drop n)::k) Q fr h) : Run E W (.ops xs::k) Q fr h:=by
 have key:∀ (n:Nat) {xs:List XOper} {fr:Fr} {h:Heap},Run E W (.ops (xs.take n) :: .ops (xs.drop n)::k) Q fr h→Run E W (.ops xs::k) Q fr h:=by
  intro n
  induction n with
  | zero=>intro xs fr h H; exact H
  | succ n ih =>
   intro xs fr h H
   cases xs with
   | nil=>exact H
   | cons o r =>
    simp only [s5,s6] at H
    obtain ⟨d,op,g,cl⟩:=o
    cases g with
    | none=>exact OpW.mono (fun v h'=>ih) H
    | some gw =>
     obtain ⟨g,want⟩:=gw
     show WO E W (⟨d,op,some (g,want),cl⟩::r) _ fr h
     have H:WO E W (⟨d,op,some (g,want),cl⟩::r.take n) _ fr h:=H
     simp only [WO] at H ⊢
     split at H
     ·split at H
      ·rename_i hbw
       rw [if_pos hbw]
       exact OpW.mono (fun v h'=>ih) H
      ·rename_i hbw
       rw [if_neg hbw]
       exact ih H
     ·exact ih H
     ·cases H
 exact key n (joint (k1:=[.ops (xs.take n)]) J h1 h2)
end

section
variable {E:Env}{W:Nat→Bool}{k:List It}{Q:QE}{fr:Fr}{h:Heap}{σ ρ α:Type}

def BQ (E:Env)(W:Nat→Bool)(k:List It)(Q:QE)(A B:Nat)(N K:Fr→Heap→Prop) : QE:=fun e fr h=>match e with
 | .normal=>N fr h
 | .exit j=>if j=B then N fr h else if j=A then K fr h else wc E W k Q (.exit j) fr h
 | .ret=>wc E W k Q .ret fr h

theorem qw8 {A:Nat}{keep:List Nat}{c:XCode}(Bd:σ→Option (Oc σ ρ))(J:σ→Fr→Heap→Prop){n:Nat}{s0:σ}{o:Oc σ ρ}(hF:wo Bd n s0=some o)(hJ0:J s0 fr h)
  (hkeep:∀ s fr h,J s fr h→J s (kv keep fr) h)
  (hbody:∀ s fr' h',J s fr' h'→∀ o1,Bd s=some o1→(∀ q,o1 = .ret q→o = .ret q)→Run E W [.code c] (fun e fr2 h2=>match e with
   | .normal=>∃ s',o1 = .nxt s'∧J s' fr2 h2
   | .exit j=>if j=A then ∃ s',o1 = .brk s'∧J s' fr2 h2 else wc E W k Q (.exit j) fr2 h2
   | .ret=>wc E W k Q .ret fr2 h2) fr' h')
  (hnext:∀ s fr' h',o = .nxt s→J s fr' h'→Run E W k Q fr' h') :
  Run E W (.code (.block A (.loop keep c))::k) Q fr h:=by
 rw [wx]
 refine qoq (I:=fun m fr' h'=>∃ s,wo Bd m s=some o∧J s fr' h') ⟨s0,hF,hJ0⟩ ?_
 rintro m fr' h' ⟨s,hs,hJ⟩
 cases m with
 | zero=>cases hs
 | succ m =>
  simp only [wo] at hs
  cases hb:Bd s with
  | none=>rw [hb] at hs; cases hs
  | some o1 =>
   rw [hb] at hs
   refine Run.mono (fun e fr2 h2 H=>?_) (hbody s _ h' (hkeep _ _ _ hJ) o1 hb (fun q hq=>by subst hq; dsimp only at hs; cases hs; rfl))
   cases e with
   | normal =>
    obtain ⟨s',rfl,h3⟩:=H
    exact ⟨m,Nat.lt_succ_self m,s',hs,h3⟩
   | ret=>exact H
   | exit j =>
    show Out E W j (.blk A::k) Q fr2 h2
    rw [qkh]
    dsimp only at H
    split at H
    ·rename_i hj
     rw [if_pos hj]
     obtain ⟨s',rfl,h3⟩:=H
     dsimp only at hs
     cases hs
     exact hnext _ _ _ rfl h3
    ·rename_i hj
     rw [if_neg hj]
     exact H

theorem ql7 {A B idx cnt tc ta c1 c2 c3:Nat}{keep:List Nat}{c:XCode}(Bd:Nat→σ→Option (Oc σ ρ))(J:σ→Fr→Heap→Prop){m:Int}{s0:σ}{o:Oc σ ρ}
  (hF:wi Bd m s0=some o) (hJ0:J s0 fr h) (hi0:fr idx = .int .i64 0) (hn0:fr cnt = .int .i64 m)
  (hkeep:∀ s fr h,J s fr h→J s (kv keep fr) h) (hki:keep.contains idx=true) (hkn:keep.contains cnt=true)
  (hpc:∀ s fr h v,J s fr h→J s (fr.put (some tc) v) h) (hpa:∀ s fr h v,J s fr h→J s (fr.put (some ta) v) h) (hpi:∀ s fr h v,J s fr h→J s (fr.put (some idx) v) h)
  (hne:tc≠idx∧tc≠cnt∧ta≠idx∧ta≠cnt∧idx≠cnt∧A≠B)
  (hbody:∀ (i:Nat) (s:σ) fr' h',(i:Int)<m→J s fr' h'→fr' idx = .int .i64 i→fr' cnt = .int .i64 m→∀ o1,Bd i s=some o1→(∀ q,o1 = .ret q→o = .ret q) →
   Run E W [.code c] (BQ E W k Q A B (fun fr2 h2=>∃ s',o1 = .nxt s'∧J s' fr2 h2∧fr2 idx = .int .i64 i∧fr2 cnt = .int .i64 m) (fun fr2 h2=>∃ s',o1 = .brk s'∧J s' fr2 h2)) fr' h')
  (hnext:∀ s fr' h',o = .nxt s→J s fr' h'→Run E W k Q fr' h') :
  Run E W (.code (.block A (.loop keep (.seq (.reg false [⟨some tc,.bin .lss (.t idx) (.t cnt),none,c1⟩]) (.seq (.cond (.t tc) .skip (.exit A)) (.seq (.block B c) (.reg false [⟨some ta,.bin .add (.t idx) (.c (.int .i64 1)),none,c2⟩,⟨some idx,.mv (.t ta),none,c3⟩]))))))::k) Q fr h:=by
 obtain ⟨n1,n2,n3,n4,n5,n6⟩:=hne
 have hm:m≤4611686018427387904:=by
  unfold wi at hF
  split at hF
  ·assumption
  ·cases hF
 have hF':qdv Bd m.toNat 0 s0=some o:=by unfold wi at hF; rw [if_pos hm] at hF; exact hF
 rw [wx]
 refine qoq (I:=fun j fr' h'=>∃ (i:Nat) (s:σ),j=(m.toNat - i)+1∧(i≤m.toNat)∧qdv Bd (m.toNat - i) i s=some o∧J s fr' h'∧fr' idx = .int .i64 i∧fr' cnt = .int .i64 m) ⟨0,s0,rfl,a12 _,hF',hJ0,hi0,hn0⟩ ?_
 rintro j fr' h' ⟨i,s,rfl,hi,hs,hJ,e1,e2⟩
 have k1:kv keep fr' idx = .int .i64 i:=by unfold kv; rw [hki]; exact e1
 have k2:kv keep fr' cnt = .int .i64 m:=by unfold kv; rw [hkn]; exact e2
 have hJ1:=hkeep _ _ _ hJ
 generalize kv keep fr'=fr1 at k1 k2 hJ1
 rw [qf,qe,qx,qk4,qk4,k1,k2,qch,qb,qa,qf,q8,qk4,qdo,if_pos rfl]
 refine q9 (fun hc=>?_) (fun hc=>?_)
 ·have hlt:(i:Int)<m:=by simpa using hc
  rw [zd,qf]
  have hs':qdv Bd ((m.toNat - (i+1))+1) i s=some o:=by rw [show m.toNat - (i+1)+1=m.toNat - i by omega]; exact hs
  simp only [qdv] at hs'
  cases hb:Bd i s with
  | none=>rw [hb] at hs'; cases hs'
  | some o1 =>
   rw [hb] at hs'
   have hr:=hbody i s (fr1.put (some tc) (.bool (decide ((i:Int)<m)))) h' hlt (hpc _ _ _ _ hJ1) (by rw [qdo,if_neg (Ne.symm n1)]; exact k1) (by rw [qdo,if_neg (Ne.symm n2)]; exact k2) o1 hb
    (fun q hq=>by subst hq; dsimp only at hs'; cases hs'; rfl)
   rw [wx]
   refine joint (k1:=[.code c]) (k:=[.blk B,.code _]) (fun fr2 h2=>∃ s',o1 = .nxt s'∧J s' fr2 h2∧fr2 idx = .int .i64 i∧fr2 cnt = .int .i64 m) (Run.mono (fun e fr2 h2 H=>?_) hr) ?_
   ·cases e with
    | normal=>exact H
    | ret =>
     show wc E W (.blk B::_) _ .ret fr2 h2
     rw [qbo]
     exact H
    | exit j =>
     show Out E W j (.blk B::_) _ fr2 h2
     rw [qkh]
     dsimp only [BQ] at H
     split at H
     ·rename_i hj
      rw [if_pos hj]
      obtain ⟨s',rfl,h3,h4,h5⟩:=H
      rw [qe,qx,qk4,h4,zdg,ur,qb,qg,qa,qm,qk4,qdo,if_pos rfl,IntWalk.i64_in _ (by omega)]
      exact ⟨(m.toNat - (i+1))+1,by omega,i+1,s',rfl,by omega,hs',hpi _ _ _ _ (hpa _ _ _ _ h3),by rw [qdo,if_pos rfl]; rfl,by rw [qdo,if_neg (Ne.symm n5),qdo,if_neg (Ne.symm n4)]; exact h5⟩
     ·rename_i hj
      rw [if_neg hj,qe0,qgc]
      show Out E W j (.blk A::k) Q fr2 h2
      rw [qkh]
      split at H
      ·rename_i hj2
       rw [if_pos hj2]
       obtain ⟨s',rfl,h3⟩:=H
       dsimp only at hs'
       cases hs'
       exact hnext _ _ _ rfl h3
      ·rename_i hj2
       rw [if_neg hj2]
       exact H
   ·rintro fr2 h2 ⟨s',rfl,h3,h4,h5⟩
    rw [w6,qe,qx,qk4,h4,zdg,ur,qb,qg,qa,qm,qk4,qdo,if_pos rfl,IntWalk.i64_in _ (by omega)]
    exact ⟨(m.toNat - (i+1))+1,by omega,i+1,s',rfl,by omega,hs',hpi _ _ _ _ (hpa _ _ _ _ h3),by rw [qdo,if_pos rfl]; rfl,by rw [qdo,if_neg (Ne.symm n5),qdo,if_neg (Ne.symm n4)]; exact h5⟩
 ·have hge:¬ (i:Int)<m:=by simpa using hc
  have e0:m.toNat - i=0:=by omega
  rw [e0] at hs
  simp only [qdv] at hs
  cases hs
  rw [qfv,qe0,qgc]
  show Out E W A (.blk A::k) Q _ h'
  rw [qkh,if_pos rfl]
  exact hnext _ _ _ rfl (hpc _ _ _ _ hJ1)

theorem q2f {Bd:Nat→α→σ→Option (Oc σ ρ)}{L:List α} : ∀ (n i:Nat) (s:σ),L.length - i=n→i≤L.length→xy Bd (L.drop i) i s=qdv (fun i s=>(L[i]?).bind fun x=>Bd i x s) n i s:=by
 intro n
 induction n with
 | zero =>
  intro i s h1 h2
  rw [List.drop_eq_nil_of_le (by omega)]
  rfl
 | succ n ih =>
  intro i s h1 h2
  have hlt:i<L.length:=by omega
  rw [List.drop_eq_getElem_cons hlt]
  simp only [xy,qdv,List.getElem?_eq_getElem hlt,Option.bind_some]
  cases hb:Bd i L[i] s with
  | none=>rfl
  | some o =>
   cases o with
   | nxt s'=>exact ih (i+1) s' (by omega) (by omega)
   | brk s'=>rfl
   | ret q=>rfl

theorem qq8 {A B idx cnt tc ta c1 c2 c3:Nat}{keep:List Nat}{c:XCode}(L:List α)(Bd:Nat→α→σ→Option (Oc σ ρ))(J:σ→Fr→Heap→Prop){s0:σ}{o:Oc σ ρ}
  (hF:jt Bd L s0=some o) (hJ0:J s0 fr h) (hi0:fr idx = .int .i64 0) (hn0:fr cnt = .int .i64 (L.length:Int))
  (hkeep:∀ s fr h,J s fr h→J s (kv keep fr) h) (hki:keep.contains idx=true) (hkn:keep.contains cnt=true)
  (hpc:∀ s fr h v,J s fr h→J s (fr.put (some tc) v) h) (hpa:∀ s fr h v,J s fr h→J s (fr.put (some ta) v) h) (hpi:∀ s fr h v,J s fr h→J s (fr.put (some idx) v) h)
  (hne:tc≠idx∧tc≠cnt∧ta≠idx∧ta≠cnt∧idx≠cnt∧A≠B)
  (hbody:∀ (i:Nat) (x:α) (s:σ) fr' h',L[i]? = some x→J s fr' h'→fr' idx = .int .i64 i→fr' cnt = .int .i64 (L.length:Int)→∀ o1,Bd i x s=some o1→(∀ q,o1 = .ret q→o = .ret q) →
   Run E W [.code c] (BQ E W k Q A B (fun fr2 h2=>∃ s',o1 = .nxt s'∧J s' fr2 h2∧fr2 idx = .int .i64 i∧fr2 cnt = .int .i64 (L.length:Int)) (fun fr2 h2=>∃ s',o1 = .brk s'∧J s' fr2 h2)) fr' h')
  (hnext:∀ s fr' h',o = .nxt s→J s fr' h'→Run E W k Q fr' h') :
  Run E W (.code (.block A (.loop keep (.seq (.reg false [⟨some tc,.bin .lss (.t idx) (.t cnt),none,c1⟩]) (.seq (.cond (.t tc) .skip (.exit A)) (.seq (.block B c) (.reg false [⟨some ta,.bin .add (.t idx) (.c (.int .i64 1)),none,c2⟩,⟨some idx,.mv (.t ta),none,c3⟩]))))))::k) Q fr h:=by
 have hm:L.length≤4611686018427387904:=by
  unfold jt at hF
  split at hF
  ·assumption
  ·cases hF
 have hF':wi (fun i s=>(L[i]?).bind fun x=>Bd i x s) (L.length:Int) s0=some o:=by
  unfold jt at hF
  rw [if_pos hm] at hF
  unfold wi
  rw [if_pos (by omega),← hF,← q2f (L:=L) _ 0 s0 (by omega) (a12 _),List.drop_zero]
 refine ql7 (fun i s=>(L[i]?).bind fun x=>Bd i x s) J hF' hJ0 hi0 hn0 hkeep hki hkn hpc hpa hpi hne (fun i s fr' h' hlt hJ e1 e2 o1 ho1 hr=>?_) hnext
 obtain ⟨x,hx,ho⟩:=qk ho1
 exact hbody i x s fr' h' hx hJ e1 e2 o1 ho hr
end
end Go.Proofs.Ytanblnjomhgphaa.X
namespace Go.Proofs.Ytanblnjomhgphaa.X
open Go

section
variable {E:Env}{W:Nat→Bool}{k:List It}{Q:QE}{fr:Fr}{h:Heap}{lo:Nat→Prop}{n0:Nat}{S:List Obj}{d:Option Nat}{r:List XOper}{b:Nat}{ty:TypeId}{α:Type}{f:α→List XV}{l l2:List α}{sz:TypeId→Nat}{n esz bytes:Nat}

theorem qa5 (hf:∀ x,(f x).length=n) : ((l.map f).flatten).length=l.length*n:=by
 induction l with
 | nil=>simp
 | cons a r ih=>simp only [a3q,a0y,List.length_append,hf,ih,a0p,a2o]; omega
theorem qkk (hf:∀ x,(f x).length=n) : ∀ {l:List α} {i:Nat} {x:α},l[i]? = some x→(l.map f).flatten.drop (i*n)=f x++((l.drop (i+1)).map f).flatten:=by
 intro l
 induction l with
 | nil=>intro i x hx; simp at hx
 | cons a r ih =>
  intro i x hx
  cases i with
  | zero=>simp at hx; subst hx; simp
  | succ i =>
   have h1:=ih (i:=i) (x:=x) (by simpa using hx)
   simp only [a3q,a0y,s6]
   rw [List.drop_append,hf,List.drop_of_length_le (by rw [hf,a2o]; omega),List.nil_append,show (i+1)*n - n=i*n by rw [a2o]; omega]
   exact h1
theorem qqh (hf:∀ x,(f x).length=n){i:Nat}(hi:i≤l.length) : (l.map f).flatten.take (i*n)=((l.take i).map f).flatten:=by
 have e:l.map f=(l.take i).map f++(l.drop i).map f:=by rw [←List.map_append,a18]
 have h1:(((l.take i).map f).flatten).length=i*n:=by rw [qa5 hf,a0f]; congr 1; omega
 rw [e,a1r,← h1,List.take_left]
theorem zeq (hf:∀ x,(f x).length=n){i o:Nat}{x:α}(hx:l[i]? = some x)(ho:o<n) : (l.map f).flatten[i*n+o]? = (f x)[o]? := by
 rw [←List.getElem?_drop,qkk hf hx,a0a (by rw [hf]; exact ho)]
theorem qov (hf:∀ x,(f x).length=n){i o m:Nat}{x:α}(hx:l[i]? = some x)(ho:o+m≤n) : ((l.map f).flatten.drop (i*n+o)).take m=((f x).drop o).take m:=by
 rw [←a2b,qkk hf hx,a1s (by rw [hf]; omega),a1g (by rw [List.length_drop,hf]; omega)]
theorem zbt (hf:∀ x,(f x).length=n){i o:Nat}{x x':α}{vs:List XV}(hx:l[i]? = some x)(ho:o+vs.length≤n)(e:jv (f x) o vs=f x') : jv (l.map f).flatten (i*n+o) vs=((l.set i x').map f).flatten:=by
 have hi:i<l.length:=(r9.1 hx).1
 have hxl:=hf x
 rw [List.set_eq_take_append_cons_drop,if_pos hi,List.map_append,a3q,a1r,a0y,← e]
 unfold jv
 have h1:(l.map f).flatten.take (i*n+o)=((l.take i).map f).flatten++(f x).take o:=by
  have:=a18 (i*n) (l.map f).flatten
  conv=>lhs; rw [←this]
  have h3:i*n≤l.length*n:=Nat.mul_le_mul_right n (Nat.le_of_lt hi)
  have h4:((l.map f).flatten.take (i*n)).length=i*n:=by rw [a0f,qa5 hf]; omega
  rw [List.take_append,List.take_of_length_le (by rw [h4]; omega),h4,show i*n+o - i*n=o by omega,qqh hf (Nat.le_of_lt hi),qkk hf hx,a1g (by omega)]
 have h2:(l.map f).flatten.drop (i*n+o+vs.length)=(f x).drop (o+vs.length)++((l.drop (i+1)).map f).flatten:=by
  rw [Nat.add_assoc,← a2b,qkk hf hx,a1s (by omega)]
 rw [h1,h2]
 simp [List.append_assoc]

theorem jh {m:Nat} : snap h sz (m+1) (lst f l)=some (lst f l):=(rfl)
theorem ub {β:Type}{g:Nat→Option β}{f:α→β}{l:List α}(hg:∀ (i:Nat) x,l[i]? = some x→g i=some (f x)) : (a2z l.length).mapM g=some (l.map f):=by
 induction l generalizing g with
 | nil=>simp
 | cons a r ih =>
  rw [a0p,List.range_succ_eq_map,List.mapM_cons,hg 0 a rfl]
  have:(List.map Nat.succ (a2z r.length)).mapM g=some (r.map f):=by
   rw [List.mapM_map]
   exact ih (g:=fun i=>g (i+1)) (fun i x hx=>hg (i+1) x (by simpa using hx))
  simp [this]
def RowO (b:Nat)(ty:TypeId)(f:α→List XV)(l:List α) : Obj:=Blk1 b (l.map f).flatten ty
theorem qbg (hf:∀ x,(f x).length=n) : yd h n (lst f l)=some (l.length,(l.map f).flatten):=by
 unfold yd lst
 dsimp only
 rw [if_pos (by rw [List.all_map,a0x]; intro x hx; simp [hf])]
 simp
theorem qxt (h1:∀ x,(f x).all XV.one=true) : ((l.map f).flatten).all XV.one=true:=by
 rw [List.all_flatten,List.all_map,a0x]
 intro x _
 exact h1 x

theorem q0m {W:Nat→Bool}{x:XV}(hx:yd h esz x=some (l2.length,(l2.map f).flatten)) : xd W h ty esz bytes .nil x=if l2.length=0 then some (.nil,h) else if l2.length*bytes≤70368744177664 then some (.row h.length 0 l2.length l2.length,h++[⟨(l2.map f).flatten,ty,true⟩]) else none:=by
 unfold xd
 simp only [ze,XO.ev,hx]
theorem yn {i:Int}{x:α}(hg:zy l i=some x) : 0≤i∧i<l.length∧l[i.toNat]? = some x:=by
 unfold zy at hg
 split at hg
 ·have:=(r9.1 hg).1
  exact ⟨by assumption,by omega,hg⟩
 ·cases hg
theorem xg {kk:IntKind}{i:Int}{x:α}(hg:zy l i=some x)(hf:(f x).length=n) : xia n (lst f l) (.int kk i)=some (.ref (f x) 0):=by
 obtain ⟨h0,h1,h2⟩:=yn hg
 simp [lst,xia,h0,h2,hf]
theorem yj {kk:IntKind}{i:Nat}{x:α}(hg:l[i]? = some x)(hf:(f x).length=n) : xia n (lst f l) (.int kk (i:Int))=some (.ref (f x) 0):=by
 simp [lst,xia,hg,hf]
theorem qjc {kk:IntKind}{i:Int}{m c:Nat}(h0:0≤i)(h1:i<m) : xia n (.row b 0 m c) (.int kk i)=some (.ptr b (i.toNat*n)):=by
 simp [xia,h0,h1]
theorem z7:qg1 (lst f l)=some (.int .i64 l.length):=by simp [lst,qg1]
theorem qrn {lo hi:Option Nat}{i j:Nat}(hl:lo.getD 0=i)(hh:hi.getD l.length=j)(h1:i≤j)(h2:j≤l.length)(hf:∀ x,(f x).length=n) : yy h ty n (lst f l) lo hi none=some (lst f ((l.take j).drop i)):=by
 have e1:((l.map f).all fun x=>decide (x.length=n))=true:=by rw [List.all_map,a0x]; intro x hx; simp [hf]
 unfold yy lst
 simp only [List.length_map,hl,hh]
 rw [if_pos ⟨h1,h2,trivial,e1⟩,List.map_drop,List.map_take]
theorem qd4 {i j:Int}{l2:List α}(hs:sl l i j=some l2) : 0≤i∧i≤j∧j≤l.length∧l2=(l.take j.toNat).drop i.toNat:=by
 unfold sl at hs
 split at hs
 ·rename_i hc
  cases hs
  exact ⟨hc.1,hc.2.1,hc.2.2,rfl⟩
 ·cases hs
theorem qdd {j:Int}{l2:List α}(hs:sl l 0 j=some l2)(hf:∀ x,(f x).length=n) : w9 h ty n (lst f l) none (some (.int .i64 j)) none=some (lst f l2):=by
 obtain ⟨c1,c2,c3,rfl⟩:=qd4 hs
 unfold w9 yc
 simp only [show (0:Int)≤j by omega,if_true]
 exact qrn rfl rfl (by omega) (by omega) hf
theorem iteT {β:Type}{t:Bool}{x y:β}(h:t=true) : (if t=true then x else y)=x:=if_pos h
theorem iteF {β:Type}{t:Bool}{x y:β}(h:t=false) : (if t=true then x else y)=y:=if_neg (by rw [h]; exact Bool.false_ne_true)
theorem qj {β:Type}{x y:β}(h:some x=some y) : x=y:=Option.some.inj h

theorem jx {g:Nat}{caps args as':List XV}{u:XV}(hm:E.mode g=1)(hs:args.mapM (snap h E.sz 9)=some as')(hc:Ret E (fun b=>decide (h.length≤b)) g (as'++caps) h (fun v h'=>cut h.length h' E.sz false 9 v=some u))
  (hR:Run E W (.ops r::k) Q (fr.put d u) h) : CallK E W (.fn g caps) args d r k Q fr h :=
 zbn (R:=fun x=>x=u) hm hs (hc.mono fun v h' e=>⟨u,e,rfl⟩) (fun x e=>by rw [e]; exact hR)
theorem qfm {g:Nat}{caps args as':List XV}{u:XV}{hs:Nat}{ld wr:List Nat}(hm:E.mode g=1)(hs':args.mapM (snap h E.sz 9)=some as')(hc:Ret E (fun b=>decide (h.length≤b)) g (as'++caps) h (fun v h'=>cut h.length h' E.sz false 9 v=some u))
  (hR:Run E W (.draw hs r ld wr::k) Q (fr.put d u) h) : CallD E W (.fn g caps) args d hs r ld wr k Q fr h :=
 q97 (R:=fun x=>x=u) hm hs' (hc.mono fun v h' e=>⟨u,e,rfl⟩) (fun x e=>by rw [e]; exact hR)
theorem zc1 {g:Nat}{caps args as':List XV}{u:XV}{hs:Nat}{ld wr:List Nat}(hm:E.mode g=1)(hs':args.mapM (snap h E.sz 9)=some as')(hc:Ret E (fun b=>decide (h.length≤b)) g (as'++caps) h (fun v h'=>cut h.length h' E.sz false 9 v=some u))
  (hR:Run E W (.draw hs r ld wr::k) Q (fr.put d u) h) : CallQ E W (.fn g caps) args (qhw E (.fn g caps) args) d hs r ld wr k Q fr h :=
 zan (R:=fun x=>x=u) hm hs' (hc.mono fun v h' e=>⟨u,e,rfl⟩) (fun x e=>by rw [e]; exact hR)
theorem qr7 (n:Nat){xs:List XOper}{hs:Nat}{ld wr:List Nat}(J:Fr→Heap→Prop)(hcl:(xs.take n).all (fun o=>decide (o.cls=4))=true)(h1:Run E W [.draw hs (xs.take n) ld wr] (JQ E W J (.draw hs (xs.drop n) ld wr::k) Q) fr h)(h2:∀ fr h,J fr h→Run E W (.draw hs (xs.drop n) ld wr::k) Q fr h) : Run E W (.draw hs xs ld wr::k) Q fr h:=by
 have key:∀ (n:Nat) {xs:List XOper} {fr:Fr} {h:Heap},(xs.take n).all (fun o=>decide (o.cls=4))=true→Run E W (.draw hs (xs.take n) ld wr :: .draw hs (xs.drop n) ld wr::k) Q fr h→Run E W (.draw hs xs ld wr::k) Q fr h:=by
  intro n
  induction n with
  | zero=>intro xs fr h _ H; exact H
  | succ n ih =>
   intro xs fr h hcl H
   cases xs with
   | nil=>exact H
   | cons o r =>
    simp only [s5,s6] at H hcl
    obtain ⟨d,op,g,cl⟩:=o
    simp only [List.all_cons,Bool.and_eq_true,decide_eq_true_eq] at hcl
    obtain ⟨h4,hcl⟩:=hcl
    subst h4
    have go:∀ {fr:Fr} {h:Heap},OpD E W hs op 4 ld wr (XO.ev fr) h (fun ld' wr' v h'=>WD E W hs (r.take n) ld' wr' (fun fr h=>wc E W (.draw hs (r.drop n) ld wr::k) Q .normal fr h) (fr.put d v) h')→OpD E W hs op 4 ld wr (XO.ev fr) h (fun ld' wr' v h'=>WD E W hs r ld' wr' (fun fr h=>wc E W k Q .normal fr h) (fr.put d v) h'):=by
     intro fr h H
     unfold OpD at H ⊢
     rw [if_neg (by decide),if_pos rfl] at H ⊢
     split at H
     ·exact ih hcl H
     ·cases H
    cases g with
    | none=>exact go H
    | some gw =>
     obtain ⟨g,want⟩:=gw
     show WD E W hs (⟨d,op,some (g,want),4⟩::r) ld wr _ fr h
     have H:WD E W hs (⟨d,op,some (g,want),4⟩::r.take n) ld wr _ fr h:=H
     simp only [WD] at H ⊢
     split at H
     ·split at H
      ·rename_i hbw
       rw [if_pos hbw]
       exact go H
      ·rename_i hbw
       rw [if_neg hbw]
       exact ih hcl H
     ·exact ih hcl H
     ·cases H
 exact key n hcl (joint (k1:=[.draw hs (xs.take n) ld wr]) J h1 h2)

theorem qkf {n0 m:Nat}{keep:Bool}{cs us:List XV}(e:cs.mapM (cut n0 h sz keep m)=some us) : cut n0 h sz keep (m+1) (.tup cs)=some (.tup us):=by simp only [cut,e]
theorem qqz {n0 m:Nat}{keep:Bool}{cs us:List XV}(e:cs.mapM (cut n0 h sz keep m)=some us) : cut n0 h sz keep (m+1) (.agg cs)=some (.agg us):=by simp only [cut,e]
theorem qni {kk:IntKind}{m n:Int}(h:n≠0) : wq .rem (.int kk m) (.int kk n)=some (.int kk (m.tmod n)):=by simp [wq,h]
theorem uq {kk k2:IntKind}{m n:Int}(h:0≤n) : wq .shr (.int kk m) (.int k2 n)=some (.int kk (jo kk m n)):=by
 have:¬ n<0:=by omega
 simp [wq,this,jo]
theorem qnd {kk k2:IntKind}{m n:Int}(h:0≤n) : wq .shl (.int kk m) (.int k2 n)=some (.int kk (qde kk m n)):=by
 have:¬ n<0:=by omega
 simp [wq,this,qde]
theorem qfl {kk:IntKind}{m n:Int} : wq .and (.int kk m) (.int kk n)=some (.int kk (z8 kk m n)):=by simp [wq,z8]
theorem ze3 {kk:IntKind}{m n:Int} : wq .or (.int kk m) (.int kk n)=some (.int kk (wor kk m n)):=by simp [wq,wor]
theorem qfq {kk k2:IntKind}{m:Int} : qot kk (.int k2 m)=some (.int kk (kk.wrap m)):=(rfl)
theorem qjw {a b:Bool} : qrw true (.bool a) (.bool b)=some (.bool (!(a == b))):=(rfl)
theorem zd9 {kk:IntKind}{a b:Int} : qhz false [.int kk a,.int kk b]=some (.int kk (if b<a then b else a)):=by simp [qhz,qfj]
theorem zdy {kk:IntKind}{a b:Int} : qhz true [.int kk a,.int kk b]=some (.int kk (if b > a then b else a)):=by simp [qhz,qfj]
theorem qa9 {a:XV}{l:List XV} : qjh 0 (.tup (a::l))=some a:=(rfl)
theorem qbd {a b:XV}{l:List XV} : qjh 1 (.tup (a::b::l))=some b:=(rfl)
theorem qx7 {a b c:XV}{l:List XV} : qjh 2 (.tup (a::b::c::l))=some c:=(rfl)
theorem zv {b o:Nat} : qro (.ptr b o)=some (.ptr b o):=(rfl)
theorem ja {cs:List XV}{o:Nat}(hb:z9 h b=some ⟨cs,ty,true⟩) : xld h none (.ptr b o)=cs[o]? := zc3 hb o
theorem zw {cs:List XV}{o m:Nat}(hb:z9 h b=some ⟨cs,ty,true⟩) : xld h (some m) (.ptr b o)=if o+m≤cs.length then some (.agg ((cs.drop o).take m)) else none:=by
 show (kw h b o m).map XV.agg=_
 rw [qf2 hb]
 split <;> rfl
end
end Go.Proofs.Ytanblnjomhgphaa.X
namespace Go.Proofs.Ytanblnjomhgphaa.X
open Go
section
variable {E:Env}{W:Nat→Bool}{k:List It}{Q:QE}{fr:Fr}{h:Heap}{a b c:XCode}{σ ρ α:Type}

theorem wj {t:Bool}(J:Fr→Heap→Prop)
  (hb:∀ Q':QE,(∀ fr h,J fr h→Q' .normal fr h)→(∀ fr h,Q .ret fr h→Q' .ret fr h)→(∀ j fr h,Out E W j k Q fr h→Q' (.exit j) fr h)→(t=true→Run E W [.code a] Q' fr h)∧(t=false→Run E W [.code b] Q' fr h))
  (h2:∀ fr h,J fr h→Run E W k Q fr h) : CondK E W (.bool t) a b k Q fr h:=by
 obtain ⟨x1,x0⟩:=hb (JQ E W J k Q) (fun _ _ hj=>hj) (fun fr h hr=>by show wc E W k Q .ret fr h; rw [qbo]; exact hr) (fun j fr h hj=>hj)
 exact qr3 J x1 x0 h2
theorem jf (n:Nat){xs:List XOper}(J:Fr→Heap→Prop)
  (hb:∀ Q':QE,(∀ fr h,J fr h→Q' .normal fr h)→Run E W [.ops (xs.take n)] Q' fr h)
  (h2:∀ fr h,J fr h→Run E W (.ops (xs.drop n)::k) Q fr h) : Run E W (.ops xs::k) Q fr h :=
 qv2 n J (hb _ (fun _ _ hj=>hj)) h2
theorem qac (n:Nat){xs:List XOper}{hs:Nat}{ld wr:List Nat}(J:Fr→Heap→Prop)(hcl:(xs.take n).all (fun o=>decide (o.cls=4))=true)
  (hb:∀ Q':QE,(∀ fr h,J fr h→Q' .normal fr h)→Run E W [.draw hs (xs.take n) ld wr] Q' fr h)
  (h2:∀ fr h,J fr h→Run E W (.draw hs (xs.drop n) ld wr::k) Q fr h) : Run E W (.draw hs xs ld wr::k) Q fr h :=
 qr7 n J hcl (hb _ (fun _ _ hj=>hj)) h2

theorem qit {A:Nat}{keep:List Nat}(Bd:σ→Option (Oc σ ρ))(J:σ→Fr→Heap→Prop){n:Nat}{s0:σ}{o:Oc σ ρ}(hF:wo Bd n s0=some o)(hJ0:J s0 fr h)
  (hkeep:∀ s fr h,J s fr h→J s (kv keep fr) h)
  (hbody:∀ s fr' h',J s fr' h'→∀ o1,Bd s=some o1→(∀ q,o1 = .ret q→o = .ret q)→∀ Q':QE,
   (∀ s' fr2 h2,o1 = .nxt s'→J s' fr2 h2→Q' .normal fr2 h2)→(∀ s' fr2 h2,o1 = .brk s'→J s' fr2 h2→Q' (.exit A) fr2 h2)→(∀ fr2 h2,Q .ret fr2 h2→Q' .ret fr2 h2)→(∀ j fr2 h2,j≠A→Out E W j k Q fr2 h2→Q' (.exit j) fr2 h2) →
   Run E W [.code c] Q' fr' h')
  (hnext:∀ s fr' h',o = .nxt s→J s fr' h'→Run E W k Q fr' h') :
  Run E W (.code (.block A (.loop keep c))::k) Q fr h:=by
 refine qw8 Bd J hF hJ0 hkeep (fun s fr' h' hJ o1 ho1 hr=>?_) hnext
 refine hbody s fr' h' hJ o1 ho1 hr _ ?_ ?_ ?_ ?_
 ·intro s' fr2 h2 e hj; exact ⟨s',e,hj⟩
 ·intro s' fr2 h2 e hj; dsimp only; rw [if_pos rfl]; exact ⟨s',e,hj⟩
 ·intro fr2 h2 hq; dsimp only; rw [qbo]; exact hq
 ·intro j fr2 h2 hj hq; dsimp only; rw [if_neg hj]; exact hq

theorem qas {A B idx cnt tc ta c1 c2 c3:Nat}{keep:List Nat}(Bd:Nat→σ→Option (Oc σ ρ))(J:σ→Fr→Heap→Prop){m:Int}{s0:σ}{o:Oc σ ρ}
  (hF:wi Bd m s0=some o) (hJ0:J s0 fr h) (hi0:fr idx = .int .i64 0) (hn0:fr cnt = .int .i64 m)
  (hkeep:∀ s fr h,J s fr h→J s (kv keep fr) h) (hki:keep.contains idx=true) (hkn:keep.contains cnt=true)
  (hpc:∀ s fr h v,J s fr h→J s (fr.put (some tc) v) h) (hpa:∀ s fr h v,J s fr h→J s (fr.put (some ta) v) h) (hpi:∀ s fr h v,J s fr h→J s (fr.put (some idx) v) h)
  (hne:tc≠idx∧tc≠cnt∧ta≠idx∧ta≠cnt∧idx≠cnt∧A≠B)
  (hbody:∀ (i:Nat) (s:σ) fr' h',(i:Int)<m→J s fr' h'→fr' idx = .int .i64 i→fr' cnt = .int .i64 m→∀ o1,Bd i s=some o1→(∀ q,o1 = .ret q→o = .ret q)→∀ Q':QE,
   (∀ s' fr2 h2,o1 = .nxt s'→J s' fr2 h2→fr2 idx = .int .i64 i→fr2 cnt = .int .i64 m→Q' .normal fr2 h2)→(∀ s' fr2 h2,o1 = .nxt s'→J s' fr2 h2→fr2 idx = .int .i64 i→fr2 cnt = .int .i64 m→Q' (.exit B) fr2 h2)→(∀ s' fr2 h2,o1 = .brk s'→J s' fr2 h2→Q' (.exit A) fr2 h2)→(∀ fr2 h2,Q .ret fr2 h2→Q' .ret fr2 h2)→(∀ j fr2 h2,j≠A→j≠B→Out E W j k Q fr2 h2→Q' (.exit j) fr2 h2) →
   Run E W [.code c] Q' fr' h')
  (hnext:∀ s fr' h',o = .nxt s→J s fr' h'→Run E W k Q fr' h') :
  Run E W (.code (.block A (.loop keep (.seq (.reg false [⟨some tc,.bin .lss (.t idx) (.t cnt),none,c1⟩]) (.seq (.cond (.t tc) .skip (.exit A)) (.seq (.block B c) (.reg false [⟨some ta,.bin .add (.t idx) (.c (.int .i64 1)),none,c2⟩,⟨some idx,.mv (.t ta),none,c3⟩]))))))::k) Q fr h:=by
 refine ql7 Bd J hF hJ0 hi0 hn0 hkeep hki hkn hpc hpa hpi hne (fun i s fr' h' hlt hJ e1 e2 o1 ho1 hr=>?_) hnext
 have hAB:=hne.2.2.2.2.2
 refine hbody i s fr' h' hlt hJ e1 e2 o1 ho1 hr _ ?_ ?_ ?_ ?_ ?_
 ·intro s' fr2 h2 e hj x1 x2
  exact ⟨s',e,hj,x1,x2⟩
 ·intro s' fr2 h2 e hj x1 x2
  show (if B=B then _ else _)
  rw [if_pos rfl]
  exact ⟨s',e,hj,x1,x2⟩
 ·intro s' fr2 h2 e hj
  show (if A=B then _ else _)
  rw [if_neg hAB,if_pos rfl]
  exact ⟨s',e,hj⟩
 ·intro fr2 h2 hq
  show wc E W k Q .ret fr2 h2
  rw [qbo]
  exact hq
 ·intro j fr2 h2 hA hB hq
  show (if j=B then _ else _)
  rw [if_neg hB,if_neg hA]
  exact hq

theorem yi {A B idx cnt tc ta c1 c2 c3:Nat}{keep:List Nat}(L:List α)(Bd:Nat→α→σ→Option (Oc σ ρ))(J:σ→Fr→Heap→Prop){s0:σ}{o:Oc σ ρ}
  (hF:jt Bd L s0=some o) (hJ0:J s0 fr h) (hi0:fr idx = .int .i64 0) (hn0:fr cnt = .int .i64 (L.length:Int))
  (hkeep:∀ s fr h,J s fr h→J s (kv keep fr) h) (hki:keep.contains idx=true) (hkn:keep.contains cnt=true)
  (hpc:∀ s fr h v,J s fr h→J s (fr.put (some tc) v) h) (hpa:∀ s fr h v,J s fr h→J s (fr.put (some ta) v) h) (hpi:∀ s fr h v,J s fr h→J s (fr.put (some idx) v) h)
  (hne:tc≠idx∧tc≠cnt∧ta≠idx∧ta≠cnt∧idx≠cnt∧A≠B)
  (hbody:∀ (i:Nat) (x:α) (s:σ) fr' h',L[i]? = some x→J s fr' h'→fr' idx = .int .i64 i→fr' cnt = .int .i64 (L.length:Int)→∀ o1,Bd i x s=some o1→(∀ q,o1 = .ret q→o = .ret q)→∀ Q':QE,
   (∀ s' fr2 h2,o1 = .nxt s'→J s' fr2 h2→fr2 idx = .int .i64 i→fr2 cnt = .int .i64 (L.length:Int)→Q' .normal fr2 h2)→(∀ s' fr2 h2,o1 = .nxt s'→J s' fr2 h2→fr2 idx = .int .i64 i→fr2 cnt = .int .i64 (L.length:Int)→Q' (.exit B) fr2 h2)→(∀ s' fr2 h2,o1 = .brk s'→J s' fr2 h2→Q' (.exit A) fr2 h2)→(∀ fr2 h2,Q .ret fr2 h2→Q' .ret fr2 h2)→(∀ j fr2 h2,j≠A→j≠B→Out E W j k Q fr2 h2→Q' (.exit j) fr2 h2) →
   Run E W [.code c] Q' fr' h')
  (hnext:∀ s fr' h',o = .nxt s→J s fr' h'→Run E W k Q fr' h') :
  Run E W (.code (.block A (.loop keep (.seq (.reg false [⟨some tc,.bin .lss (.t idx) (.t cnt),none,c1⟩]) (.seq (.cond (.t tc) .skip (.exit A)) (.seq (.block B c) (.reg false [⟨some ta,.bin .add (.t idx) (.c (.int .i64 1)),none,c2⟩,⟨some idx,.mv (.t ta),none,c3⟩]))))))::k) Q fr h:=by
 refine qq8 L Bd J hF hJ0 hi0 hn0 hkeep hki hkn hpc hpa hpi hne (fun i x s fr' h' hx hJ e1 e2 o1 ho1 hr=>?_) hnext
 have hAB:=hne.2.2.2.2.2
 refine hbody i x s fr' h' hx hJ e1 e2 o1 ho1 hr _ ?_ ?_ ?_ ?_ ?_
 ·intro s' fr2 h2 e hj x1 x2
  exact ⟨s',e,hj,x1,x2⟩
 ·intro s' fr2 h2 e hj x1 x2
  show (if B=B then _ else _)
  rw [if_pos rfl]
  exact ⟨s',e,hj,x1,x2⟩
 ·intro s' fr2 h2 e hj
  show (if A=B then _ else _)
  rw [if_neg hAB,if_pos rfl]
  exact ⟨s',e,hj⟩
 ·intro fr2 h2 hq
  show wc E W k Q .ret fr2 h2
  rw [qbo]
  exact hq
 ·intro j fr2 h2 hA hB hq
  show (if j=B then _ else _)
  rw [if_neg hB,if_neg hA]
  exact hq

theorem qat {a b:Bool}(h:a=true) : (a&&b)=b:=by rw [h]; rfl
theorem qao {a b:Bool}(h:a=false) : (a&&b)=false:=by rw [h]; rfl
theorem orT {a b:Bool}(h:a=true) : (a||b)=true:=by rw [h]; rfl
theorem orF {a b:Bool}(h:a=false) : (a||b)=b:=by rw [h]; rfl
def mnI (a b:Int) : Int:=if b<a then b else a
def mxI (a b:Int) : Int:=if b > a then b else a
theorem wa {n:Option Nat}{a bb oo:Nat}{P:XV→Heap→Prop}{v:XV}(h1:fr a = .ptr bb oo)(h2:xld h n (.ptr bb oo)=some v)(H:P v h) : EndW [.cell a n] P .ret fr h:=by
 rw [q0p,h1]
 dsimp only
 rw [h2]
 exact H
variable {r:List XOper}{d:Option Nat}{lo:Nat→Prop}{S:List Obj}{bk:Nat}{ty esz bytes:Nat}{f:α→List XV}{l:List α}
theorem q13 {n:Int}{z:α}(hS:Sep h lo S)(hl:mkN bytes n z=some l)(hz:(f z).length=esz)
  (H:∀ b h',Sep h' lo (RowO b ty f l::S)→Run E W (.ops r::k) Q (fr.put d (.row b 0 l.length l.length)) h') : Put2 E W (qk1 W h ty esz bytes (f z) (.int .i64 n) (.int .i64 n)) d r k Q fr:=by
 unfold mkN at hl
 split at hl
 ·rename_i hc
  cases hl
  refine q12 hS hc.1 hc.2 hz (fun b h' hS'=>?_)
  have:=H b h' (by unfold RowO; rw [List.map_replicate]; exact hS')
  rw [List.length_replicate] at this
  exact this
 ·cases hl
def qrz (neq:Bool)(ks:List XTy) : XV→XV→Option XV
 | .agg xs,.agg ys=>(qlk ks xs ys).map fun b => .bool (if neq then !b else b)
 | _,_=>none
theorem qt2 {W0:Nat→Bool}{ev:XO→XV}{neq:Bool}{ks:List XTy}{x y:XO} : ze W0 ev h (.eqs neq ks x y)=(qrz neq ks (ev x) (ev y)).map fun v=>(v,h):=by
 simp only [ze]
 cases ev x <;> try rfl
 cases ev y <;> try rfl
 rename_i xs ys
 simp only [qrz]
 cases qlk ks xs ys <;> rfl
theorem qys {neq:Bool}{ks:List XTy}{x y:XO}{hs:Nat}{ld wr:List Nat} : Run E W (.draw hs (⟨d,.eqs neq ks x y,none,4⟩::r) ld wr::k) Q fr h=Put1D E W (qrz neq ks (x.ev fr) (y.ev fr)) d hs r ld wr k Q fr h:=by
 rw [xl,qt2,yw]
theorem qkj {n:Option Nat}{cs:List XV}{o:Nat}{hs:Nat}{ld wr:List Nat} : LdD E W n (.ref cs o) d hs r ld wr k Q fr h=Put1D E W (xld h n (.ref cs o)) d hs r ld wr k Q fr h:=(rfl)
variable {p0 p1 p2 p3 p4 p5 p6 p7 p8:Obj}
variable {cs:List XV}
end
end Go.Proofs.Ytanblnjomhgphaa.X
