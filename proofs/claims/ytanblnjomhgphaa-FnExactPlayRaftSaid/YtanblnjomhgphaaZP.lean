/- A machine of this claim's own, sound for the model's, and plain theory over it: no condition (1). -/
import Derived.Test.YtanblnjomhgphaaZHeap
import Derived.IntWalk
open List renaming all_eq_true→a0r,drop_append_of_le_length→a1k,drop_drop→a2h,drop_succ_cons→s5,flatMap_cons→a3m,flatten_append→a1j,flatten_cons→a0q,getElem?_append_left→t5,getElem?_eq_some_iff→o7,length_cons→a0k,length_take→a0f,map_cons→a3k,mem_cons→a2d,mem_singleton→a1n,nodup_append→a28,range→a2w,replicate→a0l,take_append_drop→a11,take_append_of_le_length→a08,take_succ_cons→r8
open Nat renaming le_refl→t9,succ_mul→a2l,zero_le→a1s
set_option linter.unusedVariables false
set_option linter.unusedSimpArgs false
namespace Go.Proofs.Ytanblnjomhgphaa.X
open Go

def cI (n:Int) : List XV:=[.int .i64 n]
def cU8 (n:Int) : List XV:=[.int .u8 n]
def cB (b:Bool) : List XV:=[.bool b]
def cS (s:ByteArray) : List XV:=[.str s]
def lst {α:Type}(f:α→List XV)(l:List α) : XV := .list (l.map f)
def cL {α:Type}(f:α→List XV)(l:List α) : List XV:=[lst f l]

def zn {α:Type}(l:List α)(i:Int) : Option α:=if 0≤i then l[i.toNat]? else none
def sl {α:Type}(l:List α)(lo hi:Int) : Option (List α):=if 0≤lo∧lo≤hi∧hi≤l.length then some ((l.take hi.toNat).drop lo.toNat) else none
def ck {β:Type}(p:Prop)[Decidable p](x:Option β) : Option β:=if p then x else none
def ju {α:Type}(b:Nat)(a x:List α) : Option (List α):=if (a.length+x.length)*b≤70368744177664 then some (a++x) else none
def mkN {α:Type}(b:Nat)(n:Int)(z:α) : Option (List α):=if 0≤n∧n*b≤140737488355328 then some (a0l n.toNat z) else none
def zw (k:IntKind)(a b:Int) : Int:=k.wrap (BitVec.ofInt k.bits a &&& BitVec.ofInt k.bits b).toNat
def qh6 (k:IntKind)(a b:Int) : Int:=k.wrap (a*2 ^ (min b.toNat k.bits))
def ji (k:IntKind)(a b:Int) : Int:=a.fdiv (2 ^ (min b.toNat k.bits))

inductive Oc (σ ρ:Type) where
 | nxt (s:σ)
 | brk (s:σ)
 | ret (r:ρ)

def jnO {σ ρ:Type}(o:Oc σ ρ)(k:σ→Option ρ) : Option ρ :=
 match o with
 | .nxt s=>k s
 | .brk s=>k s
 | .ret r=>some r
def jn {σ ρ:Type}(x:Option (Oc σ ρ))(k:σ→Option ρ) : Option ρ:=x.bind fun o=>jnO o k
theorem jz {σ ρ:Type}{x:Option (Oc σ ρ)}{k:σ→Option ρ}{r:ρ}(h:jn x k=some r) : ∃ o,x=some o∧jnO o k=some r:=by
 unfold jn at h
 cases x with
 | none=>cases h
 | some o=>exact ⟨o,rfl,h⟩
theorem qi {α β:Type}{x:Option α}{k:α→Option β}{r:β}(h:x.bind k=some r) : ∃ a,x=some a∧k a=some r:=by
 cases x with
 | none=>cases h
 | some a=>exact ⟨a,rfl,h⟩
theorem qfq {β:Type}{p:Prop}[Decidable p]{x:Option β}{r:β}(h:ck p x=some r) : p∧x=some r:=by
 unfold ck at h
 split at h
 ·exact ⟨by assumption,h⟩
 ·cases h
def x6 {α σ ρ:Type}(B:Nat→α→σ→Option (Oc σ ρ)) : List α→Nat→σ→Option (Oc σ ρ)
 | [],_,s=>some (.nxt s)
 | x::r,i,s=>match B i x s with
  | some (.nxt s')=>x6 B r (i+1) s'
  | some (.brk s')=>some (.nxt s')
  | some (.ret q)=>some (.ret q)
  | none=>none
def yd {α σ ρ:Type}(B:Nat→α→σ→Option (Oc σ ρ))(l:List α)(s:σ) : Option (Oc σ ρ):=if l.length≤4611686018427387904 then x6 B l 0 s else none
def qda {σ ρ:Type}(B:Nat→σ→Option (Oc σ ρ)) : Nat→Nat→σ→Option (Oc σ ρ)
 | 0,_,s=>some (.nxt s)
 | n+1,i,s=>match B i s with
  | some (.nxt s')=>qda B n (i+1) s'
  | some (.brk s')=>some (.nxt s')
  | some (.ret q)=>some (.ret q)
  | none=>none
def wn {σ ρ:Type}(B:Nat→σ→Option (Oc σ ρ))(n:Int)(s:σ) : Option (Oc σ ρ):=if n≤4611686018427387904 then qda B n.toNat 0 s else none
def kr {σ ρ:Type}(B:σ→Option (Oc σ ρ)) : Nat→σ→Option (Oc σ ρ)
 | 0,_=>none
 | n+1,s=>match B s with
  | some (.nxt s')=>kr B n s'
  | some (.brk s')=>some (.nxt s')
  | some (.ret q)=>some (.ret q)
  | none=>none

structure Obj where
 fp:List Nat
 ok:Heap→Prop
 loc:∀ h h':Heap,(∀ b∈fp,h'[b]? = h[b]?)→ok h→ok h'

def Blk1 (b:Nat)(cs:List XV)(ty:TypeId) : Obj:=⟨[b],fun h=>h[b]? = some ⟨cs,ty,true⟩,fun h h' e H=>by rw [e b (by simp)]; exact H⟩

abbrev geL (n:Nat) : Nat→Prop:=fun b=>n≤b
structure Sep (h:Heap) (lo:Nat→Prop) (S:List Obj) : Prop where
 base:∀ b,h.length≤b→lo b
 nodup:(S.flatMap Obj.fp).Nodup
 ran:∀ b∈S.flatMap Obj.fp,lo b∧b<h.length
 ok:∀ o∈S,o.ok h

section
variable {h:Heap}{lo:Nat→Prop}{S:List Obj}{o o1 o2 o3 o4 o5:Obj}{b:Nat}{cs vs:List XV}{ty:TypeId}

theorem Sep.nil (h:Heap) : Sep h (geL h.length) []:=⟨fun _ h=>h,by simp,fun b hb=>by simp at hb,fun o ho=>by simp at ho⟩
theorem Sep.drop (H:Sep h lo (o::S)) : Sep h lo S:=by
 refine ⟨H.base,?_,fun b hb=>H.ran b (by simp [hb]),fun x hx=>H.ok x (by simp [hx])⟩
 have:=H.nodup
 rw [a3m,a28] at this
 exact this.2.1
theorem Sep.perm {S':List Obj}(H:Sep h lo S)(p:S.Perm S') : Sep h lo S':=by
 have q:=p.flatMap_right Obj.fp
 exact ⟨H.base,q.nodup_iff.1 H.nodup,fun b hb=>H.ran b (q.mem_iff.2 hb),fun x hx=>H.ok x (p.mem_iff.2 hx)⟩
theorem qvw {k:Blk}(hk:h[b]? = some k)(hl:k.live=true) : zy h b=some k:=by
 unfold zy
 rw [hk]
 simp [hl]
theorem Sep.blk0 (H:Sep h lo (Blk1 b cs ty::S)) : zy h b=some ⟨cs,ty,true⟩:=qvw (H.ok (Blk1 b cs ty) (by simp)) rfl
theorem Sep.ge (H:Sep h lo (Blk1 b cs ty::S)) : lo b:=(H.ran b (by simp [Blk1])).1
theorem Sep.lt (H:Sep h lo (Blk1 b cs ty::S)) : b<h.length:=(H.ran b (by simp [Blk1])).2

theorem Sep.keep {h':Heap}(H:Sep h lo S)(hl:h.length≤h'.length)(he:∀ b∈S.flatMap Obj.fp,h'[b]? = h[b]?) : Sep h' lo S:=by
 refine ⟨fun b hb=>H.base b (Nat.le_trans hl hb),H.nodup,fun b hb=>?_,fun x hx=>x.loc h h' (fun b hb=>he b (List.mem_flatMap.2 ⟨x,hx,hb⟩)) (H.ok x hx)⟩
 have:=H.ran b hb
 exact ⟨this.1,by omega⟩
theorem Sep.new (H:Sep h lo S)(cs:List XV)(ty:TypeId) : Sep (h++[⟨cs,ty,true⟩]) lo (Blk1 h.length cs ty::S):=by
 have K:Sep (h++[⟨cs,ty,true⟩]) lo S:=H.keep (by simp) (fun b hb=>by rw [t5 (H.ran b hb).2])
 refine ⟨K.base,?_,fun b hb=>?_,fun x hx=>?_⟩
 ·rw [a3m,a28]
  refine ⟨by simp [Blk1],H.nodup,fun a ha b hb=>?_⟩
  simp only [Blk1,a1n] at ha
  subst ha
  have:=(H.ran b hb).2
  omega
 ·rw [a3m,List.mem_append] at hb
  rcases hb with hb | hb
  ·simp only [Blk1,a1n] at hb
   subst hb
   exact ⟨H.base _ (t9 _),by simp⟩
  ·exact K.ran b hb
 ·rcases a2d.1 hx with rfl | hx
  ·simp [Blk1]
  ·exact K.ok x hx
theorem Sep.set (H:Sep h lo (Blk1 b cs ty::S))(cs':List XV) : Sep (h.set b ⟨cs',ty,true⟩) lo (Blk1 b cs' ty::S):=by
 have hb:=H.lt
 have hno:b ∉ S.flatMap Obj.fp:=by
  have:=H.nodup
  rw [a3m,a28] at this
  intro hb
  exact this.2.2 b (by simp [Blk1]) b hb rfl
 have K:Sep (h.set b ⟨cs',ty,true⟩) lo S:=H.drop.keep (by simp) (fun x hx=>by rw [List.getElem?_set_ne]; rintro rfl; exact hno hx)
 refine ⟨K.base,H.nodup,fun x hx=>?_,fun x hx=>?_⟩
 ·have:=H.ran x hx
  simpa using this
 ·rcases a2d.1 hx with rfl | hx
  ·simp [Blk1,hb]
  ·exact K.ok x hx
theorem Sep.kill (H:Sep h lo (Blk1 b cs ty::S)) : Sep (X.kill h b) lo S:=by
 have hno:b ∉ S.flatMap Obj.fp:=by
  have:=H.nodup
  rw [a3m,a28] at this
  intro hb
  exact this.2.2 b (by simp [Blk1]) b hb rfl
 exact H.drop.keep (by rw [k9]; exact t9 _) (fun x hx=>by rw [qbf,if_neg]; rintro rfl; exact hno hx)

theorem zdf (hb:zy h b=some ⟨cs,ty,true⟩)(o:Nat) : qac h b o=cs[o]? := by simp [qac,hb]
theorem qfe (hb:zy h b=some ⟨cs,ty,true⟩)(o n:Nat) : kn h b o n=if o+n≤cs.length then some ((cs.drop o).take n) else none:=by simp [kn,hb]
theorem qj4 {W:Nat→Bool}{o:Nat}(hw:W b=true)(hb:zy h b=some ⟨cs,ty,true⟩)(hl:o+vs.length≤cs.length)(h1:vs.all XV.one=true) : setCells W h b o vs=some (h.set b ⟨jr cs o vs,ty,true⟩):=by
 simp [setCells,hb,hw,hl]
 simpa using h1
end

section
variable {E:Env}{W:Nat→Bool}{k:List It}{Q:QE}{fr:Fr}{h:Heap}{lo:Nat→Prop}{S:List Obj}{d:Option Nat}{r:List XOper}{b:Nat}{cs:List XV}{ty:TypeId}

theorem qf {o:Option XV}{v:XV}(e:o=some v)(H:Run E W (.ops r::k) Q (fr.put d v) h) : Put1 E W o d r k Q fr h:=by
 rw [e]; exact H
theorem qo {o:Option XV}{v:XV}{hs:Nat}{ld wr:List Nat}(e:o=some v)(H:Run E W (.draw hs r ld wr::k) Q (fr.put d v) h) : Put1D E W o d hs r ld wr k Q fr h:=by
 rw [e]; exact H
theorem qz4 {z:List XV}(hS:Sep h lo S)(H:∀ b h',Sep h' lo (Blk1 b z ty::S)→Run E W (.ops r::k) Q (fr.put d (.ptr b 0)) h') : Put2 E W (qmx W h ty z) d r k Q fr :=
 H h.length _ (hS.new z ty)
theorem q1i {n:Nat}{v:XV}{cs:List XV}(hS:Sep h lo S)(e:v.cells=cs)(h1:cs.length=n)(h2:cs.all XV.one=true)(H:∀ b h',Sep h' lo (Blk1 b cs ty::S)→Run E W (.ops r::k) Q (fr.put d (.ptr b 0)) h') : Put2 E W (qqw W h ty n v) d r k Q fr:=by
 subst e
 rw [qwz h1 h2]
 exact H h.length _ (hS.new _ ty)
theorem qmf {n o:Nat}{v:XV}{cs':List XV}(hS:Sep h lo (Blk1 b cs ty::S))(hw:W b=true)(h1:v.cells.length=n)(h2:v.cells.all XV.one=true)(h3:o+n≤cs.length)(e:jr cs o v.cells=cs')
  (H:∀ h',Sep h' lo (Blk1 b cs' ty::S)→Run E W (.ops r::k) Q (fr.put d .undef) h') : Put2 E W (pst W h n (.ptr b o) v) d r k Q fr:=by
 rw [za2,if_pos h1,qj4 hw hS.blk0 (by rw [h1]; exact h3) h2]
 subst e
 exact H _ (hS.set _)
theorem q0e {esz bytes:Nat}{z:List XV}{n:Int}(hS:Sep h lo S)(h0:0≤n)(h1:n*bytes≤140737488355328)(h2:z.length=esz)
  (H:∀ b h',Sep h' lo (Blk1 b (a0l n.toNat z).flatten ty::S)→Run E W (.ops r::k) Q (fr.put d (.row b 0 n.toNat n.toNat)) h') : Put2 E W (qkw W h ty esz bytes z (.int .i64 n) (.int .i64 n)) d r k Q fr:=by
 have e:qkw W h ty esz bytes z (.int .i64 n) (.int .i64 n)=some (.row h.length 0 n.toNat n.toNat,h++[⟨(a0l n.toNat z).flatten,ty,true⟩]):=if_pos ⟨rfl,h0,h1,h2⟩
 rw [e]
 exact H h.length _ (hS.new _ ty)
theorem qfx {len:Nat}{z:List XV}{ps:List (Nat × Nat × XV)}{cs:List XV}(hS:Sep h lo S)(e:fill z ps=some cs)(H:∀ b h',Sep h' lo (Blk1 b cs ty::S)→Run E W (.ops r::k) Q (fr.put d (.row b 0 len len)) h') : Put2 E W (wy h ty len z ps) d r k Q fr:=by
 have e2:wy h ty len z ps=some (.row h.length 0 len len,h++[⟨cs,ty,true⟩]):=by simp [wy,e]
 rw [e2]
 exact H h.length _ (hS.new _ ty)
theorem q0v {t:Nat}{ts:List Nat}(hf:fr t = .ptr b 0)(hS:Sep h lo (Blk1 b cs ty::S))(hw:W b=true)(H:∀ h',Sep h' lo S→Run E W (.code (.frz ts)::k) Q (fr.put (some t) (.ref cs 0)) h') : Run E W (.code (.frz (t::ts))::k) Q fr h :=
 za5 hf hS.blk0 hw (H _ hS.kill)
end

section
variable {E:Env}{W:Nat→Bool}{k:List It}{Q:QE}{fr:Fr}{h:Heap}{a b c:XCode}

theorem zaw:∀ (k1 k:List It) {Q:QE} {fr:Fr} {h:Heap},Run E W k1 (fun e fr h=>yq E W k Q e fr h) fr h=Run E W (k1++k) Q fr h:=by
 have key:∀ (k1 k:List It) {Q:QE},yq E W k1 (yq E W k Q)=yq E W (k1++k) Q:=by
  intro k1
  induction k1 with
  | nil=>intro k Q; rfl
  | cons i k1 ih =>
   intro k Q
   cases i <;> (simp only [List.cons_append,yq]; rw [ih k])
 intro k1 k Q fr h
 unfold Run
 rw [key]
theorem Run.mono {k1:List It}{Q Q':QE}(hQ:∀ e fr h,Q e fr h→Q' e fr h){fr:Fr}{h:Heap}(H:Run E W k1 Q fr h) : Run E W k1 Q' fr h:=by
 have key:∀ (k1:List It) {e:XE} {fr:Fr} {h:Heap},yq E W k1 Q e fr h→yq E W k1 Q' e fr h:=by
  intro k1
  induction k1 with
  | nil=>intro e fr h H; exact hQ _ _ _ H
  | cons i k1 ih =>
   intro e fr h H
   cases i with
   | code c =>
    cases e with
    | normal=>exact WC.mono c (fun e fr h=>ih) H
    | ret=>exact ih H
    | exit id=>exact ih H
   | ops xs =>
    cases e with
    | normal=>exact WO.mono (fun fr h=>ih) H
    | ret=>exact ih H
    | exit id=>exact ih H
   | draw hs xs ld wr =>
    cases e with
    | normal=>exact WD.mono (fun fr h=>ih) H
    | ret=>exact ih H
    | exit id=>exact ih H
   | blk id =>
    cases e with
    | normal=>exact ih H
    | ret=>exact ih H
    | exit i =>
     simp only [yq] at H ⊢
     split at H
     ·rename_i hi; rw [if_pos hi]; exact ih H
     ·rename_i hi; rw [if_neg hi]; exact ih H
 exact key k1 H

def JQ (E:Env)(W:Nat→Bool)(J:Fr→Heap→Prop)(k:List It)(Q:QE) : QE:=fun e fr h=>match e with
 | .normal=>J fr h
 | e=>yq E W k Q e fr h
theorem joint {k1 k:List It}(J:Fr→Heap→Prop)(h1:Run E W k1 (JQ E W J k Q) fr h)(h2:∀ fr h,J fr h→Run E W k Q fr h) : Run E W (k1++k) Q fr h:=by
 rw [←zaw]
 refine Run.mono (fun e fr h H=>?_) h1
 cases e with
 | normal=>exact h2 _ _ H
 | ret=>exact H
 | exit id=>exact H
theorem qrs {t:Bool}(J:Fr→Heap→Prop)(h1:t=true→Run E W [.code a] (JQ E W J k Q) fr h)(h0:t=false→Run E W [.code b] (JQ E W J k Q) fr h)(h2:∀ fr h,J fr h→Run E W k Q fr h) : CondK E W (.bool t) a b k Q fr h :=
 qs (fun e=>joint (k1:=[.code a]) J (h1 e) h2) (fun e=>joint (k1:=[.code b]) J (h0 e) h2)
theorem qtf (n:Nat){xs:List XOper}(J:Fr→Heap→Prop)(h1:Run E W [.ops (xs.take n)] (JQ E W J (.ops (xs.drop n)::k) Q) fr h)(h2:∀ fr h,J fr h→Run E W (.ops (xs.drop n)::k) Q fr h) : Run E W (.ops xs::k) Q fr h:=by
 have key:∀ (n:Nat) {xs:List XOper} {fr:Fr} {h:Heap},Run E W (.ops (xs.take n) :: .ops (xs.drop n)::k) Q fr h→Run E W (.ops xs::k) Q fr h:=by
  intro n
  induction n with
  | zero=>intro xs fr h H; exact H
  | succ n ih =>
   intro xs fr h H
   cases xs with
   | nil=>exact H
   | cons o r =>
    simp only [r8,s5] at H
    obtain ⟨d,op,g,cl⟩:=o
    cases g with
    | none=>exact OpW.mono (fun v h'=>ih) H
    | some gw =>
     obtain ⟨g,want⟩:=gw
     show WO E W (⟨d,op,some (g,want),cl⟩::r) _ fr h
     have H:WO E W (⟨d,op,some (g,want),cl⟩::r.take n) _ fr h:=H
     simp only [WO] at H ⊢
     split at H
     ·split at H
      ·rename_i hbw
       rw [if_pos hbw]
       exact OpW.mono (fun v h'=>ih) H
      ·rename_i hbw
       rw [if_neg hbw]
       exact ih H
     ·exact ih H
     ·cases H
 exact key n (joint (k1:=[.ops (xs.take n)]) J h1 h2)
end

section
variable {E:Env}{W:Nat→Bool}{k:List It}{Q:QE}{fr:Fr}{h:Heap}{σ ρ α:Type}

def BQ (E:Env)(W:Nat→Bool)(k:List It)(Q:QE)(A B:Nat)(N K:Fr→Heap→Prop) : QE:=fun e fr h=>match e with
 | .normal=>N fr h
 | .exit j=>if j=B then N fr h else if j=A then K fr h else yq E W k Q (.exit j) fr h
 | .ret=>yq E W k Q .ret fr h

theorem qtd {A:Nat}{keep:List Nat}{c:XCode}(Bd:σ→Option (Oc σ ρ))(J:σ→Fr→Heap→Prop){n:Nat}{s0:σ}{o:Oc σ ρ}(hF:kr Bd n s0=some o)(hJ0:J s0 fr h)
  (hkeep:∀ s fr h,J s fr h→J s (kj keep fr) h)
  (hbody:∀ s fr' h',J s fr' h'→∀ o1,Bd s=some o1→(∀ q,o1 = .ret q→o = .ret q)→Run E W [.code c] (fun e fr2 h2=>match e with
   | .normal=>∃ s',o1 = .nxt s'∧J s' fr2 h2
   | .exit j=>if j=A then ∃ s',o1 = .brk s'∧J s' fr2 h2 else yq E W k Q (.exit j) fr2 h2
   | .ret=>yq E W k Q .ret fr2 h2) fr' h')
  (hnext:∀ s fr' h',o = .nxt s→J s fr' h'→Run E W k Q fr' h') :
  Run E W (.code (.block A (.loop keep c))::k) Q fr h:=by
 rw [j5]
 refine qoo (I:=fun m fr' h'=>∃ s,kr Bd m s=some o∧J s fr' h') ⟨s0,hF,hJ0⟩ ?_
 rintro m fr' h' ⟨s,hs,hJ⟩
 cases m with
 | zero=>cases hs
 | succ m =>
  simp only [kr] at hs
  cases hb:Bd s with
  | none=>rw [hb] at hs; cases hs
  | some o1 =>
   rw [hb] at hs
   refine Run.mono (fun e fr2 h2 H=>?_) (hbody s _ h' (hkeep _ _ _ hJ) o1 hb (fun q hq=>by subst hq; dsimp only at hs; cases hs; rfl))
   cases e with
   | normal =>
    obtain ⟨s',rfl,h3⟩:=H
    exact ⟨m,Nat.lt_succ_self m,s',hs,h3⟩
   | ret=>exact H
   | exit j =>
    show Out E W j (.blk A::k) Q fr2 h2
    rw [qjx]
    dsimp only at H
    split at H
    ·rename_i hj
     rw [if_pos hj]
     obtain ⟨s',rfl,h3⟩:=H
     dsimp only at hs
     cases hs
     exact hnext _ _ _ rfl h3
    ·rename_i hj
     rw [if_neg hj]
     exact H

theorem ql5 {A B idx cnt tc ta c1 c2 c3:Nat}{keep:List Nat}{c:XCode}(Bd:Nat→σ→Option (Oc σ ρ))(J:σ→Fr→Heap→Prop){m:Int}{s0:σ}{o:Oc σ ρ}
  (hF:wn Bd m s0=some o) (hJ0:J s0 fr h) (hi0:fr idx = .int .i64 0) (hn0:fr cnt = .int .i64 m)
  (hkeep:∀ s fr h,J s fr h→J s (kj keep fr) h) (hki:keep.contains idx=true) (hkn:keep.contains cnt=true)
  (hpc:∀ s fr h v,J s fr h→J s (fr.put (some tc) v) h) (hpa:∀ s fr h v,J s fr h→J s (fr.put (some ta) v) h) (hpi:∀ s fr h v,J s fr h→J s (fr.put (some idx) v) h)
  (hne:tc≠idx∧tc≠cnt∧ta≠idx∧ta≠cnt∧idx≠cnt∧A≠B)
  (hbody:∀ (i:Nat) (s:σ) fr' h',(i:Int)<m→J s fr' h'→fr' idx = .int .i64 i→fr' cnt = .int .i64 m→∀ o1,Bd i s=some o1→(∀ q,o1 = .ret q→o = .ret q) →
   Run E W [.code c] (BQ E W k Q A B (fun fr2 h2=>∃ s',o1 = .nxt s'∧J s' fr2 h2∧fr2 idx = .int .i64 i∧fr2 cnt = .int .i64 m) (fun fr2 h2=>∃ s',o1 = .brk s'∧J s' fr2 h2)) fr' h')
  (hnext:∀ s fr' h',o = .nxt s→J s fr' h'→Run E W k Q fr' h') :
  Run E W (.code (.block A (.loop keep (.seq (.reg false [⟨some tc,.bin .lss (.t idx) (.t cnt),none,c1⟩]) (.seq (.cond (.t tc) .skip (.exit A)) (.seq (.block B c) (.reg false [⟨some ta,.bin .add (.t idx) (.c (.int .i64 1)),none,c2⟩,⟨some idx,.mv (.t ta),none,c3⟩]))))))::k) Q fr h:=by
 obtain ⟨n1,n2,n3,n4,n5,n6⟩:=hne
 have hm:m≤4611686018427387904:=by
  unfold wn at hF
  split at hF
  ·assumption
  ·cases hF
 have hF':qda Bd m.toNat 0 s0=some o:=by unfold wn at hF; rw [if_pos hm] at hF; exact hF
 rw [j5]
 refine qoo (I:=fun j fr' h'=>∃ (i:Nat) (s:σ),j=(m.toNat - i)+1∧(i≤m.toNat)∧qda Bd (m.toNat - i) i s=some o∧J s fr' h'∧fr' idx = .int .i64 i∧fr' cnt = .int .i64 m) ⟨0,s0,rfl,a1s _,hF',hJ0,hi0,hn0⟩ ?_
 rintro j fr' h' ⟨i,s,rfl,hi,hs,hJ,e1,e2⟩
 have k1:kj keep fr' idx = .int .i64 i:=by unfold kj; rw [hki]; exact e1
 have k2:kj keep fr' cnt = .int .i64 m:=by unfold kj; rw [hkn]; exact e2
 have hJ1:=hkeep _ _ _ hJ
 generalize kj keep fr'=fr1 at k1 k2 hJ1
 rw [qd,qc,qq,qk6,qk6,k1,k2,yg,qb,qa,qd,qv,qk6,qcz,if_pos rfl]
 refine qs (fun hc=>?_) (fun hc=>?_)
 ·have hlt:(i:Int)<m:=by simpa using hc
  rw [qw,qd]
  have hs':qda Bd ((m.toNat - (i+1))+1) i s=some o:=by rw [show m.toNat - (i+1)+1=m.toNat - i by omega]; exact hs
  simp only [qda] at hs'
  cases hb:Bd i s with
  | none=>rw [hb] at hs'; cases hs'
  | some o1 =>
   rw [hb] at hs'
   have hr:=hbody i s (fr1.put (some tc) (.bool (decide ((i:Int)<m)))) h' hlt (hpc _ _ _ _ hJ1) (by rw [qcz,if_neg (Ne.symm n1)]; exact k1) (by rw [qcz,if_neg (Ne.symm n2)]; exact k2) o1 hb
    (fun q hq=>by subst hq; dsimp only at hs'; cases hs'; rfl)
   rw [j5]
   refine joint (k1:=[.code c]) (k:=[.blk B,.code _]) (fun fr2 h2=>∃ s',o1 = .nxt s'∧J s' fr2 h2∧fr2 idx = .int .i64 i∧fr2 cnt = .int .i64 m) (Run.mono (fun e fr2 h2 H=>?_) hr) ?_
   ·cases e with
    | normal=>exact H
    | ret =>
     show yq E W (.blk B::_) _ .ret fr2 h2
     rw [qbh]
     exact H
    | exit j =>
     show Out E W j (.blk B::_) _ fr2 h2
     rw [qjx]
     dsimp only [BQ] at H
     split at H
     ·rename_i hj
      rw [if_pos hj]
      obtain ⟨s',rfl,h3,h4,h5⟩:=H
      rw [qc,qq,qk6,h4,zdy,j8,qb,qe,qa,qr,qk6,qcz,if_pos rfl,IntWalk.i64_in _ (by omega)]
      exact ⟨(m.toNat - (i+1))+1,by omega,i+1,s',rfl,by omega,hs',hpi _ _ _ _ (hpa _ _ _ _ h3),by rw [qcz,if_pos rfl]; rfl,by rw [qcz,if_neg (Ne.symm n5),qcz,if_neg (Ne.symm n4)]; exact h5⟩
     ·rename_i hj
      rw [if_neg hj,yl,y8]
      show Out E W j (.blk A::k) Q fr2 h2
      rw [qjx]
      split at H
      ·rename_i hj2
       rw [if_pos hj2]
       obtain ⟨s',rfl,h3⟩:=H
       dsimp only at hs'
       cases hs'
       exact hnext _ _ _ rfl h3
      ·rename_i hj2
       rw [if_neg hj2]
       exact H
   ·rintro fr2 h2 ⟨s',rfl,h3,h4,h5⟩
    rw [kg,qc,qq,qk6,h4,zdy,j8,qb,qe,qa,qr,qk6,qcz,if_pos rfl,IntWalk.i64_in _ (by omega)]
    exact ⟨(m.toNat - (i+1))+1,by omega,i+1,s',rfl,by omega,hs',hpi _ _ _ _ (hpa _ _ _ _ h3),by rw [qcz,if_pos rfl]; rfl,by rw [qcz,if_neg (Ne.symm n5),qcz,if_neg (Ne.symm n4)]; exact h5⟩
 ·have hge:¬ (i:Int)<m:=by simpa using hc
  have e0:m.toNat - i=0:=by omega
  rw [e0] at hs
  simp only [qda] at hs
  cases hs
  rw [yn,yl,y8]
  show Out E W A (.blk A::k) Q _ h'
  rw [qjx,if_pos rfl]
  exact hnext _ _ _ rfl (hpc _ _ _ _ hJ1)

theorem q0d {Bd:Nat→α→σ→Option (Oc σ ρ)}{L:List α} : ∀ (n i:Nat) (s:σ),L.length - i=n→i≤L.length→x6 Bd (L.drop i) i s=qda (fun i s=>(L[i]?).bind fun x=>Bd i x s) n i s:=by
 intro n
 induction n with
 | zero =>
  intro i s h1 h2
  rw [List.drop_eq_nil_of_le (by omega)]
  rfl
 | succ n ih =>
  intro i s h1 h2
  have hlt:i<L.length:=by omega
  rw [List.drop_eq_getElem_cons hlt]
  simp only [x6,qda,List.getElem?_eq_getElem hlt,Option.bind_some]
  cases hb:Bd i L[i] s with
  | none=>rfl
  | some o =>
   cases o with
   | nxt s'=>exact ih (i+1) s' (by omega) (by omega)
   | brk s'=>rfl
   | ret q=>rfl

theorem qra {A B idx cnt tc ta c1 c2 c3:Nat}{keep:List Nat}{c:XCode}(L:List α)(Bd:Nat→α→σ→Option (Oc σ ρ))(J:σ→Fr→Heap→Prop){s0:σ}{o:Oc σ ρ}
  (hF:yd Bd L s0=some o) (hJ0:J s0 fr h) (hi0:fr idx = .int .i64 0) (hn0:fr cnt = .int .i64 (L.length:Int))
  (hkeep:∀ s fr h,J s fr h→J s (kj keep fr) h) (hki:keep.contains idx=true) (hkn:keep.contains cnt=true)
  (hpc:∀ s fr h v,J s fr h→J s (fr.put (some tc) v) h) (hpa:∀ s fr h v,J s fr h→J s (fr.put (some ta) v) h) (hpi:∀ s fr h v,J s fr h→J s (fr.put (some idx) v) h)
  (hne:tc≠idx∧tc≠cnt∧ta≠idx∧ta≠cnt∧idx≠cnt∧A≠B)
  (hbody:∀ (i:Nat) (x:α) (s:σ) fr' h',L[i]? = some x→J s fr' h'→fr' idx = .int .i64 i→fr' cnt = .int .i64 (L.length:Int)→∀ o1,Bd i x s=some o1→(∀ q,o1 = .ret q→o = .ret q) →
   Run E W [.code c] (BQ E W k Q A B (fun fr2 h2=>∃ s',o1 = .nxt s'∧J s' fr2 h2∧fr2 idx = .int .i64 i∧fr2 cnt = .int .i64 (L.length:Int)) (fun fr2 h2=>∃ s',o1 = .brk s'∧J s' fr2 h2)) fr' h')
  (hnext:∀ s fr' h',o = .nxt s→J s fr' h'→Run E W k Q fr' h') :
  Run E W (.code (.block A (.loop keep (.seq (.reg false [⟨some tc,.bin .lss (.t idx) (.t cnt),none,c1⟩]) (.seq (.cond (.t tc) .skip (.exit A)) (.seq (.block B c) (.reg false [⟨some ta,.bin .add (.t idx) (.c (.int .i64 1)),none,c2⟩,⟨some idx,.mv (.t ta),none,c3⟩]))))))::k) Q fr h:=by
 have hm:L.length≤4611686018427387904:=by
  unfold yd at hF
  split at hF
  ·assumption
  ·cases hF
 have hF':wn (fun i s=>(L[i]?).bind fun x=>Bd i x s) (L.length:Int) s0=some o:=by
  unfold yd at hF
  rw [if_pos hm] at hF
  unfold wn
  rw [if_pos (by omega),← hF,← q0d (L:=L) _ 0 s0 (by omega) (a1s _),List.drop_zero]
 refine ql5 (fun i s=>(L[i]?).bind fun x=>Bd i x s) J hF' hJ0 hi0 hn0 hkeep hki hkn hpc hpa hpi hne (fun i s fr' h' hlt hJ e1 e2 o1 ho1 hr=>?_) hnext
 obtain ⟨x,hx,ho⟩:=qi ho1
 exact hbody i x s fr' h' hx hJ e1 e2 o1 ho hr
end
end Go.Proofs.Ytanblnjomhgphaa.X
namespace Go.Proofs.Ytanblnjomhgphaa.X
open Go

section
variable {E:Env}{W:Nat→Bool}{k:List It}{Q:QE}{fr:Fr}{h:Heap}{lo:Nat→Prop}{n0:Nat}{S:List Obj}{d:Option Nat}{r:List XOper}{b:Nat}{ty:TypeId}{α:Type}{f:α→List XV}{l l2:List α}{sz:TypeId→Nat}{n esz bytes:Nat}

theorem qa1 (hf:∀ x,(f x).length=n) : ((l.map f).flatten).length=l.length*n:=by
 induction l with
 | nil=>simp
 | cons a r ih=>simp only [a3k,a0q,List.length_append,hf,ih,a0k,a2l]; omega
theorem qj5 (hf:∀ x,(f x).length=n) : ∀ {l:List α} {i:Nat} {x:α},l[i]? = some x→(l.map f).flatten.drop (i*n)=f x++((l.drop (i+1)).map f).flatten:=by
 intro l
 induction l with
 | nil=>intro i x hx; simp at hx
 | cons a r ih =>
  intro i x hx
  cases i with
  | zero=>simp at hx; subst hx; simp
  | succ i =>
   have h1:=ih (i:=i) (x:=x) (by simpa using hx)
   simp only [a3k,a0q,s5]
   rw [List.drop_append,hf,List.drop_of_length_le (by rw [hf,a2l]; omega),List.nil_append,show (i+1)*n - n=i*n by rw [a2l]; omega]
   exact h1
theorem qqd (hf:∀ x,(f x).length=n){i:Nat}(hi:i≤l.length) : (l.map f).flatten.take (i*n)=((l.take i).map f).flatten:=by
 have e:l.map f=(l.take i).map f++(l.drop i).map f:=by rw [←List.map_append,a11]
 have h1:(((l.take i).map f).flatten).length=i*n:=by rw [qa1 hf,a0f]; congr 1; omega
 rw [e,a1j,← h1,List.take_left]
theorem zfd (hf:∀ x,(f x).length=n){i o:Nat}{x:α}(hx:l[i]? = some x)(ho:o<n) : (l.map f).flatten[i*n+o]? = (f x)[o]? := by
 rw [←List.getElem?_drop,qj5 hf hx,t5 (by rw [hf]; exact ho)]
theorem qov (hf:∀ x,(f x).length=n){i o m:Nat}{x:α}(hx:l[i]? = some x)(ho:o+m≤n) : ((l.map f).flatten.drop (i*n+o)).take m=((f x).drop o).take m:=by
 rw [←a2h,qj5 hf hx,a1k (by rw [hf]; omega),a08 (by rw [List.length_drop,hf]; omega)]
theorem zbr (hf:∀ x,(f x).length=n){i o:Nat}{x x':α}{vs:List XV}(hx:l[i]? = some x)(ho:o+vs.length≤n)(e:jr (f x) o vs=f x') : jr (l.map f).flatten (i*n+o) vs=((l.set i x').map f).flatten:=by
 have hi:i<l.length:=(o7.1 hx).1
 have hxl:=hf x
 rw [List.set_eq_take_append_cons_drop,if_pos hi,List.map_append,a3k,a1j,a0q,← e]
 unfold jr
 have h1:(l.map f).flatten.take (i*n+o)=((l.take i).map f).flatten++(f x).take o:=by
  have:=a11 (i*n) (l.map f).flatten
  conv=>lhs; rw [←this]
  have h3:i*n≤l.length*n:=Nat.mul_le_mul_right n (Nat.le_of_lt hi)
  have h4:((l.map f).flatten.take (i*n)).length=i*n:=by rw [a0f,qa1 hf]; omega
  rw [List.take_append,List.take_of_length_le (by rw [h4]; omega),h4,show i*n+o - i*n=o by omega,qqd hf (Nat.le_of_lt hi),qj5 hf hx,a08 (by omega)]
 have h2:(l.map f).flatten.drop (i*n+o+vs.length)=(f x).drop (o+vs.length)++((l.drop (i+1)).map f).flatten:=by
  rw [Nat.add_assoc,← a2h,qj5 hf hx,a1k (by omega)]
 rw [h1,h2]
 simp [List.append_assoc]

theorem jo {m:Nat} : snap h sz (m+1) (lst f l)=some (lst f l):=(rfl)
theorem xk {β:Type}{g:Nat→Option β}{f:α→β}{l:List α}(hg:∀ (i:Nat) x,l[i]? = some x→g i=some (f x)) : (a2w l.length).mapM g=some (l.map f):=by
 induction l generalizing g with
 | nil=>simp
 | cons a r ih =>
  rw [a0k,List.range_succ_eq_map,List.mapM_cons,hg 0 a rfl]
  have:(List.map Nat.succ (a2w r.length)).mapM g=some (r.map f):=by
   rw [List.mapM_map]
   exact ih (g:=fun i=>g (i+1)) (fun i x hx=>hg (i+1) x (by simpa using hx))
  simp [this]
def RowO (b:Nat)(ty:TypeId)(f:α→List XV)(l:List α) : Obj:=Blk1 b (l.map f).flatten ty
theorem qct (hf:∀ x,(f x).length=n) : k8 h n (lst f l)=some (l.length,(l.map f).flatten):=by
 unfold k8 lst
 dsimp only
 rw [if_pos (by rw [List.all_map,a0r]; intro x hx; simp [hf])]
 simp
theorem qt2 (h1:∀ x,(f x).all XV.one=true) : ((l.map f).flatten).all XV.one=true:=by
 rw [List.all_flatten,List.all_map,a0r]
 intro x _
 exact h1 x

theorem q06 {W:Nat→Bool}{x:XV}(hx:k8 h esz x=some (l2.length,(l2.map f).flatten)) : wx W h ty esz bytes .nil x=if l2.length=0 then some (.nil,h) else if l2.length*bytes≤70368744177664 then some (.row h.length 0 l2.length l2.length,h++[⟨(l2.map f).flatten,ty,true⟩]) else none:=by
 unfold wx
 simp only [q8,XO.ev,hx]
theorem yi {i:Int}{x:α}(hg:zn l i=some x) : 0≤i∧i<l.length∧l[i.toNat]? = some x:=by
 unfold zn at hg
 split at hg
 ·have:=(o7.1 hg).1
  exact ⟨by assumption,by omega,hg⟩
 ·cases hg
theorem j9 {kk:IntKind}{i:Int}{x:α}(hg:zn l i=some x)(hf:(f x).length=n) : xia n (lst f l) (.int kk i)=some (.ref (f x) 0):=by
 obtain ⟨h0,h1,h2⟩:=yi hg
 simp [lst,xia,h0,h2,hf]
theorem qam {kk:IntKind}{i:Nat}{x:α}(hg:l[i]? = some x)(hf:(f x).length=n) : xia n (lst f l) (.int kk (i:Int))=some (.ref (f x) 0):=by
 simp [lst,xia,hg,hf]
theorem qi6 {kk:IntKind}{i:Int}{m c:Nat}(h0:0≤i)(h1:i<m) : xia n (.row b 0 m c) (.int kk i)=some (.ptr b (i.toNat*n)):=by
 simp [xia,h0,h1]
theorem ja:qgd (lst f l)=some (.int .i64 l.length):=by simp [lst,qgd]
theorem qef {i j:Int}{l2:List α}(hs:sl l i j=some l2) : 0≤i∧i≤j∧j≤l.length∧l2=(l.take j.toNat).drop i.toNat:=by
 unfold sl at hs
 split at hs
 ·rename_i hc
  cases hs
  exact ⟨hc.1,hc.2.1,hc.2.2,rfl⟩
 ·cases hs
theorem iteT {β:Type}{t:Bool}{x y:β}(h:t=true) : (if t=true then x else y)=x:=if_pos h
theorem iteF {β:Type}{t:Bool}{x y:β}(h:t=false) : (if t=true then x else y)=y:=if_neg (by rw [h]; exact Bool.false_ne_true)
theorem qg {β:Type}{x y:β}(h:some x=some y) : x=y:=Option.some.inj h

theorem kh {g:Nat}{caps args as':List XV}{u:XV}(hm:E.mode g=1)(hs:args.mapM (snap h E.sz 9)=some as')(hc:Ret E (fun b=>decide (h.length≤b)) g (as'++caps) h (fun v h'=>cut h.length h' E.sz false 9 v=some u))
  (hR:Run E W (.ops r::k) Q (fr.put d u) h) : CallK E W (.fn g caps) args d r k Q fr h :=
 zbn (R:=fun x=>x=u) hm hs (hc.mono fun v h' e=>⟨u,e,rfl⟩) (fun x e=>by rw [e]; exact hR)
theorem qdd {g:Nat}{caps args as':List XV}{u:XV}{hs:Nat}{ld wr:List Nat}(hm:E.mode g=1)(hs':args.mapM (snap h E.sz 9)=some as')(hc:Ret E (fun b=>decide (h.length≤b)) g (as'++caps) h (fun v h'=>cut h.length h' E.sz false 9 v=some u))
  (hR:Run E W (.draw hs r ld wr::k) Q (fr.put d u) h) : CallD E W (.fn g caps) args d hs r ld wr k Q fr h :=
 za9 (R:=fun x=>x=u) hm hs' (hc.mono fun v h' e=>⟨u,e,rfl⟩) (fun x e=>by rw [e]; exact hR)
theorem zdc {g:Nat}{caps args as':List XV}{u:XV}{hs:Nat}{ld wr:List Nat}(hm:E.mode g=1)(hs':args.mapM (snap h E.sz 9)=some as')(hc:Ret E (fun b=>decide (h.length≤b)) g (as'++caps) h (fun v h'=>cut h.length h' E.sz false 9 v=some u))
  (hR:Run E W (.draw hs r ld wr::k) Q (fr.put d u) h) : CallQ E W (.fn g caps) args (qjp E (.fn g caps) args) d hs r ld wr k Q fr h :=
 zbl (R:=fun x=>x=u) hm hs' (hc.mono fun v h' e=>⟨u,e,rfl⟩) (fun x e=>by rw [e]; exact hR)
theorem qrt (n:Nat){xs:List XOper}{hs:Nat}{ld wr:List Nat}(J:Fr→Heap→Prop)(hcl:(xs.take n).all (fun o=>decide (o.cls=4))=true)(h1:Run E W [.draw hs (xs.take n) ld wr] (JQ E W J (.draw hs (xs.drop n) ld wr::k) Q) fr h)(h2:∀ fr h,J fr h→Run E W (.draw hs (xs.drop n) ld wr::k) Q fr h) : Run E W (.draw hs xs ld wr::k) Q fr h:=by
 have key:∀ (n:Nat) {xs:List XOper} {fr:Fr} {h:Heap},(xs.take n).all (fun o=>decide (o.cls=4))=true→Run E W (.draw hs (xs.take n) ld wr :: .draw hs (xs.drop n) ld wr::k) Q fr h→Run E W (.draw hs xs ld wr::k) Q fr h:=by
  intro n
  induction n with
  | zero=>intro xs fr h _ H; exact H
  | succ n ih =>
   intro xs fr h hcl H
   cases xs with
   | nil=>exact H
   | cons o r =>
    simp only [r8,s5] at H hcl
    obtain ⟨d,op,g,cl⟩:=o
    simp only [List.all_cons,Bool.and_eq_true,decide_eq_true_eq] at hcl
    obtain ⟨h4,hcl⟩:=hcl
    subst h4
    have go:∀ {fr:Fr} {h:Heap},OpD E W hs op 4 ld wr (XO.ev fr) h (fun ld' wr' v h'=>WD E W hs (r.take n) ld' wr' (fun fr h=>yq E W (.draw hs (r.drop n) ld wr::k) Q .normal fr h) (fr.put d v) h')→OpD E W hs op 4 ld wr (XO.ev fr) h (fun ld' wr' v h'=>WD E W hs r ld' wr' (fun fr h=>yq E W k Q .normal fr h) (fr.put d v) h'):=by
     intro fr h H
     unfold OpD at H ⊢
     rw [if_neg (by decide),if_pos rfl] at H ⊢
     split at H
     ·exact ih hcl H
     ·cases H
    cases g with
    | none=>exact go H
    | some gw =>
     obtain ⟨g,want⟩:=gw
     show WD E W hs (⟨d,op,some (g,want),4⟩::r) ld wr _ fr h
     have H:WD E W hs (⟨d,op,some (g,want),4⟩::r.take n) ld wr _ fr h:=H
     simp only [WD] at H ⊢
     split at H
     ·split at H
      ·rename_i hbw
       rw [if_pos hbw]
       exact go H
      ·rename_i hbw
       rw [if_neg hbw]
       exact ih hcl H
     ·exact ih hcl H
     ·cases H
 exact key n hcl (joint (k1:=[.draw hs (xs.take n) ld wr]) J h1 h2)

theorem za3 {n0 m:Nat}{keep:Bool}{cs us:List XV}(e:cs.mapM (cut n0 h sz keep m)=some us) : cut n0 h sz keep (m+1) (.agg cs)=some (.agg us):=by simp only [cut,e]
theorem qgz {kk:IntKind}{m n:Int}(h:n≠0) : wj .rem (.int kk m) (.int kk n)=some (.int kk (m.tmod n)):=by simp [wj,h]
theorem uo {kk k2:IntKind}{m n:Int}(h:0≤n) : wj .shr (.int kk m) (.int k2 n)=some (.int kk (ji kk m n)):=by
 have:¬ n<0:=by omega
 simp [wj,this,ji]
theorem zan {kk k2:IntKind}{m n:Int}(h:0≤n) : wj .shl (.int kk m) (.int k2 n)=some (.int kk (qh6 kk m n)):=by
 have:¬ n<0:=by omega
 simp [wj,this,qh6]
theorem qf8 {kk:IntKind}{m n:Int} : wj .and (.int kk m) (.int kk n)=some (.int kk (zw kk m n)):=by simp [wj,zw]
theorem qjg {kk k2:IntKind}{m:Int} : qrd kk (.int k2 m)=some (.int kk (kk.wrap m)):=(rfl)
theorem qe0 {a b:Bool} : qqt true (.bool a) (.bool b)=some (.bool (!(a == b))):=(rfl)
theorem zd7 {kk:IntKind}{a b:Int} : qhc false [.int kk a,.int kk b]=some (.int kk (if b<a then b else a)):=by simp [qhc,qet]
theorem zey {kk:IntKind}{a b:Int} : qhc true [.int kk a,.int kk b]=some (.int kk (if b > a then b else a)):=by simp [qhc,qet]
theorem qe7 {a:XV}{l:List XV} : qi0 0 (.tup (a::l))=some a:=(rfl)
theorem qey {a b:XV}{l:List XV} : qi0 1 (.tup (a::b::l))=some b:=(rfl)
theorem qn9 {a b c:XV}{l:List XV} : qi0 2 (.tup (a::b::c::l))=some c:=(rfl)
theorem zt {b o:Nat} : qq2 (.ptr b o)=some (.ptr b o):=(rfl)
theorem jb {cs:List XV}{o:Nat}(hb:zy h b=some ⟨cs,ty,true⟩) : xld h none (.ptr b o)=cs[o]? := zdf hb o
theorem zq {cs:List XV}{o m:Nat}(hb:zy h b=some ⟨cs,ty,true⟩) : xld h (some m) (.ptr b o)=if o+m≤cs.length then some (.agg ((cs.drop o).take m)) else none:=by
 show (kn h b o m).map XV.agg=_
 rw [qfe hb]
 split <;> rfl
end
end Go.Proofs.Ytanblnjomhgphaa.X
namespace Go.Proofs.Ytanblnjomhgphaa.X
open Go
section
variable {E:Env}{W:Nat→Bool}{k:List It}{Q:QE}{fr:Fr}{h:Heap}{a b c:XCode}{σ ρ α:Type}

theorem xh {t:Bool}(J:Fr→Heap→Prop)
  (hb:∀ Q':QE,(∀ fr h,J fr h→Q' .normal fr h)→(∀ fr h,Q .ret fr h→Q' .ret fr h)→(∀ j fr h,Out E W j k Q fr h→Q' (.exit j) fr h)→(t=true→Run E W [.code a] Q' fr h)∧(t=false→Run E W [.code b] Q' fr h))
  (h2:∀ fr h,J fr h→Run E W k Q fr h) : CondK E W (.bool t) a b k Q fr h:=by
 obtain ⟨x1,x0⟩:=hb (JQ E W J k Q) (fun _ _ hj=>hj) (fun fr h hr=>by show yq E W k Q .ret fr h; rw [qbh]; exact hr) (fun j fr h hj=>hj)
 exact qrs J x1 x0 h2
theorem ki (n:Nat){xs:List XOper}(J:Fr→Heap→Prop)
  (hb:∀ Q':QE,(∀ fr h,J fr h→Q' .normal fr h)→Run E W [.ops (xs.take n)] Q' fr h)
  (h2:∀ fr h,J fr h→Run E W (.ops (xs.drop n)::k) Q fr h) : Run E W (.ops xs::k) Q fr h :=
 qtf n J (hb _ (fun _ _ hj=>hj)) h2
theorem qaj (n:Nat){xs:List XOper}{hs:Nat}{ld wr:List Nat}(J:Fr→Heap→Prop)(hcl:(xs.take n).all (fun o=>decide (o.cls=4))=true)
  (hb:∀ Q':QE,(∀ fr h,J fr h→Q' .normal fr h)→Run E W [.draw hs (xs.take n) ld wr] Q' fr h)
  (h2:∀ fr h,J fr h→Run E W (.draw hs (xs.drop n) ld wr::k) Q fr h) : Run E W (.draw hs xs ld wr::k) Q fr h :=
 qrt n J hcl (hb _ (fun _ _ hj=>hj)) h2

theorem wg {A:Nat}{keep:List Nat}(Bd:σ→Option (Oc σ ρ))(J:σ→Fr→Heap→Prop){n:Nat}{s0:σ}{o:Oc σ ρ}(hF:kr Bd n s0=some o)(hJ0:J s0 fr h)
  (hkeep:∀ s fr h,J s fr h→J s (kj keep fr) h)
  (hbody:∀ s fr' h',J s fr' h'→∀ o1,Bd s=some o1→(∀ q,o1 = .ret q→o = .ret q)→∀ Q':QE,
   (∀ s' fr2 h2,o1 = .nxt s'→J s' fr2 h2→Q' .normal fr2 h2)→(∀ s' fr2 h2,o1 = .brk s'→J s' fr2 h2→Q' (.exit A) fr2 h2)→(∀ fr2 h2,Q .ret fr2 h2→Q' .ret fr2 h2)→(∀ j fr2 h2,j≠A→Out E W j k Q fr2 h2→Q' (.exit j) fr2 h2) →
   Run E W [.code c] Q' fr' h')
  (hnext:∀ s fr' h',o = .nxt s→J s fr' h'→Run E W k Q fr' h') :
  Run E W (.code (.block A (.loop keep c))::k) Q fr h:=by
 refine qtd Bd J hF hJ0 hkeep (fun s fr' h' hJ o1 ho1 hr=>?_) hnext
 refine hbody s fr' h' hJ o1 ho1 hr _ ?_ ?_ ?_ ?_
 ·intro s' fr2 h2 e hj; exact ⟨s',e,hj⟩
 ·intro s' fr2 h2 e hj; dsimp only; rw [if_pos rfl]; exact ⟨s',e,hj⟩
 ·intro fr2 h2 hq; dsimp only; rw [qbh]; exact hq
 ·intro j fr2 h2 hj hq; dsimp only; rw [if_neg hj]; exact hq

theorem qdf {A B idx cnt tc ta c1 c2 c3:Nat}{keep:List Nat}(Bd:Nat→σ→Option (Oc σ ρ))(J:σ→Fr→Heap→Prop){m:Int}{s0:σ}{o:Oc σ ρ}
  (hF:wn Bd m s0=some o) (hJ0:J s0 fr h) (hi0:fr idx = .int .i64 0) (hn0:fr cnt = .int .i64 m)
  (hkeep:∀ s fr h,J s fr h→J s (kj keep fr) h) (hki:keep.contains idx=true) (hkn:keep.contains cnt=true)
  (hpc:∀ s fr h v,J s fr h→J s (fr.put (some tc) v) h) (hpa:∀ s fr h v,J s fr h→J s (fr.put (some ta) v) h) (hpi:∀ s fr h v,J s fr h→J s (fr.put (some idx) v) h)
  (hne:tc≠idx∧tc≠cnt∧ta≠idx∧ta≠cnt∧idx≠cnt∧A≠B)
  (hbody:∀ (i:Nat) (s:σ) fr' h',(i:Int)<m→J s fr' h'→fr' idx = .int .i64 i→fr' cnt = .int .i64 m→∀ o1,Bd i s=some o1→(∀ q,o1 = .ret q→o = .ret q)→∀ Q':QE,
   (∀ s' fr2 h2,o1 = .nxt s'→J s' fr2 h2→fr2 idx = .int .i64 i→fr2 cnt = .int .i64 m→Q' .normal fr2 h2)→(∀ s' fr2 h2,o1 = .nxt s'→J s' fr2 h2→fr2 idx = .int .i64 i→fr2 cnt = .int .i64 m→Q' (.exit B) fr2 h2)→(∀ s' fr2 h2,o1 = .brk s'→J s' fr2 h2→Q' (.exit A) fr2 h2)→(∀ fr2 h2,Q .ret fr2 h2→Q' .ret fr2 h2)→(∀ j fr2 h2,j≠A→j≠B→Out E W j k Q fr2 h2→Q' (.exit j) fr2 h2) →
   Run E W [.code c] Q' fr' h')
  (hnext:∀ s fr' h',o = .nxt s→J s fr' h'→Run E W k Q fr' h') :
  Run E W (.code (.block A (.loop keep (.seq (.reg false [⟨some tc,.bin .lss (.t idx) (.t cnt),none,c1⟩]) (.seq (.cond (.t tc) .skip (.exit A)) (.seq (.block B c) (.reg false [⟨some ta,.bin .add (.t idx) (.c (.int .i64 1)),none,c2⟩,⟨some idx,.mv (.t ta),none,c3⟩]))))))::k) Q fr h:=by
 refine ql5 Bd J hF hJ0 hi0 hn0 hkeep hki hkn hpc hpa hpi hne (fun i s fr' h' hlt hJ e1 e2 o1 ho1 hr=>?_) hnext
 have hAB:=hne.2.2.2.2.2
 refine hbody i s fr' h' hlt hJ e1 e2 o1 ho1 hr _ ?_ ?_ ?_ ?_ ?_
 ·intro s' fr2 h2 e hj x1 x2
  exact ⟨s',e,hj,x1,x2⟩
 ·intro s' fr2 h2 e hj x1 x2
  show (if B=B then _ else _)
  rw [if_pos rfl]
  exact ⟨s',e,hj,x1,x2⟩
 ·intro s' fr2 h2 e hj
  show (if A=B then _ else _)
  rw [if_neg hAB,if_pos rfl]
  exact ⟨s',e,hj⟩
 ·intro fr2 h2 hq
  show yq E W k Q .ret fr2 h2
  rw [qbh]
  exact hq
 ·intro j fr2 h2 hA hB hq
  show (if j=B then _ else _)
  rw [if_neg hB,if_neg hA]
  exact hq

theorem qao {A B idx cnt tc ta c1 c2 c3:Nat}{keep:List Nat}(L:List α)(Bd:Nat→α→σ→Option (Oc σ ρ))(J:σ→Fr→Heap→Prop){s0:σ}{o:Oc σ ρ}
  (hF:yd Bd L s0=some o) (hJ0:J s0 fr h) (hi0:fr idx = .int .i64 0) (hn0:fr cnt = .int .i64 (L.length:Int))
  (hkeep:∀ s fr h,J s fr h→J s (kj keep fr) h) (hki:keep.contains idx=true) (hkn:keep.contains cnt=true)
  (hpc:∀ s fr h v,J s fr h→J s (fr.put (some tc) v) h) (hpa:∀ s fr h v,J s fr h→J s (fr.put (some ta) v) h) (hpi:∀ s fr h v,J s fr h→J s (fr.put (some idx) v) h)
  (hne:tc≠idx∧tc≠cnt∧ta≠idx∧ta≠cnt∧idx≠cnt∧A≠B)
  (hbody:∀ (i:Nat) (x:α) (s:σ) fr' h',L[i]? = some x→J s fr' h'→fr' idx = .int .i64 i→fr' cnt = .int .i64 (L.length:Int)→∀ o1,Bd i x s=some o1→(∀ q,o1 = .ret q→o = .ret q)→∀ Q':QE,
   (∀ s' fr2 h2,o1 = .nxt s'→J s' fr2 h2→fr2 idx = .int .i64 i→fr2 cnt = .int .i64 (L.length:Int)→Q' .normal fr2 h2)→(∀ s' fr2 h2,o1 = .nxt s'→J s' fr2 h2→fr2 idx = .int .i64 i→fr2 cnt = .int .i64 (L.length:Int)→Q' (.exit B) fr2 h2)→(∀ s' fr2 h2,o1 = .brk s'→J s' fr2 h2→Q' (.exit A) fr2 h2)→(∀ fr2 h2,Q .ret fr2 h2→Q' .ret fr2 h2)→(∀ j fr2 h2,j≠A→j≠B→Out E W j k Q fr2 h2→Q' (.exit j) fr2 h2) →
   Run E W [.code c] Q' fr' h')
  (hnext:∀ s fr' h',o = .nxt s→J s fr' h'→Run E W k Q fr' h') :
  Run E W (.code (.block A (.loop keep (.seq (.reg false [⟨some tc,.bin .lss (.t idx) (.t cnt),none,c1⟩]) (.seq (.cond (.t tc) .skip (.exit A)) (.seq (.block B c) (.reg false [⟨some ta,.bin .add (.t idx) (.c (.int .i64 1)),none,c2⟩,⟨some idx,.mv (.t ta),none,c3⟩]))))))::k) Q fr h:=by
 refine qra L Bd J hF hJ0 hi0 hn0 hkeep hki hkn hpc hpa hpi hne (fun i x s fr' h' hx hJ e1 e2 o1 ho1 hr=>?_) hnext
 have hAB:=hne.2.2.2.2.2
 refine hbody i x s fr' h' hx hJ e1 e2 o1 ho1 hr _ ?_ ?_ ?_ ?_ ?_
 ·intro s' fr2 h2 e hj x1 x2
  exact ⟨s',e,hj,x1,x2⟩
 ·intro s' fr2 h2 e hj x1 x2
  show (if B=B then _ else _)
  rw [if_pos rfl]
  exact ⟨s',e,hj,x1,x2⟩
 ·intro s' fr2 h2 e hj
  show (if A=B then _ else _)
  rw [if_neg hAB,if_pos rfl]
  exact ⟨s',e,hj⟩
 ·intro fr2 h2 hq
  show yq E W k Q .ret fr2 h2
  rw [qbh]
  exact hq
 ·intro j fr2 h2 hA hB hq
  show (if j=B then _ else _)
  rw [if_neg hB,if_neg hA]
  exact hq

theorem qew {a b:Bool}(h:a=true) : (a&&b)=b:=by rw [h]; rfl
theorem qeu {a b:Bool}(h:a=false) : (a&&b)=false:=by rw [h]; rfl
theorem orT {a b:Bool}(h:a=true) : (a||b)=true:=by rw [h]; rfl
theorem orF {a b:Bool}(h:a=false) : (a||b)=b:=by rw [h]; rfl
def mnI (a b:Int) : Int:=if b<a then b else a
def mxI (a b:Int) : Int:=if b > a then b else a
theorem ym {n:Option Nat}{a bb oo:Nat}{P:XV→Heap→Prop}{v:XV}(h1:fr a = .ptr bb oo)(h2:xld h n (.ptr bb oo)=some v)(H:P v h) : EndW [.cell a n] P .ret fr h:=by
 rw [qz2,h1]
 dsimp only
 rw [h2]
 exact H
variable {r:List XOper}{d:Option Nat}{lo:Nat→Prop}{S:List Obj}{bk:Nat}{ty esz bytes:Nat}{f:α→List XV}{l:List α}
theorem q0t {n:Int}{z:α}(hS:Sep h lo S)(hl:mkN bytes n z=some l)(hz:(f z).length=esz)
  (H:∀ b h',Sep h' lo (RowO b ty f l::S)→Run E W (.ops r::k) Q (fr.put d (.row b 0 l.length l.length)) h') : Put2 E W (qkw W h ty esz bytes (f z) (.int .i64 n) (.int .i64 n)) d r k Q fr:=by
 unfold mkN at hl
 split at hl
 ·rename_i hc
  cases hl
  refine q0e hS hc.1 hc.2 hz (fun b h' hS'=>?_)
  have:=H b h' (by unfold RowO; rw [List.map_replicate]; exact hS')
  rw [List.length_replicate] at this
  exact this
 ·cases hl
theorem qj2 {n:Option Nat}{cs:List XV}{o:Nat}{hs:Nat}{ld wr:List Nat} : LdD E W n (.ref cs o) d hs r ld wr k Q fr h=Put1D E W (xld h n (.ref cs o)) d hs r ld wr k Q fr h:=(rfl)
variable {p0 p1 p2 p3 p4 p5 p6 p7 p8:Obj}
variable {cs:List XV}
end
end Go.Proofs.Ytanblnjomhgphaa.X
