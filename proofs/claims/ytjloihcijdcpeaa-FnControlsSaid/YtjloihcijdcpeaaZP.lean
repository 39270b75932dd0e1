/- A machine of this claim's own, sound for the model's, and plain theory over it: no condition (1). -/
import Derived.Test.YtjloihcijdcpeaaZHeap
import Derived.IntWalk
set_option linter.unusedVariables false
set_option linter.unusedSimpArgs false
namespace Go.Proofs.Ytjloihcijdcpeaa.X
open Go

def cI (n:Int) : List XV:=[.int .i64 n]
def cU8 (n:Int) : List XV:=[.int .u8 n]
def cB (b:Bool) : List XV:=[.bool b]
def cS (s:ByteArray) : List XV:=[.str s]
def lst {α:Type}(f:α→List XV)(l:List α) : XV := .list (l.map f)
def cL {α:Type}(f:α→List XV)(l:List α) : List XV:=[lst f l]

def z9 {α:Type}(l:List α)(i:Int) : Option α:=if 0≤i then l[i.toNat]? else none
def ck {β:Type}(p:Prop)[Decidable p](x:Option β) : Option β:=if p then x else none
def j9 {α:Type}(b:Nat)(a x:List α) : Option (List α):=if (a.length+x.length)*b≤70368744177664 then some (a++x) else none
def qkq (k:IntKind)(a b:Int) : Int:=k.wrap (BitVec.ofInt k.bits a &&& BitVec.ofInt k.bits b).toNat
def qod (k:IntKind)(a b:Int) : Int:=a.fdiv (2 ^ (min b.toNat k.bits))

inductive Oc (σ ρ:Type) where
 | nxt (s:σ)
 | brk (s:σ)
 | ret (r:ρ)

def jnO {σ ρ:Type}(o:Oc σ ρ)(k:σ→Option ρ) : Option ρ :=
 match o with
 | .nxt s=>k s
 | .brk s=>k s
 | .ret r=>some r
def jn {σ ρ:Type}(x:Option (Oc σ ρ))(k:σ→Option ρ) : Option ρ:=x.bind fun o=>jnO o k
theorem jd {σ ρ:Type}{x:Option (Oc σ ρ)}{k:σ→Option ρ}{r:ρ}(h:jn x k=some r) : ∃ o,x=some o∧jnO o k=some r:=by
 unfold jn at h
 cases x with
 | none=>cases h
 | some o=>exact ⟨o,rfl,h⟩
theorem qm {α β:Type}{x:Option α}{k:α→Option β}{r:β}(h:x.bind k=some r) : ∃ a,x=some a∧k a=some r:=by
 cases x with
 | none=>cases h
 | some a=>exact ⟨a,rfl,h⟩
theorem qny {β:Type}{p:Prop}[Decidable p]{x:Option β}{r:β}(h:ck p x=some r) : p∧x=some r:=by
 unfold ck at h
 split at h
 ·exact ⟨by assumption,h⟩
 ·cases h
theorem q7n {β:Type}{p:Prop}[Decidable p]{x:Option β}(h:p) : ck p x=x:=if_pos h

def ws {α σ ρ:Type}(B:Nat→α→σ→Option (Oc σ ρ)) : List α→Nat→σ→Option (Oc σ ρ)
 | [],_,s=>some (.nxt s)
 | x::r,i,s=>match B i x s with
  | some (.nxt s')=>ws B r (i+1) s'
  | some (.brk s')=>some (.nxt s')
  | some (.ret q)=>some (.ret q)
  | none=>none
def jh {α σ ρ:Type}(B:Nat→α→σ→Option (Oc σ ρ))(l:List α)(s:σ) : Option (Oc σ ρ):=if l.length≤4611686018427387904 then ws B l 0 s else none
def qbs {σ ρ:Type}(B:Nat→σ→Option (Oc σ ρ)) : Nat→Nat→σ→Option (Oc σ ρ)
 | 0,_,s=>some (.nxt s)
 | n+1,i,s=>match B i s with
  | some (.nxt s')=>qbs B n (i+1) s'
  | some (.brk s')=>some (.nxt s')
  | some (.ret q)=>some (.ret q)
  | none=>none
def kj {σ ρ:Type}(B:Nat→σ→Option (Oc σ ρ))(n:Int)(s:σ) : Option (Oc σ ρ):=if n≤4611686018427387904 then qbs B n.toNat 0 s else none
def wv {σ ρ:Type}(B:σ→Option (Oc σ ρ)) : Nat→σ→Option (Oc σ ρ)
 | 0,_=>none
 | n+1,s=>match B s with
  | some (.nxt s')=>wv B n s'
  | some (.brk s')=>some (.nxt s')
  | some (.ret q)=>some (.ret q)
  | none=>none

structure Obj where
 fp:List Nat
 ok:Heap→Prop
 loc:∀ h h':Heap,(∀ b∈fp,h'[b]? = h[b]?)→ok h→ok h'

def Blk1 (b:Nat)(cs:List XV)(ty:TypeId) : Obj:=⟨[b],fun h=>h[b]? = some ⟨cs,ty,true⟩,fun h h' e H=>by rw [e b (by simp)]; exact H⟩

abbrev geL (n:Nat) : Nat→Prop:=fun b=>n≤b
structure Sep (h:Heap) (lo:Nat→Prop) (S:List Obj) : Prop where
 base:∀ b,h.length≤b→lo b
 nodup:(S.flatMap Obj.fp).Nodup
 ran:∀ b∈S.flatMap Obj.fp,lo b∧b<h.length
 ok:∀ o∈S,o.ok h

section
variable {h:Heap}{lo:Nat→Prop}{S:List Obj}{o o1 o2 o3 o4 o5:Obj}{b:Nat}{cs vs:List XV}{ty:TypeId}

theorem Sep.nil (h:Heap) : Sep h (geL h.length) []:=⟨fun _ h=>h,by simp,fun b hb=>by simp at hb,fun o ho=>by simp at ho⟩
theorem Sep.drop (H:Sep h lo (o::S)) : Sep h lo S:=by
 refine ⟨H.base,?_,fun b hb=>H.ran b (by simp [hb]),fun x hx=>H.ok x (by simp [hx])⟩
 have:=H.nodup
 rw [List.flatMap_cons,List.nodup_append] at this
 exact this.2.1
theorem Sep.perm {S':List Obj}(H:Sep h lo S)(p:S.Perm S') : Sep h lo S':=by
 have q:=p.flatMap_right Obj.fp
 exact ⟨H.base,q.nodup_iff.1 H.nodup,fun b hb=>H.ran b (q.mem_iff.2 hb),fun x hx=>H.ok x (p.mem_iff.2 hx)⟩
theorem qvo {k:Blk}(hk:h[b]? = some k)(hl:k.live=true) : z6 h b=some k:=by
 unfold z6
 rw [hk]
 simp [hl]
theorem Sep.blk0 (H:Sep h lo (Blk1 b cs ty::S)) : z6 h b=some ⟨cs,ty,true⟩:=qvo (H.ok (Blk1 b cs ty) (by simp)) rfl
theorem Sep.ge (H:Sep h lo (Blk1 b cs ty::S)) : lo b:=(H.ran b (by simp [Blk1])).1
theorem Sep.lt (H:Sep h lo (Blk1 b cs ty::S)) : b<h.length:=(H.ran b (by simp [Blk1])).2

theorem Sep.keep {h':Heap}(H:Sep h lo S)(hl:h.length≤h'.length)(he:∀ b∈S.flatMap Obj.fp,h'[b]? = h[b]?) : Sep h' lo S:=by
 refine ⟨fun b hb=>H.base b (Nat.le_trans hl hb),H.nodup,fun b hb=>?_,fun x hx=>x.loc h h' (fun b hb=>he b (List.mem_flatMap.2 ⟨x,hx,hb⟩)) (H.ok x hx)⟩
 have:=H.ran b hb
 exact ⟨this.1,by omega⟩
theorem Sep.new (H:Sep h lo S)(cs:List XV)(ty:TypeId) : Sep (h++[⟨cs,ty,true⟩]) lo (Blk1 h.length cs ty::S):=by
 have K:Sep (h++[⟨cs,ty,true⟩]) lo S:=H.keep (by simp) (fun b hb=>by rw [List.getElem?_append_left (H.ran b hb).2])
 refine ⟨K.base,?_,fun b hb=>?_,fun x hx=>?_⟩
 ·rw [List.flatMap_cons,List.nodup_append]
  refine ⟨by simp [Blk1],H.nodup,fun a ha b hb=>?_⟩
  simp only [Blk1,List.mem_singleton] at ha
  subst ha
  have:=(H.ran b hb).2
  omega
 ·rw [List.flatMap_cons,List.mem_append] at hb
  rcases hb with hb | hb
  ·simp only [Blk1,List.mem_singleton] at hb
   subst hb
   exact ⟨H.base _ (Nat.le_refl _),by simp⟩
  ·exact K.ran b hb
 ·rcases List.mem_cons.1 hx with rfl | hx
  ·simp [Blk1]
  ·exact K.ok x hx
theorem Sep.set (H:Sep h lo (Blk1 b cs ty::S))(cs':List XV) : Sep (h.set b ⟨cs',ty,true⟩) lo (Blk1 b cs' ty::S):=by
 have hb:=H.lt
 have hno:b ∉ S.flatMap Obj.fp:=by
  have:=H.nodup
  rw [List.flatMap_cons,List.nodup_append] at this
  intro hb
  exact this.2.2 b (by simp [Blk1]) b hb rfl
 have K:Sep (h.set b ⟨cs',ty,true⟩) lo S:=H.drop.keep (by simp) (fun x hx=>by rw [List.getElem?_set_ne]; rintro rfl; exact hno hx)
 refine ⟨K.base,H.nodup,fun x hx=>?_,fun x hx=>?_⟩
 ·have:=H.ran x hx
  simpa using this
 ·rcases List.mem_cons.1 hx with rfl | hx
  ·simp [Blk1,hb]
  ·exact K.ok x hx
theorem Sep.kill (H:Sep h lo (Blk1 b cs ty::S)) : Sep (X.kill h b) lo S:=by
 have hno:b ∉ S.flatMap Obj.fp:=by
  have:=H.nodup
  rw [List.flatMap_cons,List.nodup_append] at this
  intro hb
  exact this.2.2 b (by simp [Blk1]) b hb rfl
 exact H.drop.keep (by rw [kf]; exact Nat.le_refl _) (fun x hx=>by rw [qbi,if_neg]; rintro rfl; exact hno hx)

theorem q60 (hb:z6 h b=some ⟨cs,ty,true⟩)(o:Nat) : qae h b o=cs[o]? := by simp [qae,hb]
theorem qg9 (hb:z6 h b=some ⟨cs,ty,true⟩)(o n:Nat) : j5 h b o n=if o+n≤cs.length then some ((cs.drop o).take n) else none:=by simp [j5,hb]
theorem qok {W:Nat→Bool}{o:Nat}(hw:W b=true)(hb:z6 h b=some ⟨cs,ty,true⟩)(hl:o+vs.length≤cs.length)(h1:vs.all XV.one=true) : setCells W h b o vs=some (h.set b ⟨ka cs o vs,ty,true⟩):=by
 simp [setCells,hb,hw,hl]
 simpa using h1
end

section
variable {E:Env}{W:Nat→Bool}{k:List It}{Q:QE}{fr:Fr}{h:Heap}{lo:Nat→Prop}{S:List Obj}{d:Option Nat}{r:List XOper}{b:Nat}{cs:List XV}{ty:TypeId}

theorem qi {o:Option XV}{v:XV}(e:o=some v)(H:Run E W (.ops r::k) Q (fr.put d v) h) : Put1 E W o d r k Q fr h:=by
 rw [e]; exact H
theorem zd {o:Option XV}{v:XV}{hs:Nat}{ld wr:List Nat}(e:o=some v)(H:Run E W (.draw hs r ld wr::k) Q (fr.put d v) h) : Put1D E W o d hs r ld wr k Q fr h:=by
 rw [e]; exact H
theorem qwp {z:List XV}(hS:Sep h lo S)(H:∀ b h',Sep h' lo (Blk1 b z ty::S)→Run E W (.ops r::k) Q (fr.put d (.ptr b 0)) h') : Put2 E W (ql6 W h ty z) d r k Q fr :=
 H h.length _ (hS.new z ty)
theorem qwb {n:Nat}{v:XV}{cs:List XV}(hS:Sep h lo S)(e:v.cells=cs)(h1:cs.length=n)(h2:cs.all XV.one=true)(H:∀ b h',Sep h' lo (Blk1 b cs ty::S)→Run E W (.ops r::k) Q (fr.put d (.ptr b 0)) h') : Put2 E W (qoe W h ty n v) d r k Q fr:=by
 subst e
 rw [qth h1 h2]
 exact H h.length _ (hS.new _ ty)
theorem qkl {n o:Nat}{v:XV}{cs':List XV}(hS:Sep h lo (Blk1 b cs ty::S))(hw:W b=true)(h1:v.cells.length=n)(h2:v.cells.all XV.one=true)(h3:o+n≤cs.length)(e:ka cs o v.cells=cs')
  (H:∀ h',Sep h' lo (Blk1 b cs' ty::S)→Run E W (.ops r::k) Q (fr.put d .undef) h') : Put2 E W (pst W h n (.ptr b o) v) d r k Q fr:=by
 rw [q45,if_pos h1,qok hw hS.blk0 (by rw [h1]; exact h3) h2]
 subst e
 exact H _ (hS.set _)
theorem qja {len:Nat}{z:List XV}{ps:List (Nat × Nat × XV)}{cs:List XV}(hS:Sep h lo S)(e:fill z ps=some cs)(H:∀ b h',Sep h' lo (Blk1 b cs ty::S)→Run E W (.ops r::k) Q (fr.put d (.row b 0 len len)) h') : Put2 E W (xk h ty len z ps) d r k Q fr:=by
 have e2:xk h ty len z ps=some (.row h.length 0 len len,h++[⟨cs,ty,true⟩]):=by simp [xk,e]
 rw [e2]
 exact H h.length _ (hS.new _ ty)
theorem qwq {t:Nat}{ts:List Nat}(hf:fr t = .ptr b 0)(hS:Sep h lo (Blk1 b cs ty::S))(hw:W b=true)(H:∀ h',Sep h' lo S→Run E W (.code (.frz ts)::k) Q (fr.put (some t) (.ref cs 0)) h') : Run E W (.code (.frz (t::ts))::k) Q fr h :=
 q5n hf hS.blk0 hw (H _ hS.kill)
end

section
variable {E:Env}{W:Nat→Bool}{k:List It}{Q:QE}{fr:Fr}{h:Heap}{a b c:XCode}

theorem q5c:∀ (k1 k:List It) {Q:QE} {fr:Fr} {h:Heap},Run E W k1 (fun e fr h=>kw E W k Q e fr h) fr h=Run E W (k1++k) Q fr h:=by
 have key:∀ (k1 k:List It) {Q:QE},kw E W k1 (kw E W k Q)=kw E W (k1++k) Q:=by
  intro k1
  induction k1 with
  | nil=>intro k Q; rfl
  | cons i k1 ih =>
   intro k Q
   cases i <;> (simp only [List.cons_append,kw]; rw [ih k])
 intro k1 k Q fr h
 unfold Run
 rw [key]
theorem Run.mono {k1:List It}{Q Q':QE}(hQ:∀ e fr h,Q e fr h→Q' e fr h){fr:Fr}{h:Heap}(H:Run E W k1 Q fr h) : Run E W k1 Q' fr h:=by
 have key:∀ (k1:List It) {e:XE} {fr:Fr} {h:Heap},kw E W k1 Q e fr h→kw E W k1 Q' e fr h:=by
  intro k1
  induction k1 with
  | nil=>intro e fr h H; exact hQ _ _ _ H
  | cons i k1 ih =>
   intro e fr h H
   cases i with
   | code c =>
    cases e with
    | normal=>exact WC.mono c (fun e fr h=>ih) H
    | ret=>exact ih H
    | exit id=>exact ih H
   | ops xs =>
    cases e with
    | normal=>exact WO.mono (fun fr h=>ih) H
    | ret=>exact ih H
    | exit id=>exact ih H
   | draw hs xs ld wr =>
    cases e with
    | normal=>exact WD.mono (fun fr h=>ih) H
    | ret=>exact ih H
    | exit id=>exact ih H
   | blk id =>
    cases e with
    | normal=>exact ih H
    | ret=>exact ih H
    | exit i =>
     simp only [kw] at H ⊢
     split at H
     ·rename_i hi; rw [if_pos hi]; exact ih H
     ·rename_i hi; rw [if_neg hi]; exact ih H
 exact key k1 H

def JQ (E:Env)(W:Nat→Bool)(J:Fr→Heap→Prop)(k:List It)(Q:QE) : QE:=fun e fr h=>match e with
 | .normal=>J fr h
 | e=>kw E W k Q e fr h
theorem joint {k1 k:List It}(J:Fr→Heap→Prop)(h1:Run E W k1 (JQ E W J k Q) fr h)(h2:∀ fr h,J fr h→Run E W k Q fr h) : Run E W (k1++k) Q fr h:=by
 rw [←q5c]
 refine Run.mono (fun e fr h H=>?_) h1
 cases e with
 | normal=>exact h2 _ _ H
 | ret=>exact H
 | exit id=>exact H
theorem qoo {t:Bool}(J:Fr→Heap→Prop)(h1:t=true→Run E W [.code a] (JQ E W J k Q) fr h)(h0:t=false→Run E W [.code b] (JQ E W J k Q) fr h)(h2:∀ fr h,J fr h→Run E W k Q fr h) : CondK E W (.bool t) a b k Q fr h :=
 qw (fun e=>joint (k1:=[.code a]) J (h1 e) h2) (fun e=>joint (k1:=[.code b]) J (h0 e) h2)
theorem qp4 (n:Nat){xs:List XOper}(J:Fr→Heap→Prop)(h1:Run E W [.ops (xs.take n)] (JQ E W J (.ops (xs.drop n)::k) Q) fr h)(h2:∀ fr h,J fr h→Run E W (.ops (xs.drop n)::k) Q fr h) : Run E W (.ops xs::k) Q fr h:=by
 have key:∀ (n:Nat) {xs:List XOper} {fr:Fr} {h:Heap},Run E W (.ops (xs.take n) :: .ops (xs.drop n)::k) Q fr h→Run E W (.ops xs::k) Q fr h:=by
  intro n
  induction n with
  | zero=>intro xs fr h H; exact H
  | succ n ih =>
   intro xs fr h H
   cases xs with
   | nil=>exact H
   | cons o r =>
    simp only [List.take_succ_cons,List.drop_succ_cons] at H
    obtain ⟨d,op,g,cl⟩:=o
    cases g with
    | none=>exact OpW.mono (fun v h'=>ih) H
    | some gw =>
     obtain ⟨g,want⟩:=gw
     show WO E W (⟨d,op,some (g,want),cl⟩::r) _ fr h
     have H:WO E W (⟨d,op,some (g,want),cl⟩::r.take n) _ fr h:=H
     simp only [WO] at H ⊢
     split at H
     ·split at H
      ·rename_i hbw
       rw [if_pos hbw]
       exact OpW.mono (fun v h'=>ih) H
      ·rename_i hbw
       rw [if_neg hbw]
       exact ih H
     ·exact ih H
     ·cases H
 exact key n (joint (k1:=[.ops (xs.take n)]) J h1 h2)
end

section
variable {E:Env}{W:Nat→Bool}{k:List It}{Q:QE}{fr:Fr}{h:Heap}{σ ρ α:Type}

def BQ (E:Env)(W:Nat→Bool)(k:List It)(Q:QE)(A B:Nat)(N K:Fr→Heap→Prop) : QE:=fun e fr h=>match e with
 | .normal=>N fr h
 | .exit j=>if j=B then N fr h else if j=A then K fr h else kw E W k Q (.exit j) fr h
 | .ret=>kw E W k Q .ret fr h

theorem qu6 {A:Nat}{keep:List Nat}{c:XCode}(Bd:σ→Option (Oc σ ρ))(J:σ→Fr→Heap→Prop){n:Nat}{s0:σ}{o:Oc σ ρ}(hF:wv Bd n s0=some o)(hJ0:J s0 fr h)
  (hkeep:∀ s fr h,J s fr h→J s (jz keep fr) h)
  (hbody:∀ s fr' h',J s fr' h'→∀ o1,Bd s=some o1→(∀ q,o1 = .ret q→o = .ret q)→Run E W [.code c] (fun e fr2 h2=>match e with
   | .normal=>∃ s',o1 = .nxt s'∧J s' fr2 h2
   | .exit j=>if j=A then ∃ s',o1 = .brk s'∧J s' fr2 h2 else kw E W k Q (.exit j) fr2 h2
   | .ret=>kw E W k Q .ret fr2 h2) fr' h')
  (hnext:∀ s fr' h',o = .nxt s→J s fr' h'→Run E W k Q fr' h') :
  Run E W (.code (.block A (.loop keep c))::k) Q fr h:=by
 rw [wh]
 refine qlj (I:=fun m fr' h'=>∃ s,wv Bd m s=some o∧J s fr' h') ⟨s0,hF,hJ0⟩ ?_
 rintro m fr' h' ⟨s,hs,hJ⟩
 cases m with
 | zero=>cases hs
 | succ m =>
  simp only [wv] at hs
  cases hb:Bd s with
  | none=>rw [hb] at hs; cases hs
  | some o1 =>
   rw [hb] at hs
   refine Run.mono (fun e fr2 h2 H=>?_) (hbody s _ h' (hkeep _ _ _ hJ) o1 hb (fun q hq=>by subst hq; dsimp only at hs; cases hs; rfl))
   cases e with
   | normal =>
    obtain ⟨s',rfl,h3⟩:=H
    exact ⟨m,Nat.lt_succ_self m,s',hs,h3⟩
   | ret=>exact H
   | exit j =>
    show Out E W j (.blk A::k) Q fr2 h2
    rw [qit]
    dsimp only at H
    split at H
    ·rename_i hj
     rw [if_pos hj]
     obtain ⟨s',rfl,h3⟩:=H
     dsimp only at hs
     cases hs
     exact hnext _ _ _ rfl h3
    ·rename_i hj
     rw [if_neg hj]
     exact H

theorem qj9 {A B idx cnt tc ta c1 c2 c3:Nat}{keep:List Nat}{c:XCode}(Bd:Nat→σ→Option (Oc σ ρ))(J:σ→Fr→Heap→Prop){m:Int}{s0:σ}{o:Oc σ ρ}
  (hF:kj Bd m s0=some o) (hJ0:J s0 fr h) (hi0:fr idx = .int .i64 0) (hn0:fr cnt = .int .i64 m)
  (hkeep:∀ s fr h,J s fr h→J s (jz keep fr) h) (hki:keep.contains idx=true) (hkn:keep.contains cnt=true)
  (hpc:∀ s fr h v,J s fr h→J s (fr.put (some tc) v) h) (hpa:∀ s fr h v,J s fr h→J s (fr.put (some ta) v) h) (hpi:∀ s fr h v,J s fr h→J s (fr.put (some idx) v) h)
  (hne:tc≠idx∧tc≠cnt∧ta≠idx∧ta≠cnt∧idx≠cnt∧A≠B)
  (hbody:∀ (i:Nat) (s:σ) fr' h',(i:Int)<m→J s fr' h'→fr' idx = .int .i64 i→fr' cnt = .int .i64 m→∀ o1,Bd i s=some o1→(∀ q,o1 = .ret q→o = .ret q) →
   Run E W [.code c] (BQ E W k Q A B (fun fr2 h2=>∃ s',o1 = .nxt s'∧J s' fr2 h2∧fr2 idx = .int .i64 i∧fr2 cnt = .int .i64 m) (fun fr2 h2=>∃ s',o1 = .brk s'∧J s' fr2 h2)) fr' h')
  (hnext:∀ s fr' h',o = .nxt s→J s fr' h'→Run E W k Q fr' h') :
  Run E W (.code (.block A (.loop keep (.seq (.reg false [⟨some tc,.bin .lss (.t idx) (.t cnt),none,c1⟩]) (.seq (.cond (.t tc) .skip (.exit A)) (.seq (.block B c) (.reg false [⟨some ta,.bin .add (.t idx) (.c (.int .i64 1)),none,c2⟩,⟨some idx,.mv (.t ta),none,c3⟩]))))))::k) Q fr h:=by
 obtain ⟨n1,n2,n3,n4,n5,n6⟩:=hne
 have hm:m≤4611686018427387904:=by
  unfold kj at hF
  split at hF
  ·assumption
  ·cases hF
 have hF':qbs Bd m.toNat 0 s0=some o:=by unfold kj at hF; rw [if_pos hm] at hF; exact hF
 rw [wh]
 refine qlj (I:=fun j fr' h'=>∃ (i:Nat) (s:σ),j=(m.toNat - i)+1∧(i≤m.toNat)∧qbs Bd (m.toNat - i) i s=some o∧J s fr' h'∧fr' idx = .int .i64 i∧fr' cnt = .int .i64 m) ⟨0,s0,rfl,Nat.zero_le _,hF',hJ0,hi0,hn0⟩ ?_
 rintro j fr' h' ⟨i,s,rfl,hi,hs,hJ,e1,e2⟩
 have k1:jz keep fr' idx = .int .i64 i:=by unfold jz; rw [hki]; exact e1
 have k2:jz keep fr' cnt = .int .i64 m:=by unfold jz; rw [hkn]; exact e2
 have hJ1:=hkeep _ _ _ hJ
 generalize jz keep fr'=fr1 at k1 k2 hJ1
 rw [qh,qf,qv,qjh,qjh,k1,k2,qhg,qb,qa,qh,qy,qjh,qcx,if_pos rfl]
 refine qw (fun hc=>?_) (fun hc=>?_)
 ·have hlt:(i:Int)<m:=by simpa using hc
  rw [ze,qh]
  have hs':qbs Bd ((m.toNat - (i+1))+1) i s=some o:=by rw [show m.toNat - (i+1)+1=m.toNat - i by omega]; exact hs
  simp only [qbs] at hs'
  cases hb:Bd i s with
  | none=>rw [hb] at hs'; cases hs'
  | some o1 =>
   rw [hb] at hs'
   have hr:=hbody i s (fr1.put (some tc) (.bool (decide ((i:Int)<m)))) h' hlt (hpc _ _ _ _ hJ1) (by rw [qcx,if_neg (Ne.symm n1)]; exact k1) (by rw [qcx,if_neg (Ne.symm n2)]; exact k2) o1 hb
    (fun q hq=>by subst hq; dsimp only at hs'; cases hs'; rfl)
   rw [wh]
   refine joint (k1:=[.code c]) (k:=[.blk B,.code _]) (fun fr2 h2=>∃ s',o1 = .nxt s'∧J s' fr2 h2∧fr2 idx = .int .i64 i∧fr2 cnt = .int .i64 m) (Run.mono (fun e fr2 h2 H=>?_) hr) ?_
   ·cases e with
    | normal=>exact H
    | ret =>
     show kw E W (.blk B::_) _ .ret fr2 h2
     rw [qbh]
     exact H
    | exit j =>
     show Out E W j (.blk B::_) _ fr2 h2
     rw [qit]
     dsimp only [BQ] at H
     split at H
     ·rename_i hj
      rw [if_pos hj]
      obtain ⟨s',rfl,h3,h4,h5⟩:=H
      rw [qf,qv,qjh,h4,q55,qaq,qb,qg,qa,qk,qjh,qcx,if_pos rfl,IntWalk.i64_in _ (by omega)]
      exact ⟨(m.toNat - (i+1))+1,by omega,i+1,s',rfl,by omega,hs',hpi _ _ _ _ (hpa _ _ _ _ h3),by rw [qcx,if_pos rfl]; rfl,by rw [qcx,if_neg (Ne.symm n5),qcx,if_neg (Ne.symm n4)]; exact h5⟩
     ·rename_i hj
      rw [if_neg hj,qgf,qhc]
      show Out E W j (.blk A::k) Q fr2 h2
      rw [qit]
      split at H
      ·rename_i hj2
       rw [if_pos hj2]
       obtain ⟨s',rfl,h3⟩:=H
       dsimp only at hs'
       cases hs'
       exact hnext _ _ _ rfl h3
      ·rename_i hj2
       rw [if_neg hj2]
       exact H
   ·rintro fr2 h2 ⟨s',rfl,h3,h4,h5⟩
    rw [xd,qf,qv,qjh,h4,q55,qaq,qb,qg,qa,qk,qjh,qcx,if_pos rfl,IntWalk.i64_in _ (by omega)]
    exact ⟨(m.toNat - (i+1))+1,by omega,i+1,s',rfl,by omega,hs',hpi _ _ _ _ (hpa _ _ _ _ h3),by rw [qcx,if_pos rfl]; rfl,by rw [qcx,if_neg (Ne.symm n5),qcx,if_neg (Ne.symm n4)]; exact h5⟩
 ·have hge:¬ (i:Int)<m:=by simpa using hc
  have e0:m.toNat - i=0:=by omega
  rw [e0] at hs
  simp only [qbs] at hs
  cases hs
  rw [qhp,qgf,qhc]
  show Out E W A (.blk A::k) Q _ h'
  rw [qit,if_pos rfl]
  exact hnext _ _ _ rfl (hpc _ _ _ _ hJ1)

theorem qxa {Bd:Nat→α→σ→Option (Oc σ ρ)}{L:List α} : ∀ (n i:Nat) (s:σ),L.length - i=n→i≤L.length→ws Bd (L.drop i) i s=qbs (fun i s=>(L[i]?).bind fun x=>Bd i x s) n i s:=by
 intro n
 induction n with
 | zero =>
  intro i s h1 h2
  rw [List.drop_eq_nil_of_le (by omega)]
  rfl
 | succ n ih =>
  intro i s h1 h2
  have hlt:i<L.length:=by omega
  rw [List.drop_eq_getElem_cons hlt]
  simp only [ws,qbs,List.getElem?_eq_getElem hlt,Option.bind_some]
  cases hb:Bd i L[i] s with
  | none=>rfl
  | some o =>
   cases o with
   | nxt s'=>exact ih (i+1) s' (by omega) (by omega)
   | brk s'=>rfl
   | ret q=>rfl

theorem qov {A B idx cnt tc ta c1 c2 c3:Nat}{keep:List Nat}{c:XCode}(L:List α)(Bd:Nat→α→σ→Option (Oc σ ρ))(J:σ→Fr→Heap→Prop){s0:σ}{o:Oc σ ρ}
  (hF:jh Bd L s0=some o) (hJ0:J s0 fr h) (hi0:fr idx = .int .i64 0) (hn0:fr cnt = .int .i64 (L.length:Int))
  (hkeep:∀ s fr h,J s fr h→J s (jz keep fr) h) (hki:keep.contains idx=true) (hkn:keep.contains cnt=true)
  (hpc:∀ s fr h v,J s fr h→J s (fr.put (some tc) v) h) (hpa:∀ s fr h v,J s fr h→J s (fr.put (some ta) v) h) (hpi:∀ s fr h v,J s fr h→J s (fr.put (some idx) v) h)
  (hne:tc≠idx∧tc≠cnt∧ta≠idx∧ta≠cnt∧idx≠cnt∧A≠B)
  (hbody:∀ (i:Nat) (x:α) (s:σ) fr' h',L[i]? = some x→J s fr' h'→fr' idx = .int .i64 i→fr' cnt = .int .i64 (L.length:Int)→∀ o1,Bd i x s=some o1→(∀ q,o1 = .ret q→o = .ret q) →
   Run E W [.code c] (BQ E W k Q A B (fun fr2 h2=>∃ s',o1 = .nxt s'∧J s' fr2 h2∧fr2 idx = .int .i64 i∧fr2 cnt = .int .i64 (L.length:Int)) (fun fr2 h2=>∃ s',o1 = .brk s'∧J s' fr2 h2)) fr' h')
  (hnext:∀ s fr' h',o = .nxt s→J s fr' h'→Run E W k Q fr' h') :
  Run E W (.code (.block A (.loop keep (.seq (.reg false [⟨some tc,.bin .lss (.t idx) (.t cnt),none,c1⟩]) (.seq (.cond (.t tc) .skip (.exit A)) (.seq (.block B c) (.reg false [⟨some ta,.bin .add (.t idx) (.c (.int .i64 1)),none,c2⟩,⟨some idx,.mv (.t ta),none,c3⟩]))))))::k) Q fr h:=by
 have hm:L.length≤4611686018427387904:=by
  unfold jh at hF
  split at hF
  ·assumption
  ·cases hF
 have hF':kj (fun i s=>(L[i]?).bind fun x=>Bd i x s) (L.length:Int) s0=some o:=by
  unfold jh at hF
  rw [if_pos hm] at hF
  unfold kj
  rw [if_pos (by omega),← hF,← qxa (L:=L) _ 0 s0 (by omega) (Nat.zero_le _),List.drop_zero]
 refine qj9 (fun i s=>(L[i]?).bind fun x=>Bd i x s) J hF' hJ0 hi0 hn0 hkeep hki hkn hpc hpa hpi hne (fun i s fr' h' hlt hJ e1 e2 o1 ho1 hr=>?_) hnext
 obtain ⟨x,hx,ho⟩:=qm ho1
 exact hbody i x s fr' h' hx hJ e1 e2 o1 ho hr
end
end Go.Proofs.Ytjloihcijdcpeaa.X
namespace Go.Proofs.Ytjloihcijdcpeaa.X
open Go

section
variable {E:Env}{W:Nat→Bool}{k:List It}{Q:QE}{fr:Fr}{h:Heap}{lo:Nat→Prop}{n0:Nat}{S:List Obj}{d:Option Nat}{r:List XOper}{b:Nat}{ty:TypeId}{α:Type}{f:α→List XV}{l l2:List α}{sz:TypeId→Nat}{n esz bytes:Nat}

theorem qb5 (hf:∀ x,(f x).length=n) : ((l.map f).flatten).length=l.length*n:=by
 induction l with
 | nil=>simp
 | cons a r ih=>simp only [List.map_cons,List.flatten_cons,List.length_append,hf,ih,List.length_cons,Nat.succ_mul]; omega
theorem qix (hf:∀ x,(f x).length=n) : ∀ {l:List α} {i:Nat} {x:α},l[i]? = some x→(l.map f).flatten.drop (i*n)=f x++((l.drop (i+1)).map f).flatten:=by
 intro l
 induction l with
 | nil=>intro i x hx; simp at hx
 | cons a r ih =>
  intro i x hx
  cases i with
  | zero=>simp at hx; subst hx; simp
  | succ i =>
   have h1:=ih (i:=i) (x:=x) (by simpa using hx)
   simp only [List.map_cons,List.flatten_cons,List.drop_succ_cons]
   rw [List.drop_append,hf,List.drop_of_length_le (by rw [hf,Nat.succ_mul]; omega),List.nil_append,show (i+1)*n - n=i*n by rw [Nat.succ_mul]; omega]
   exact h1
theorem qnw (hf:∀ x,(f x).length=n){i:Nat}(hi:i≤l.length) : (l.map f).flatten.take (i*n)=((l.take i).map f).flatten:=by
 have e:l.map f=(l.take i).map f++(l.drop i).map f:=by rw [←List.map_append,List.take_append_drop]
 have h1:(((l.take i).map f).flatten).length=i*n:=by rw [qb5 hf,List.length_take]; congr 1; omega
 rw [e,List.flatten_append,← h1,List.take_left]
theorem q70 (hf:∀ x,(f x).length=n){i o:Nat}{x:α}(hx:l[i]? = some x)(ho:o<n) : (l.map f).flatten[i*n+o]? = (f x)[o]? := by
 rw [←List.getElem?_drop,qix hf hx,List.getElem?_append_left (by rw [hf]; exact ho)]
theorem qmm (hf:∀ x,(f x).length=n){i o m:Nat}{x:α}(hx:l[i]? = some x)(ho:o+m≤n) : ((l.map f).flatten.drop (i*n+o)).take m=((f x).drop o).take m:=by
 rw [←List.drop_drop,qix hf hx,List.drop_append_of_le_length (by rw [hf]; omega),List.take_append_of_le_length (by rw [List.length_drop,hf]; omega)]
theorem q7w (hf:∀ x,(f x).length=n){i o:Nat}{x x':α}{vs:List XV}(hx:l[i]? = some x)(ho:o+vs.length≤n)(e:ka (f x) o vs=f x') : ka (l.map f).flatten (i*n+o) vs=((l.set i x').map f).flatten:=by
 have hi:i<l.length:=(List.getElem?_eq_some_iff.1 hx).1
 have hxl:=hf x
 rw [List.set_eq_take_append_cons_drop,if_pos hi,List.map_append,List.map_cons,List.flatten_append,List.flatten_cons,← e]
 unfold ka
 have h1:(l.map f).flatten.take (i*n+o)=((l.take i).map f).flatten++(f x).take o:=by
  have:=List.take_append_drop (i*n) (l.map f).flatten
  conv=>lhs; rw [←this]
  have h3:i*n≤l.length*n:=Nat.mul_le_mul_right n (Nat.le_of_lt hi)
  have h4:((l.map f).flatten.take (i*n)).length=i*n:=by rw [List.length_take,qb5 hf]; omega
  rw [List.take_append,List.take_of_length_le (by rw [h4]; omega),h4,show i*n+o - i*n=o by omega,qnw hf (Nat.le_of_lt hi),qix hf hx,List.take_append_of_le_length (by omega)]
 have h2:(l.map f).flatten.drop (i*n+o+vs.length)=(f x).drop (o+vs.length)++((l.drop (i+1)).map f).flatten:=by
  rw [Nat.add_assoc,← List.drop_drop,qix hf hx,List.drop_append_of_le_length (by omega)]
 rw [h1,h2]
 simp [List.append_assoc]

theorem zo {m:Nat} : snap h sz (m+1) (lst f l)=some (lst f l):=(rfl)
theorem qba {β:Type}{g:Nat→Option β}{f:α→β}{l:List α}(hg:∀ (i:Nat) x,l[i]? = some x→g i=some (f x)) : (List.range l.length).mapM g=some (l.map f):=by
 induction l generalizing g with
 | nil=>simp
 | cons a r ih =>
  rw [List.length_cons,List.range_succ_eq_map,List.mapM_cons,hg 0 a rfl]
  have:(List.map Nat.succ (List.range r.length)).mapM g=some (r.map f):=by
   rw [List.mapM_map]
   exact ih (g:=fun i=>g (i+1)) (fun i x hx=>hg (i+1) x (by simpa using hx))
  simp [this]
theorem yv (hf:∀ x,(f x).length=n) : k9 h n (lst f l)=some (l.length,(l.map f).flatten):=by
 unfold k9 lst
 dsimp only
 rw [if_pos (by rw [List.all_map,List.all_eq_true]; intro x hx; simp [hf])]
 simp
theorem qsp (h1:∀ x,(f x).all XV.one=true) : ((l.map f).flatten).all XV.one=true:=by
 rw [List.all_flatten,List.all_map,List.all_eq_true]
 intro x _
 exact h1 x

theorem qwt {W:Nat→Bool}{x:XV}(hx:k9 h esz x=some (l2.length,(l2.map f).flatten)) : qbt W h ty esz bytes .nil x=if l2.length=0 then some (.nil,h) else if l2.length*bytes≤70368744177664 then some (.row h.length 0 l2.length l2.length,h++[⟨(l2.map f).flatten,ty,true⟩]) else none:=by
 unfold qbt
 simp only [za,XO.ev,hx]
theorem yp {i:Int}{x:α}(hg:z9 l i=some x) : 0≤i∧i<l.length∧l[i.toNat]? = some x:=by
 unfold z9 at hg
 split at hg
 ·have:=(List.getElem?_eq_some_iff.1 hg).1
  exact ⟨by assumption,by omega,hg⟩
 ·cases hg
theorem xx {kk:IntKind}{i:Int}{x:α}(hg:z9 l i=some x)(hf:(f x).length=n) : xia n (lst f l) (.int kk i)=some (.ref (f x) 0):=by
 obtain ⟨h0,h1,h2⟩:=yp hg
 simp [lst,xia,h0,h2,hf]
theorem ko {kk:IntKind}{i:Nat}{x:α}(hg:l[i]? = some x)(hf:(f x).length=n) : xia n (lst f l) (.int kk (i:Int))=some (.ref (f x) 0):=by
 simp [lst,xia,hg,hf]
theorem qhs {kk:IntKind}{i:Int}{m c:Nat}(h0:0≤i)(h1:i<m) : xia n (.row b 0 m c) (.int kk i)=some (.ptr b (i.toNat*n)):=by
 simp [xia,h0,h1]
theorem zx:qge (lst f l)=some (.int .i64 l.length):=by simp [lst,qge]
theorem iteT {β:Type}{t:Bool}{x y:β}(h:t=true) : (if t=true then x else y)=x:=if_pos h
theorem iteF {β:Type}{t:Bool}{x y:β}(h:t=false) : (if t=true then x else y)=y:=if_neg (by rw [h]; exact Bool.false_ne_true)
theorem qj {β:Type}{x y:β}(h:some x=some y) : x=y:=Option.some.inj h

theorem jc {g:Nat}{caps args as':List XV}{u:XV}(hm:E.mode g=1)(hs:args.mapM (snap h E.sz 9)=some as')(hc:Ret E (fun b=>decide (h.length≤b)) g (as'++caps) h (fun v h'=>cut h.length h' E.sz false 9 v=some u))
  (hR:Run E W (.ops r::k) Q (fr.put d u) h) : CallK E W (.fn g caps) args d r k Q fr h :=
 q7s (R:=fun x=>x=u) hm hs (hc.mono fun v h' e=>⟨u,e,rfl⟩) (fun x e=>by rw [e]; exact hR)
theorem qf6 {g:Nat}{caps args as':List XV}{u:XV}{hs:Nat}{ld wr:List Nat}(hm:E.mode g=1)(hs':args.mapM (snap h E.sz 9)=some as')(hc:Ret E (fun b=>decide (h.length≤b)) g (as'++caps) h (fun v h'=>cut h.length h' E.sz false 9 v=some u))
  (hR:Run E W (.draw hs r ld wr::k) Q (fr.put d u) h) : CallD E W (.fn g caps) args d hs r ld wr k Q fr h :=
 q5y (R:=fun x=>x=u) hm hs' (hc.mono fun v h' e=>⟨u,e,rfl⟩) (fun x e=>by rw [e]; exact hR)
theorem qmj {g:Nat}{caps args as':List XV}{u:XV}{hs:Nat}{ld wr:List Nat}(hm:E.mode g=1)(hs':args.mapM (snap h E.sz 9)=some as')(hc:Ret E (fun b=>decide (h.length≤b)) g (as'++caps) h (fun v h'=>cut h.length h' E.sz false 9 v=some u))
  (hR:Run E W (.draw hs r ld wr::k) Q (fr.put d u) h) : CallQ E W (.fn g caps) args (qgj E (.fn g caps) args) d hs r ld wr k Q fr h :=
 q5m (R:=fun x=>x=u) hm hs' (hc.mono fun v h' e=>⟨u,e,rfl⟩) (fun x e=>by rw [e]; exact hR)
theorem qoc (n:Nat){xs:List XOper}{hs:Nat}{ld wr:List Nat}(J:Fr→Heap→Prop)(hcl:(xs.take n).all (fun o=>decide (o.cls=4))=true)(h1:Run E W [.draw hs (xs.take n) ld wr] (JQ E W J (.draw hs (xs.drop n) ld wr::k) Q) fr h)(h2:∀ fr h,J fr h→Run E W (.draw hs (xs.drop n) ld wr::k) Q fr h) : Run E W (.draw hs xs ld wr::k) Q fr h:=by
 have key:∀ (n:Nat) {xs:List XOper} {fr:Fr} {h:Heap},(xs.take n).all (fun o=>decide (o.cls=4))=true→Run E W (.draw hs (xs.take n) ld wr :: .draw hs (xs.drop n) ld wr::k) Q fr h→Run E W (.draw hs xs ld wr::k) Q fr h:=by
  intro n
  induction n with
  | zero=>intro xs fr h _ H; exact H
  | succ n ih =>
   intro xs fr h hcl H
   cases xs with
   | nil=>exact H
   | cons o r =>
    simp only [List.take_succ_cons,List.drop_succ_cons] at H hcl
    obtain ⟨d,op,g,cl⟩:=o
    simp only [List.all_cons,Bool.and_eq_true,decide_eq_true_eq] at hcl
    obtain ⟨h4,hcl⟩:=hcl
    subst h4
    have go:∀ {fr:Fr} {h:Heap},OpD E W hs op 4 ld wr (XO.ev fr) h (fun ld' wr' v h'=>WD E W hs (r.take n) ld' wr' (fun fr h=>kw E W (.draw hs (r.drop n) ld wr::k) Q .normal fr h) (fr.put d v) h')→OpD E W hs op 4 ld wr (XO.ev fr) h (fun ld' wr' v h'=>WD E W hs r ld' wr' (fun fr h=>kw E W k Q .normal fr h) (fr.put d v) h'):=by
     intro fr h H
     unfold OpD at H ⊢
     rw [if_neg (by decide),if_pos rfl] at H ⊢
     split at H
     ·exact ih hcl H
     ·cases H
    cases g with
    | none=>exact go H
    | some gw =>
     obtain ⟨g,want⟩:=gw
     show WD E W hs (⟨d,op,some (g,want),4⟩::r) ld wr _ fr h
     have H:WD E W hs (⟨d,op,some (g,want),4⟩::r.take n) ld wr _ fr h:=H
     simp only [WD] at H ⊢
     split at H
     ·split at H
      ·rename_i hbw
       rw [if_pos hbw]
       exact go H
      ·rename_i hbw
       rw [if_neg hbw]
       exact ih hcl H
     ·exact ih hcl H
     ·cases H
 exact key n hcl (joint (k1:=[.draw hs (xs.take n) ld wr]) J h1 h2)

theorem qnh {n0 m:Nat}{keep:Bool}{cs us:List XV}(e:cs.mapM (cut n0 h sz keep m)=some us) : cut n0 h sz keep (m+1) (.tup cs)=some (.tup us):=by simp only [cut,e]
theorem qnt {kk:IntKind}{m n:Int}(h:n≠0) : yx .rem (.int kk m) (.int kk n)=some (.int kk (m.tmod n)):=by simp [yx,h]
theorem q5u {kk:IntKind}{m n:Int}(h:n≠0) : yx .quo (.int kk m) (.int kk n)=some (.int kk (kk.wrap (m.tdiv n))):=by simp [yx,h]
theorem q5x {kk k2:IntKind}{m n:Int}(h:0≤n) : yx .shr (.int kk m) (.int k2 n)=some (.int kk (qod kk m n)):=by
 have:¬ n<0:=by omega
 simp [yx,this,qod]
theorem q7v {kk:IntKind}{m n:Int} : yx .and (.int kk m) (.int kk n)=some (.int kk (qkq kk m n)):=by simp [yx,qkq]
theorem qlw {kk k2:IntKind}{m:Int} : qn1 kk (.int k2 m)=some (.int kk (kk.wrap m)):=(rfl)
theorem qg8 {a b:Bool} : qoz true (.bool a) (.bool b)=some (.bool (!(a == b))):=(rfl)
theorem q73 {kk:IntKind}{a b:Int} : qkg true [.int kk a,.int kk b]=some (.int kk (if b > a then b else a)):=by simp [qkg,qf0]
theorem qa7 {a:XV}{l:List XV} : qhk 0 (.tup (a::l))=some a:=(rfl)
theorem qa0 {a b:XV}{l:List XV} : qhk 1 (.tup (a::b::l))=some b:=(rfl)
theorem qjw {a b c:XV}{l:List XV} : qhk 2 (.tup (a::b::c::l))=some c:=(rfl)
theorem zz {b o:Nat} : ql7 (.ptr b o)=some (.ptr b o):=(rfl)
theorem z5 {cs:List XV}{o:Nat}(hb:z6 h b=some ⟨cs,ty,true⟩) : xld h none (.ptr b o)=cs[o]? := q60 hb o
theorem z3 {cs:List XV}{o m:Nat}(hb:z6 h b=some ⟨cs,ty,true⟩) : xld h (some m) (.ptr b o)=if o+m≤cs.length then some (.agg ((cs.drop o).take m)) else none:=by
 show (j5 h b o m).map XV.agg=_
 rw [qg9 hb]
 split <;> rfl
end
end Go.Proofs.Ytjloihcijdcpeaa.X
namespace Go.Proofs.Ytjloihcijdcpeaa.X
open Go
section
variable {E:Env}{W:Nat→Bool}{k:List It}{Q:QE}{fr:Fr}{h:Heap}{a b c:XCode}{σ ρ α:Type}

theorem xq {t:Bool}(J:Fr→Heap→Prop)
  (hb:∀ Q':QE,(∀ fr h,J fr h→Q' .normal fr h)→(∀ fr h,Q .ret fr h→Q' .ret fr h)→(∀ j fr h,Out E W j k Q fr h→Q' (.exit j) fr h)→(t=true→Run E W [.code a] Q' fr h)∧(t=false→Run E W [.code b] Q' fr h))
  (h2:∀ fr h,J fr h→Run E W k Q fr h) : CondK E W (.bool t) a b k Q fr h:=by
 obtain ⟨x1,x0⟩:=hb (JQ E W J k Q) (fun _ _ hj=>hj) (fun fr h hr=>by show kw E W k Q .ret fr h; rw [qbh]; exact hr) (fun j fr h hj=>hj)
 exact qoo J x1 x0 h2
theorem zu (n:Nat){xs:List XOper}(J:Fr→Heap→Prop)
  (hb:∀ Q':QE,(∀ fr h,J fr h→Q' .normal fr h)→Run E W [.ops (xs.take n)] Q' fr h)
  (h2:∀ fr h,J fr h→Run E W (.ops (xs.drop n)::k) Q fr h) : Run E W (.ops xs::k) Q fr h :=
 qp4 n J (hb _ (fun _ _ hj=>hj)) h2
theorem qie (n:Nat){xs:List XOper}{hs:Nat}{ld wr:List Nat}(J:Fr→Heap→Prop)(hcl:(xs.take n).all (fun o=>decide (o.cls=4))=true)
  (hb:∀ Q':QE,(∀ fr h,J fr h→Q' .normal fr h)→Run E W [.draw hs (xs.take n) ld wr] Q' fr h)
  (h2:∀ fr h,J fr h→Run E W (.draw hs (xs.drop n) ld wr::k) Q fr h) : Run E W (.draw hs xs ld wr::k) Q fr h :=
 qoc n J hcl (hb _ (fun _ _ hj=>hj)) h2

theorem qkt {A:Nat}{keep:List Nat}(Bd:σ→Option (Oc σ ρ))(J:σ→Fr→Heap→Prop){n:Nat}{s0:σ}{o:Oc σ ρ}(hF:wv Bd n s0=some o)(hJ0:J s0 fr h)
  (hkeep:∀ s fr h,J s fr h→J s (jz keep fr) h)
  (hbody:∀ s fr' h',J s fr' h'→∀ o1,Bd s=some o1→(∀ q,o1 = .ret q→o = .ret q)→∀ Q':QE,
   (∀ s' fr2 h2,o1 = .nxt s'→J s' fr2 h2→Q' .normal fr2 h2)→(∀ s' fr2 h2,o1 = .brk s'→J s' fr2 h2→Q' (.exit A) fr2 h2)→(∀ fr2 h2,Q .ret fr2 h2→Q' .ret fr2 h2)→(∀ j fr2 h2,j≠A→Out E W j k Q fr2 h2→Q' (.exit j) fr2 h2) →
   Run E W [.code c] Q' fr' h')
  (hnext:∀ s fr' h',o = .nxt s→J s fr' h'→Run E W k Q fr' h') :
  Run E W (.code (.block A (.loop keep c))::k) Q fr h:=by
 refine qu6 Bd J hF hJ0 hkeep (fun s fr' h' hJ o1 ho1 hr=>?_) hnext
 refine hbody s fr' h' hJ o1 ho1 hr _ ?_ ?_ ?_ ?_
 ·intro s' fr2 h2 e hj; exact ⟨s',e,hj⟩
 ·intro s' fr2 h2 e hj; dsimp only; rw [if_pos rfl]; exact ⟨s',e,hj⟩
 ·intro fr2 h2 hq; dsimp only; rw [qbh]; exact hq
 ·intro j fr2 h2 hj hq; dsimp only; rw [if_neg hj]; exact hq

theorem wc {A B idx cnt tc ta c1 c2 c3:Nat}{keep:List Nat}(Bd:Nat→σ→Option (Oc σ ρ))(J:σ→Fr→Heap→Prop){m:Int}{s0:σ}{o:Oc σ ρ}
  (hF:kj Bd m s0=some o) (hJ0:J s0 fr h) (hi0:fr idx = .int .i64 0) (hn0:fr cnt = .int .i64 m)
  (hkeep:∀ s fr h,J s fr h→J s (jz keep fr) h) (hki:keep.contains idx=true) (hkn:keep.contains cnt=true)
  (hpc:∀ s fr h v,J s fr h→J s (fr.put (some tc) v) h) (hpa:∀ s fr h v,J s fr h→J s (fr.put (some ta) v) h) (hpi:∀ s fr h v,J s fr h→J s (fr.put (some idx) v) h)
  (hne:tc≠idx∧tc≠cnt∧ta≠idx∧ta≠cnt∧idx≠cnt∧A≠B)
  (hbody:∀ (i:Nat) (s:σ) fr' h',(i:Int)<m→J s fr' h'→fr' idx = .int .i64 i→fr' cnt = .int .i64 m→∀ o1,Bd i s=some o1→(∀ q,o1 = .ret q→o = .ret q)→∀ Q':QE,
   (∀ s' fr2 h2,o1 = .nxt s'→J s' fr2 h2→fr2 idx = .int .i64 i→fr2 cnt = .int .i64 m→Q' .normal fr2 h2)→(∀ s' fr2 h2,o1 = .nxt s'→J s' fr2 h2→fr2 idx = .int .i64 i→fr2 cnt = .int .i64 m→Q' (.exit B) fr2 h2)→(∀ s' fr2 h2,o1 = .brk s'→J s' fr2 h2→Q' (.exit A) fr2 h2)→(∀ fr2 h2,Q .ret fr2 h2→Q' .ret fr2 h2)→(∀ j fr2 h2,j≠A→j≠B→Out E W j k Q fr2 h2→Q' (.exit j) fr2 h2) →
   Run E W [.code c] Q' fr' h')
  (hnext:∀ s fr' h',o = .nxt s→J s fr' h'→Run E W k Q fr' h') :
  Run E W (.code (.block A (.loop keep (.seq (.reg false [⟨some tc,.bin .lss (.t idx) (.t cnt),none,c1⟩]) (.seq (.cond (.t tc) .skip (.exit A)) (.seq (.block B c) (.reg false [⟨some ta,.bin .add (.t idx) (.c (.int .i64 1)),none,c2⟩,⟨some idx,.mv (.t ta),none,c3⟩]))))))::k) Q fr h:=by
 refine qj9 Bd J hF hJ0 hi0 hn0 hkeep hki hkn hpc hpa hpi hne (fun i s fr' h' hlt hJ e1 e2 o1 ho1 hr=>?_) hnext
 have hAB:=hne.2.2.2.2.2
 refine hbody i s fr' h' hlt hJ e1 e2 o1 ho1 hr _ ?_ ?_ ?_ ?_ ?_
 ·intro s' fr2 h2 e hj x1 x2
  exact ⟨s',e,hj,x1,x2⟩
 ·intro s' fr2 h2 e hj x1 x2
  show (if B=B then _ else _)
  rw [if_pos rfl]
  exact ⟨s',e,hj,x1,x2⟩
 ·intro s' fr2 h2 e hj
  show (if A=B then _ else _)
  rw [if_neg hAB,if_pos rfl]
  exact ⟨s',e,hj⟩
 ·intro fr2 h2 hq
  show kw E W k Q .ret fr2 h2
  rw [qbh]
  exact hq
 ·intro j fr2 h2 hA hB hq
  show (if j=B then _ else _)
  rw [if_neg hB,if_neg hA]
  exact hq

theorem kn {A B idx cnt tc ta c1 c2 c3:Nat}{keep:List Nat}(L:List α)(Bd:Nat→α→σ→Option (Oc σ ρ))(J:σ→Fr→Heap→Prop){s0:σ}{o:Oc σ ρ}
  (hF:jh Bd L s0=some o) (hJ0:J s0 fr h) (hi0:fr idx = .int .i64 0) (hn0:fr cnt = .int .i64 (L.length:Int))
  (hkeep:∀ s fr h,J s fr h→J s (jz keep fr) h) (hki:keep.contains idx=true) (hkn:keep.contains cnt=true)
  (hpc:∀ s fr h v,J s fr h→J s (fr.put (some tc) v) h) (hpa:∀ s fr h v,J s fr h→J s (fr.put (some ta) v) h) (hpi:∀ s fr h v,J s fr h→J s (fr.put (some idx) v) h)
  (hne:tc≠idx∧tc≠cnt∧ta≠idx∧ta≠cnt∧idx≠cnt∧A≠B)
  (hbody:∀ (i:Nat) (x:α) (s:σ) fr' h',L[i]? = some x→J s fr' h'→fr' idx = .int .i64 i→fr' cnt = .int .i64 (L.length:Int)→∀ o1,Bd i x s=some o1→(∀ q,o1 = .ret q→o = .ret q)→∀ Q':QE,
   (∀ s' fr2 h2,o1 = .nxt s'→J s' fr2 h2→fr2 idx = .int .i64 i→fr2 cnt = .int .i64 (L.length:Int)→Q' .normal fr2 h2)→(∀ s' fr2 h2,o1 = .nxt s'→J s' fr2 h2→fr2 idx = .int .i64 i→fr2 cnt = .int .i64 (L.length:Int)→Q' (.exit B) fr2 h2)→(∀ s' fr2 h2,o1 = .brk s'→J s' fr2 h2→Q' (.exit A) fr2 h2)→(∀ fr2 h2,Q .ret fr2 h2→Q' .ret fr2 h2)→(∀ j fr2 h2,j≠A→j≠B→Out E W j k Q fr2 h2→Q' (.exit j) fr2 h2) →
   Run E W [.code c] Q' fr' h')
  (hnext:∀ s fr' h',o = .nxt s→J s fr' h'→Run E W k Q fr' h') :
  Run E W (.code (.block A (.loop keep (.seq (.reg false [⟨some tc,.bin .lss (.t idx) (.t cnt),none,c1⟩]) (.seq (.cond (.t tc) .skip (.exit A)) (.seq (.block B c) (.reg false [⟨some ta,.bin .add (.t idx) (.c (.int .i64 1)),none,c2⟩,⟨some idx,.mv (.t ta),none,c3⟩]))))))::k) Q fr h:=by
 refine qov L Bd J hF hJ0 hi0 hn0 hkeep hki hkn hpc hpa hpi hne (fun i x s fr' h' hx hJ e1 e2 o1 ho1 hr=>?_) hnext
 have hAB:=hne.2.2.2.2.2
 refine hbody i x s fr' h' hx hJ e1 e2 o1 ho1 hr _ ?_ ?_ ?_ ?_ ?_
 ·intro s' fr2 h2 e hj x1 x2
  exact ⟨s',e,hj,x1,x2⟩
 ·intro s' fr2 h2 e hj x1 x2
  show (if B=B then _ else _)
  rw [if_pos rfl]
  exact ⟨s',e,hj,x1,x2⟩
 ·intro s' fr2 h2 e hj
  show (if A=B then _ else _)
  rw [if_neg hAB,if_pos rfl]
  exact ⟨s',e,hj⟩
 ·intro fr2 h2 hq
  show kw E W k Q .ret fr2 h2
  rw [qbh]
  exact hq
 ·intro j fr2 h2 hA hB hq
  show (if j=B then _ else _)
  rw [if_neg hB,if_neg hA]
  exact hq

theorem yb {a b:Bool}(h:a=true) : (a&&b)=b:=by rw [h]; rfl
theorem yc {a b:Bool}(h:a=false) : (a&&b)=false:=by rw [h]; rfl
theorem orT {a b:Bool}(h:a=true) : (a||b)=true:=by rw [h]; rfl
theorem orF {a b:Bool}(h:a=false) : (a||b)=b:=by rw [h]; rfl
def mxI (a b:Int) : Int:=if b > a then b else a
theorem wz {n:Option Nat}{a bb oo:Nat}{P:XV→Heap→Prop}{v:XV}(h1:fr a = .ptr bb oo)(h2:xld h n (.ptr bb oo)=some v)(H:P v h) : EndW [.cell a n] P .ret fr h:=by
 rw [qv6,h1]
 dsimp only
 rw [h2]
 exact H
variable {r:List XOper}{d:Option Nat}{lo:Nat→Prop}{S:List Obj}{bk:Nat}{ty esz bytes:Nat}{f:α→List XV}{l:List α}
def qor (neq:Bool)(ks:List XTy) : XV→XV→Option XV
 | .agg xs,.agg ys=>(qjg ks xs ys).map fun b => .bool (if neq then !b else b)
 | _,_=>none
theorem qq3 {W0:Nat→Bool}{ev:XO→XV}{neq:Bool}{ks:List XTy}{x y:XO} : za W0 ev h (.eqs neq ks x y)=(qor neq ks (ev x) (ev y)).map fun v=>(v,h):=by
 simp only [za]
 cases ev x <;> try rfl
 cases ev y <;> try rfl
 rename_i xs ys
 simp only [qor]
 cases qjg ks xs ys <;> rfl
theorem q6m {neq:Bool}{ks:List XTy}{x y:XO}{hs:Nat}{ld wr:List Nat} : Run E W (.draw hs (⟨d,.eqs neq ks x y,none,4⟩::r) ld wr::k) Q fr h=Put1D E W (qor neq ks (x.ev fr) (y.ev fr)) d hs r ld wr k Q fr h:=by
 rw [uy,qq3,yg]
theorem qbq {n:Option Nat}{cs:List XV}{o:Nat}{hs:Nat}{ld wr:List Nat} : LdD E W n (.ref cs o) d hs r ld wr k Q fr h=Put1D E W (xld h n (.ref cs o)) d hs r ld wr k Q fr h:=(rfl)
variable {p0 p1 p2 p3 p4 p5 p6 p7 p8:Obj}
variable {cs:List XV}
end
end Go.Proofs.Ytjloihcijdcpeaa.X
