/- Rows with elements that stand open. -/
import Derived.Test.YtanblnjomhgphaaZSS
open List renaming append_assoc→t7,append_nil→a2y,cons_append→a2g,flatMap_append→a1z,flatten_cons→a0y,getElem?_eq_getElem→s8,getElem?_eq_some_iff→r9,getElem?_set_ne→a1o,getElem?_set_self→a1i,length_set→a1t,mem_append_left→a2s,mem_append→a0w,nodup_append→a2p
set_option linter.unusedVariables false
set_option linter.unusedSimpArgs false
namespace Go.Proofs.Ytanblnjomhgphaa.X
open Go
theorem B0:(∀ (fr:Fr) (d:Nat) (v:XV) (t:Nat),(fr.put (some d) v) t=if t=d then v else fr t)∧(∀ (fr:Fr) (v:XV),fr.put none v=fr)∧(∀ (fr:Fr) (n:Nat),XO.ev fr (.t n)=fr n)∧(∀ (fr:Fr) (v:XV),XO.ev fr (.c v)=v) ∧
  (∀ (f:XO→XV) (a:XO) (l:List XO),List.map f (a::l)=f a::List.map f l)∧(∀ (f:XO→XV),List.map f []=[])∧(∀ (f:Nat × Nat × XO→Nat × Nat × XV) (a:Nat × Nat × XO) (l:List (Nat × Nat × XO)),List.map f (a::l)=f a::List.map f l)∧(∀ (f:Nat × Nat × XO→Nat × Nat × XV),List.map f []=[]) :=
 ⟨fun _ _ _ _=>rfl,fun _ _=>rfl,fun _ _=>rfl,fun _ _=>rfl,fun _ _ _=>rfl,fun _=>rfl,fun _ _ _=>rfl,fun _=>rfl⟩
def hk:List (Nat × List XV)→Nat→Option (List XV)
 | [],_=>none
 | (j,cs)::r,i=>if j=i then some cs else hk r i
section
variable {α:Type}{R:Rep α}{f:α→List XV}{n:Nat}{sz:TypeId→Nat}{l l2:List α}{css css2:List (List XV)}{oss oss2:List (List Obj)}{hs:List (Nat × List XV)}
def PH (R:Rep α)(hs:List (Nat × List XV))(i:Nat)(x:α)(cs:List XV)(os:List Obj) : Prop :=
 match hk hs i with
 | some cs'=>cs=cs'∧os=[]
 | none=>R x cs os
structure AllG (R:Rep α) (n:Nat) (hs:List (Nat × List XV)) (l:List α) (css:List (List XV)) (oss:List (List Obj)) : Prop where
 len1:css.length=l.length
 len2:oss.length=l.length
 lens:∀ cs∈css,cs.length=n
 at_:∀ (i:Nat) x cs os,l[i]? = some x→css[i]? = some cs→oss[i]? = some os→PH R hs i x cs os
theorem All3.toG (H:All3 R l css oss)(hl:∀ {x cs os},R x cs os→cs.length=n) : AllG R n [] l css oss:=by
 refine ⟨H.len.1,H.len.2,H.lens hl,?_⟩
 induction H with
 | nil=>intro i x cs os h; simp at h
 | cons h H ih =>
  intro i x cs os h1 h2 h3
  cases i with
  | zero=>simp at h1 h2 h3; subst h1; subst h2; subst h3; exact h
  | succ i=>exact ih i x cs os (by simpa using h1) (by simpa using h2) (by simpa using h3)
theorem AllG.to3:∀ {l:List α} {css oss},AllG R n [] l css oss→All3 R l css oss:=by
 intro l
 induction l with
 | nil =>
  intro css oss H
  have h1:=H.len1
  have h2:=H.len2
  cases css with
  | nil=>cases oss with
   | nil=>exact .nil
   | cons=>simp at h2
  | cons=>simp at h1
 | cons x l ih =>
  intro css oss H
  have h1:=H.len1
  have h2:=H.len2
  cases css with
  | nil=>simp at h1
  | cons cs css=>cases oss with
   | nil=>simp at h2
   | cons os oss =>
    refine .cons (H.at_ 0 x cs os rfl rfl rfl) (ih ⟨by simpa using h1,by simpa using h2,fun c hc=>H.lens c (by simp [hc]),fun i x cs os a1 a2 a3=>H.at_ (i+1) x cs os (by simpa using a1) (by simpa using a2) (by simpa using a3)⟩)
theorem qpl:∀ {oss:List (List Obj)} {os:List Obj} {i:Nat},oss[i]? = some os→(oss.flatten).Perm (os++(oss.set i []).flatten):=by
 intro oss
 induction oss with
 | nil=>intro os i h; simp at h
 | cons o oss ih =>
  intro os i hi
  cases i with
  | zero=>simp at hi; subst hi; simp
  | succ i =>
   rw [a0y,List.set_cons_succ,a0y]
   exact ((ih (i:=i) (by simpa using hi)).append_left o).trans kc
theorem qn5:∀ {oss:List (List Obj)} {os:List Obj} {i:Nat},oss[i]? = some []→((oss.set i os).flatten).Perm (os++oss.flatten):=by
 intro oss
 induction oss with
 | nil=>intro os i h; simp at h
 | cons o oss ih =>
  intro os i hi
  cases i with
  | zero=>simp at hi; subst hi; simp
  | succ i =>
   rw [List.set_cons_succ,a0y,a0y]
   exact ((ih (i:=i) (by simpa using hi)).append_left o).trans kc
theorem AllG.perm {hs2:List (Nat × List XV)}(H:AllG R n hs l css oss)(he:∀ i,hk hs i=hk hs2 i) : AllG R n hs2 l css oss:=⟨H.len1,H.len2,H.lens,fun i x cs os a b c=>by
 have:=H.at_ i x cs os a b c
 unfold PH at this ⊢
 rw [←he i]
 exact this⟩
end
section
variable {E:Env}{W:Nat→Bool}{k:List It}{Q:QE}{fr:Fr}{h:Heap}{lo:Nat→Prop}{n0:Nat}{S:List Obj}{d:Option Nat}{r:List XOper}{b:Nat}{ty:TypeId}{α:Type}{R:Rep α}{f:α→List XV}{l l2 l3:List α}{sz:TypeId→Nat}{n bytes:Nat}{v x:XV}{c c2:List Obj}{i:Nat}{cs:List XV}{os rest:List Obj}{e:α}{hs:List (Nat × List XV)}

def SlG (R:Rep α)(n:Nat)(ty:TypeId)(v:XV)(l:List α)(hs:List (Nat × List XV))(b:Nat)(c:List Obj) : Prop :=
 ∃ (cap:Nat) (junk:List XV) (css:List (List XV)) (oss:List (List Obj)),v = .row b 0 l.length cap∧l.length≤cap∧junk.length=(cap - l.length)*n∧junk.all XV.free1=true∧AllG R n hs l css oss∧c.Perm (Blk1 b (css.flatten++junk) ty::oss.flatten)
theorem SlN.toG (H:SlN R n ty v l c)(hb:SlB v b)(hl:∀ {x cs os},R x cs os→cs.length=n) : SlG R n ty v l [] b c:=by
 obtain ⟨len,cap,rfl⟩:=hb
 rcases H with ⟨h0,_,_⟩ | ⟨b',cap',junk,css,oss,hv,h2,h3,h4,h5,h6⟩
 ·cases h0
 ·cases hv
  exact ⟨cap,junk,css,oss,rfl,h2,h3,h4,h5.toG hl,h6⟩
theorem SlG.toN (H:SlG R n ty v l [] b c) : SlN R n ty v l c:=by
 obtain ⟨cap,junk,css,oss,rfl,h2,h3,h4,h5,h6⟩:=H
 exact .inr ⟨b,cap,junk,css,oss,rfl,h2,h3,h4,h5.to3,h6⟩
theorem SlG.swap {j:Nat}{cs2:List XV}(H:SlG R n ty v l ((i,cs)::(j,cs2)::hs) b c)(hne:i≠j) : SlG R n ty v l ((j,cs2)::(i,cs)::hs) b c:=by
 obtain ⟨cap,junk,css,oss,rfl,h2,h3,h4,h5,h6⟩:=H
 refine ⟨cap,junk,css,oss,rfl,h2,h3,h4,h5.perm (fun u=>?_),h6⟩
 unfold hk
 by_cases h1:i=u
 ·subst h1
  rw [if_pos rfl,if_neg (Ne.symm hne)]
  unfold hk
  rw [if_pos rfl]
 ·rw [if_neg h1]
  by_cases h2:j=u
  ·subst h2
   rw [if_pos rfl]
   unfold hk
   rw [if_pos rfl]
  ·rw [if_neg h2]
   unfold hk
   rw [if_neg h2,if_neg h1]
theorem SlG.plen (H:SlG R n ty v l hs b c) : qg1 v=some (.int .i64 (List.length l:Int)):=by
 obtain ⟨cap,junk,css,oss,rfl,_⟩:=H
 rfl
theorem SlG.ia (H:SlG R n ty v l hs b c){kk:IntKind}{j:Int}{x:α}(hg:zy l j=some x) : xia n v (.int kk j)=some (.ptr b (j.toNat*n)):=by
 obtain ⟨g0,g1,g2⟩:=yn hg
 obtain ⟨cap,junk,css,oss,rfl,_⟩:=H
 exact qjc g0 g1
theorem qml {i:Nat}{cs:List XV}{hs:List (Nat × List XV)} : hk ((i,cs)::hs) i=some cs:=by
 unfold hk; rw [if_pos rfl]
theorem qgl {i j:Nat}{cs:List XV}{hs:List (Nat × List XV)}(h:i≠j) : hk ((i,cs)::hs) j=hk hs j:=by
 conv=>lhs; unfold hk
 rw [if_neg h]
theorem zt {i:Nat} : hk [] i=none:=rfl
theorem zec {β γ:Type}{l:List β}{l2:List γ}{i j:Int}{x:β}{y:γ}(h:i≠j)(h1:zy l i=some x)(h2:zy l2 j=some y) : i.toNat≠j.toNat:=by
 have a:=(yn h1).1
 have b:=(yn h2).1
 omega

theorem SlG.one (H:SlG R n ty v l hs b c) : XV.one v=true:=by
 obtain ⟨cap,junk,css,oss,rfl,_⟩:=H
 rfl
theorem SlG.opn {j:Int}(H:SlG R n ty v l hs b c)(hg:zy l j=some e)(hn:hk hs j.toNat=none)(hl:∀ {x cs os},R x cs os→cs.length=n)(hS:Sep h lo (c++S)) : ∃ c' cs os,SlG R n ty v l ((j.toNat,cs)::hs) b c'∧R e cs os∧Sep h lo (c'++(os++S)):=by
 obtain ⟨g0,g1,g2⟩:=yn hg
 obtain ⟨cap,junk,css,oss,rfl,h2,h3,h4,h5,h6⟩:=H
 generalize j.toNat=i at *
 have hi:i<l.length:=(r9.1 g2).1
 have e1:css[i]? = some (css[i]'(by rw [h5.len1]; exact hi)):=s8 _
 have e2:oss[i]? = some (oss[i]'(by rw [h5.len2]; exact hi)):=s8 _
 generalize css[i]'(by rw [h5.len1]; exact hi)=cs at e1
 generalize oss[i]'(by rw [h5.len2]; exact hi)=os at e2
 have hr:=h5.at_ i e cs os g2 e1 e2
 unfold PH at hr
 rw [hn] at hr
 refine ⟨Blk1 b (css.flatten++junk) ty::(oss.set i []).flatten,cs,os,⟨cap,junk,css,oss.set i [],rfl,h2,h3,h4,⟨h5.len1,by rw [a1t]; exact h5.len2,h5.lens,fun u x cs2 os2 a1 a2 a3=>?_⟩,List.Perm.refl _⟩,hr,?_⟩
 ·unfold PH
  by_cases hu:i=u
  ·subst hu
   rw [qml]
   rw [a1i (by rw [h5.len2]; exact hi)] at a3
   rw [e1] at a2
   exact ⟨(Option.some.inj a2).symm,(Option.some.inj a3).symm⟩
  ·rw [qgl hu]
   rw [a1o hu] at a3
   exact h5.at_ u x cs2 os2 a1 a2 a3
 ·refine hS.perm ((h6.append_right S).trans ?_)
  rw [a2g,a2g]
  refine List.Perm.cons _ ?_
  refine ((qpl e2).append_right S).trans ?_
  rw [t7]
  exact kc
theorem SlG.cls {j:Int}{e0 e':α}{hs':List (Nat × List XV)}(H:SlG R n ty v l hs' b c)(he:hs'=(j.toNat,cs)::hs)(hg:zy l j=some e0)(hn:hk hs j.toNat=none)(hr:R e' cs os)(hS:Sep h lo (c++(os++S))) : ∃ c',SlG R n ty v (l.set j.toNat e') hs b c'∧Sep h lo (c'++S):=by
 subst he
 obtain ⟨g0,g1,g2⟩:=yn hg
 obtain ⟨cap,junk,css,oss,rfl,h2,h3,h4,h5,h6⟩:=H
 generalize j.toNat=i at *
 have hi:i<l.length:=(r9.1 g2).1
 have e1:css[i]? = some (css[i]'(by rw [h5.len1]; exact hi)):=s8 _
 have e2:oss[i]? = some (oss[i]'(by rw [h5.len2]; exact hi)):=s8 _
 generalize css[i]'(by rw [h5.len1]; exact hi)=cs1 at e1
 generalize oss[i]'(by rw [h5.len2]; exact hi)=os1 at e2
 have h0:=h5.at_ i e0 cs1 os1 g2 e1 e2
 unfold PH at h0
 rw [qml] at h0
 obtain ⟨rfl,rfl⟩:=h0
 refine ⟨c++os,⟨cap,junk,css,oss.set i os,by rw [a1t],by rw [a1t]; exact h2,by rw [a1t]; exact h3,h4,⟨by rw [a1t]; exact h5.len1,by rw [a1t,a1t]; exact h5.len2,h5.lens,fun u x cs2 os2 a1 a2 a3=>?_⟩,?_⟩,by rw [t7]; exact hS⟩
 ·unfold PH
  by_cases hu:i=u
  ·subst hu
   rw [hn]
   rw [a1i hi] at a1
   rw [a1i (by rw [h5.len2]; exact hi)] at a3
   rw [e1] at a2
   cases a1; cases a2; cases a3
   exact hr
  ·rw [a1o hu] at a1 a3
   have:=h5.at_ u x cs2 os2 a1 a2 a3
   unfold PH at this
   rw [qgl hu] at this
   exact this
 ·refine (h6.append_right os).trans ?_
  rw [a2g]
  refine List.Perm.cons _ ?_
  exact List.perm_append_comm.trans (qn5 e2).symm
theorem q19 {j:Int}{e0:α}(hg:zy l j=some e0) : l.set j.toNat e0=l:=by
 obtain ⟨g0,g1,g2⟩:=yn hg
 obtain ⟨hi,rfl⟩:=r9.1 g2
 exact List.set_getElem_self hi
theorem SlG.cls0 {j:Int}{e0:α}{hs':List (Nat × List XV)}(H:SlG R n ty v l hs' b c)(he:hs'=(j.toNat,cs)::hs)(hg:zy l j=some e0)(hn:hk hs j.toNat=none)(hr:R e0 cs os)(hS:Sep h lo (c++(os++S))) : ∃ c',SlG R n ty v l hs b c'∧Sep h lo (c'++S):=by
 have:=H.cls he hg hn hr hS
 rwa [q19 hg] at this
theorem zaw {css:List (List XV)}(hl:∀ cs∈css,cs.length=n) : ∀ {i:Nat} {cs:List XV},css[i]? = some cs→∃ A Z,css.flatten=A++(cs++Z)∧A.length=i*n∧∀ cs',(css.set i cs').flatten=A++(cs'++Z):=by
 induction css with
 | nil=>intro i cs h; simp at h
 | cons c0 css ih =>
  intro i cs hi
  cases i with
  | zero=>simp at hi; subst hi; exact ⟨[],css.flatten,by simp,by simp,fun cs'=>by simp⟩
  | succ i =>
   obtain ⟨A,Z,h1,h2,h3⟩:=ih (fun cs hcs=>hl cs (by simp [hcs])) (i:=i) (by simpa using hi)
   exact ⟨c0++A,Z,by rw [a0y,h1,t7],by rw [List.length_append,h2,hl c0 (by simp),Nat.succ_mul]; omega,fun cs'=>by rw [List.set_cons_succ,a0y,h3,t7]⟩
theorem SlG.blk {j:Int}{hs':List (Nat × List XV)}{e0:α}(H:SlG R n ty v l hs' b c)(he:hs'=(j.toNat,cs)::hs)(hg:zy l j=some e0)(hS:Sep h lo (c++S)) : ∃ A Z T,c.Perm ([Blk1 b (A++(cs++Z)) ty]++T)∧A.length=j.toNat*n∧z9 h b=some ⟨A++(cs++Z),ty,true⟩∧cs.length=n∧∀ cs',cs'.length=n→SlG R n ty v l ((j.toNat,cs')::hs) b ([Blk1 b (A++(cs'++Z)) ty]++T):=by
 subst he
 obtain ⟨g0,g1,g2⟩:=yn hg
 obtain ⟨cap,junk,css,oss,rfl,h2,h3,h4,h5,h6⟩:=H
 generalize j.toNat=i at *
 have hi:i<l.length:=(r9.1 g2).1
 have e1:css[i]? = some (css[i]'(by rw [h5.len1]; exact hi)):=s8 _
 have e2:oss[i]? = some (oss[i]'(by rw [h5.len2]; exact hi)):=s8 _
 generalize css[i]'(by rw [h5.len1]; exact hi)=cs1 at e1
 generalize oss[i]'(by rw [h5.len2]; exact hi)=os1 at e2
 have h0:=h5.at_ i e0 cs1 os1 g2 e1 e2
 unfold PH at h0
 rw [qml] at h0
 obtain ⟨rfl,rfl⟩:=h0
 obtain ⟨A,Z,f1,f2,f3⟩:=zaw h5.lens e1
 refine ⟨A,Z++junk,oss.flatten,?_,f2,?_,h5.lens _ (List.mem_of_getElem? e1),fun cs' hcs'=>⟨cap,junk,css.set i cs',oss,rfl,h2,h3,h4,⟨by rw [a1t]; exact h5.len1,h5.len2,fun c hc=>?_,fun u x cs2 os2 a1 a2 a3=>?_⟩,?_⟩⟩
 ·rw [f1] at h6; simpa using h6
 ·have hS2:Sep h lo ((Blk1 b (css.flatten++junk) ty::oss.flatten)++S):=hS.cperm h6
  have:=Sep.blk0 hS2
  rw [this,f1]; simp
 ·rcases List.mem_or_eq_of_mem_set hc with hc | rfl
  ·exact h5.lens c hc
  ·exact hcs'
 ·unfold PH
  by_cases hu:i=u
  ·subst hu
   rw [qml]
   rw [a1i (by rw [h5.len1]; exact hi)] at a2
   rw [e2] at a3
   exact ⟨(Option.some.inj a2).symm,(Option.some.inj a3).symm⟩
  ·rw [qgl hu]
   rw [a1o hu] at a2
   have:=h5.at_ u x cs2 os2 a1 a2 a3
   unfold PH at this
   rw [qgl hu] at this
   exact this
 ·rw [f3]; simp
theorem SlG.ld {j:Int}{hs':List (Nat × List XV)}{e0:α}(H:SlG R n ty v l hs' b c)(he:hs'=(j.toNat,cs)::hs)(hg:zy l j=some e0)(hS:Sep h lo (c++S)){o:Nat}(ho:o<cs.length) : xld h none (.ptr b (j.toNat*n+o))=cs[o]? := by
 obtain ⟨A,Z,T,_,h2,h3,_⟩:=H.blk he hg hS
 exact zb9 h3 h2 ho
theorem SlG.lds {j:Int}{hs':List (Nat × List XV)}{e0:α}(H:SlG R n ty v l hs' b c)(he:hs'=(j.toNat,cs)::hs)(hg:zy l j=some e0)(hS:Sep h lo (c++S)){o m:Nat}(ho:o+m≤cs.length) : xld h (some m) (.ptr b (j.toNat*n+o))=some (.agg ((cs.drop o).take m)):=by
 obtain ⟨A,Z,T,_,h2,h3,_⟩:=H.blk he hg hS
 exact zai h3 h2 ho
theorem qom {j:Int}{hs':List (Nat × List XV)}{e0:α}{o m:Nat}{u:XV}{cs':List XV}(H:SlG R n ty v l hs' b c)(he:hs'=(j.toNat,cs)::hs)(hg:zy l j=some e0)(hS:Sep h lo (c++S))(hw:∀ b,lo b→W b=true)(h1:u.cells.length=m)(h2:u.cells.all XV.one=true)(h3:o+m≤cs.length)(e:jv cs o u.cells=cs')
  (K:∀ c' h',SlG R n ty v l ((j.toNat,cs')::hs) b c'→Sep h' lo (c'++S)→Run E W (.ops r::k) Q (fr.put d .undef) h') : Put2 E W (pst W h m (.ptr b (j.toNat*n+o)) u) d r k Q fr:=by
 obtain ⟨A,Z,T,p,a1,a2,a3,a4⟩:=H.blk he hg hS
 have hS1:Sep h lo ([Blk1 b (A++(cs++Z)) ty]++(T++S)):=by
  have:=hS.cperm p
  rwa [t7] at this
 have hl':cs'.length=n:=by
  rw [←e,← a3]
  unfold jv
  simp
  omega
 exact q0z hS1 hw a1 h1 h2 h3 e (fun h' hS'=>K _ h' (a4 cs' hl') (by rw [t7]; exact hS'))
theorem qsl {hst:Nat}{ld wr:List Nat}{j:Int}{hs':List (Nat × List XV)}{e0:α}{o m:Nat}{u:XV}{cs':List XV}(H:SlG R n ty v l hs' b c)(he:hs'=(j.toNat,cs)::hs)(hg:zy l j=some e0)(hS:Sep h lo (c++S))(hw:∀ b,lo b→W b=true)(h1:u.cells.length=m)(h2:u.cells.all XV.one=true)(h3:o+m≤cs.length)(e:jv cs o u.cells=cs')
  (K:∀ c' h',SlG R n ty v l ((j.toNat,cs')::hs) b c'→Sep h' lo (c'++S)→Run E W (.draw hst r ld wr::k) Q (fr.put d .undef) h') : Put2D E W (pst W h m (.ptr b (j.toNat*n+o)) u) d hst r ld wr k Q fr:=by
 refine qa0 (A:=fun v' h'=>v' = .undef∧∃ c',SlG R n ty v l ((j.toNat,cs')::hs) b c'∧Sep h' lo (c'++S)) ?_ (fun v' h' ⟨e1,c',a,s⟩=>by rw [e1]; exact K c' h' a s)
 exact qom H he hg hS hw h1 h2 h3 e (fun c' h' a s=>by rw [qa,qm]; exact ⟨fr0,c',a,s⟩)
theorem qg8 {hst:Nat}{ld wr:List Nat}(H:SlN R n ty v l c){ty2:TypeId}(H2:SlN R n ty2 x l2 c2)(hS:Sep h lo (c++(c2++S)))(hw:∀ b,lo b→W b=true)(hl:∀ {x cs os},R x cs os→cs.length=n)(h1:∀ {x cs os},R x cs os→cs.all XV.one=true)(hF:ju bytes l l2=some l3)
  (K:∀ v' c' h',SlN R n ty v' l3 c'→Sep h' lo (c'++S)→Run E W (.draw hst r ld wr::k) Q (fr.put d v') h') : Put2D E W (xd W h ty n bytes v x) d hst r ld wr k Q fr:=by
 refine qa0 (A:=fun v' h'=>∃ c',SlN R n ty v' l3 c'∧Sep h' lo (c'++S)) ?_ (fun v' h' ⟨c',a,s⟩=>K v' c' h' a s)
 exact qa8 H H2 hS hw hl h1 hF (fun v' c' h' a s=>by rw [qa,qm,fr0]; exact ⟨c',a,s⟩)
theorem qem {hst:Nat}{ld wr:List Nat}{z:List XV}{ps:List (Nat × Nat × XV)}(hS:Sep h lo (os++S))(e1:fill z ps=some cs)(hr:R e cs os)(hl:cs.length=n)(K:∀ v c h',SlN R n ty v [e] c→Sep h' lo (c++S)→Run E W (.draw hst r ld wr::k) Q (fr.put d v) h') : Put2D E W (xe h ty 1 z ps) d hst r ld wr k Q fr:=by
 refine qa0 (A:=fun v' h'=>∃ c',SlN R n ty v' [e] c'∧Sep h' lo (c'++S)) ?_ (fun v' h' ⟨c',a,s⟩=>K v' c' h' a s)
 exact ux hS e1 hr hl (fun v' c' h' a s=>by rw [qa,qm,fr0]; exact ⟨c',a,s⟩)
theorem qjp {hst:Nat}{ld wr:List Nat}{f:α→List XV}{m:Int}{z:α}(hS:Sep h lo S)(hl:mkN bytes m z=some l)(hz:(f z).length=n)
  (K:∀ v c h',SlF f n ty v l c→Sep h' lo (c++S)→Run E W (.draw hst r ld wr::k) Q (fr.put d v) h') : Put2D E W (qk1 W h ty n bytes (f z) (.int .i64 m) (.int .i64 m)) d hst r ld wr k Q fr:=by
 refine qa0 (A:=fun v' h'=>∃ c',SlF f n ty v' l c'∧Sep h' lo (c'++S)) ?_ (fun v' h' ⟨c',a,s⟩=>K v' c' h' a s)
 exact qia hS hl hz (fun v' c' h' a s=>by rw [qa,qm,fr0]; exact ⟨c',a,s⟩)
theorem qx2 {hst:Nat}{ld wr:List Nat}{ty:Nat}{zero:List XV} : Run E W (.draw hst (⟨d,.new ty zero,none,1⟩::r) ld wr::k) Q fr h=Put2D E W (qna W h ty zero) d hst r ld wr k Q fr:=qgr rfl
theorem zda {hst:Nat}{ld wr:List Nat}{ty:Nat}{zero:List XV} : Run E W (.draw hst (⟨d,.new ty zero,none,4⟩::r) ld wr::k) Q fr h=Put2D E W (qna W h ty zero) d hst r ld wr k Q fr:=xl
theorem qor {hst:Nat}{ld wr:List Nat}{ty esz bytes:Nat}{zero:List XV}{x y:XO} : Run E W (.draw hst (⟨d,.mkS ty esz bytes zero x y,none,4⟩::r) ld wr::k) Q fr h=Put2D E W (qk1 W h ty esz bytes zero (x.ev fr) (y.ev fr)) d hst r ld wr k Q fr:=xl
theorem qmq {hst:Nat}{ld wr:List Nat}{z:List XV}(hS:Sep h lo S)(e1:fill z []=some [])(K:∀ v c h',SlN R n ty v [] c→Sep h' lo (c++S)→Run E W (.draw hst r ld wr::k) Q (fr.put d v) h') : Put2D E W (xe h ty 0 z []) d hst r ld wr k Q fr:=by
 refine qa0 (A:=fun v' h'=>∃ c',SlN R n ty v' [] c'∧Sep h' lo (c'++S)) ?_ (fun v' h' ⟨c',a,s⟩=>K v' c' h' a s)
 exact qoc hS e1 (fun v' c' h' a s=>by rw [qa,qm,fr0]; exact ⟨c',a,s⟩)
theorem qji {hst:Nat}{ld wr:List Nat}{z:List XV}(hS:Sep h lo S)(H:∀ b h',Sep h' lo ([Blk1 b z ty]++S)→Run E W (.draw hst r ld wr::k) Q (fr.put d (.ptr b 0)) h') : Put2D E W (qna W h ty z) d hst r ld wr k Q fr:=by
 refine qa0 (A:=fun v' h'=>∃ b,v' = .ptr b 0∧Sep h' lo ([Blk1 b z ty]++S)) ?_ (fun v' h' ⟨b,e,s⟩=>by rw [e]; exact H b h' s)
 exact z6 hS (fun b h' s=>by rw [qa,qm,fr0]; exact ⟨b,rfl,s⟩)
theorem SlF.one {f:α→List XV}(H:SlF f n ty v l c) : XV.one v=true:=by
 rcases H with ⟨rfl,rfl,rfl⟩ | ⟨b,cap,junk,rfl,hcp,hj,rfl,hjf⟩ <;> rfl
theorem SlN.one (H:SlN R n ty v l c) : XV.one v=true:=by
 rcases H with ⟨rfl,rfl,rfl⟩ | ⟨b,cap,junk,css,oss,rfl,_⟩ <;> rfl
variable {c0 c1 c3 c4 c5:List Obj}
variable {c6 c7 c8 c9 c10 c11 c12 c13 c14 c15:List Obj}
theorem Sep.no1 (H:Sep h lo (c0++(c1++S))) : Sep h lo (c0++(c1++S)):=H
theorem Sep.no2 (H:Sep h lo (c0++((c1++c2)++S))) : Sep h lo (c0++(c1++(c2++S))):=by simpa only [t7] using H
theorem Sep.ni2 (H:Sep h lo (c0++(c1++(c2++S)))) : Sep h lo (c0++((c1++c2)++S)):=by simpa only [t7] using H
theorem Sep.bi1 (H:Sep h lo (c1++S)) : Sep h lo (c1++S):=H
theorem Sep.bi2 (H:Sep h lo (c1++(c2++S))) : Sep h lo ((c1++c2)++S):=by simpa only [t7] using H
theorem qx0 {g hst:Nat}{ld wr:List Nat}{caps args as':List XV}{R:XV→Heap→Prop}(hm:E.mode g=2)(hS:Sep h lo S)(hs:args.mapM (snap h E.sz 9)=some as')(hc:Ret E (fun b=>decide (h.length≤b)) g (as'++caps) h R)
  (hR:∀ v h',R v h'→∃ T,v.free=true∧Sep h' (geL h.length) T∧(∀ o∈T,o.pf)∧(∀ h2,Sep h2 lo (T++S)→Run E W (.draw hst r ld wr::k) Q (fr.put d v) h2)) : CallQ E W (.fn g caps) args (qhw E (.fn g caps) args) d hst r ld wr k Q fr h:=by
 unfold CallQ
 have e:qhw E (.fn g caps) args=[]:=by simp [qhw,hm]
 rw [e]
 refine ⟨rfl,?_⟩
 unfold CallW
 dsimp only
 rw [hm,hs]
 refine hc.keep.mono ?_
 rintro v h' ⟨h1,h2⟩
 obtain ⟨T,a1,a2,a3,a4⟩:=hR v h' h1
 exact ⟨a1,a4 _ (hS.purge a2 a3 (fun b hb=>h2.same b hb (by simpa using hb)))⟩
def qlo (ms:List Nat)(n:Nat) : Nat→Prop:=fun b=>b∈ms∨n≤b
theorem zd0 {hst:Nat}{ms:List Nat}{C:List Obj}(hW:∀ b,lo b→W b=true)(hS:Sep h lo (C++S))(hC:C.flatMap Obj.fp=ms)(h0:hst≤h.length) : ∀ b,qlo ms h.length b→w7 W hst ms b=true:=by
 intro b hb
 have hl:lo b:=by
  rcases hb with hb | hb
  ·exact (hS.ran b (by rw [a1z,a0w,hC]; exact .inl hb)).1
  ·exact hS.base b hb
 simp only [w7,hW b hl,Bool.true_and,Bool.or_eq_true,decide_eq_true_eq,List.contains_iff_mem]
 rcases hb with hb | hb
 ·exact .inr hb
 ·exact .inl (by omega)
theorem zd1 {ms:List Nat}{C:List Obj}(hS:Sep h lo (C++S))(hC:C.flatMap Obj.fp=ms) : Sep h (qlo ms h.length) (C++[]):=by
 rw [a2y]
 have hn:=hS.nodup
 rw [a1z,a2p] at hn
 exact ⟨fun b hb => .inr hb,hn.1,fun b hb=>⟨.inl (hC▸hb),(hS.ran b (by rw [a1z]; exact a2s _ hb)).2⟩,fun o ho=>hS.ok o (a2s _ ho)⟩
theorem q2d {hst:Nat}{ms:List Nat}{C C':List Obj}{h':Heap}(hS:Sep h lo (C++S))(hC:C.flatMap Obj.fp=ms)(hlt:∀ b∈S.flatMap Obj.fp,b<hst)(hk:XKeep (w7 W hst ms) h h')(H:Sep h' (qlo ms h.length) (C'++[])) : Sep h' lo (C'++S):=by
 rw [a2y] at H
 have hn:=hS.nodup
 rw [a1z,a2p] at hn
 have hdj:∀ b∈S.flatMap Obj.fp,b ∉ ms:=fun b hb hm=>hn.2.2 b (by rw [hC]; exact hm) b hb rfl
 have hSr:∀ b∈S.flatMap Obj.fp,lo b∧b<h.length:=fun b hb=>hS.ran b (by rw [a1z]; exact List.mem_append_right _ hb)
 refine ⟨fun b hb=>hS.base b (Nat.le_trans hk.len hb),?_,fun b hb=>?_,fun o ho=>?_⟩
 ·rw [a1z,a2p]
  refine ⟨H.nodup,hn.2.1,fun a ha b hb e=>?_⟩
  subst e
  rcases (H.ran a ha).1 with h1 | h1
  ·exact hdj a hb h1
  ·have:=(hSr a hb).2; omega
 ·rw [a1z,a0w] at hb
  rcases hb with hb | hb
  ·refine ⟨?_,(H.ran b hb).2⟩
   rcases (H.ran b hb).1 with h1 | h1
   ·exact (hS.ran b (by rw [a1z,a0w,hC]; exact .inl h1)).1
   ·exact hS.base b h1
  ·exact ⟨(hSr b hb).1,Nat.lt_of_lt_of_le (hSr b hb).2 hk.len⟩
 ·rcases a0w.1 ho with ho | ho
  ·exact H.ok o ho
  ·refine o.loc h _ (fun b hb=>?_) (hS.ok o (List.mem_append_right _ ho))
   have hb':b∈S.flatMap Obj.fp:=List.mem_flatMap.2 ⟨o,ho,hb⟩
   refine hk.same b (hSr b hb').2 ?_
   have h1:=hlt b hb'
   have h2:=hdj b hb'
   simp only [w7,Bool.and_eq_false_iff,Bool.or_eq_false_iff,decide_eq_false_iff_not]
   exact .inr ⟨by omega,by simpa using h2⟩
theorem zcy {g hst:Nat}{ld wr ms:List Nat}{caps args:List XV}{C:List Obj}{R:XV→Heap→Prop}(hm:E.mode g=0)(hms:(args++caps).flatMap qok=ms)(hd:yg ms ld=true)(hW:∀ b,lo b→W b=true)(hS:Sep h lo (C++S))(hC:C.flatMap Obj.fp=ms)(h0:hst≤h.length)(hlt:∀ b∈S.flatMap Obj.fp,b<hst)
  (hc:(∀ b,qlo ms h.length b→w7 W hst ms b=true)→Sep h (qlo ms h.length) (C++[])→Ret E (w7 W hst ms) g (args++caps) h R)
  (hR:∀ v h',R v h'→(∀ C',Sep h' (qlo ms h.length) (C'++[])→Sep h' lo (C'++S))→Run E W (.draw hst r ld (ms++wr)::k) Q (fr.put d v) h') : CallQ E W (.fn g caps) args (qhw E (.fn g caps) args) d hst r ld wr k Q fr h:=by
 have e:qhw E (.fn g caps) args=ms:=by simp [qhw,hm,← hms]
 rw [e]
 refine ⟨hd,?_⟩
 unfold CallW
 dsimp only
 rw [hm]
 refine (hc (zd0 hW hS hC h0) (zd1 hS hC)).keep.mono ?_
 rintro v h' ⟨h1,h2⟩
 exact hR v h' h1 (fun C' H=>q2d hS hC hlt h2 H)
theorem qnc {f:α→List XV}{hst m:Nat}{ld wr:List Nat}{z:List XV}{ps:List (Nat × Nat × XV)}(l:List α)(hS:Sep h lo S)(e:fill z ps=some (l.map f).flatten)(hm:m=l.length)(K:∀ v c h',SlF f n ty v l c→Sep h' lo (c++S)→(h.length≤h'.length∧∀ b∈c.flatMap Obj.fp,h.length≤b)→Run E W (.draw hst r ld wr::k) Q (fr.put d v) h') : Put2D E W (xe h ty m z ps) d hst r ld wr k Q fr:=by
 subst hm
 have e2:xe h ty l.length z ps=some (.row h.length 0 l.length l.length,h++[⟨(l.map f).flatten,ty,true⟩]):=by simp [xe,e]
 rw [e2]
 exact K _ [Blk1 h.length (l.map f).flatten ty] _ SlF.row0 (hS.new _ ty) ⟨by simp,by simp [Blk1]⟩
theorem jp (h:XV.one v=true) : v.cells=[v]:=by cases v <;> first | rfl | (cases h; done)
theorem qy {m o:Nat}{u:XV}{us cs cs':List XV}(hu:u.cells=us)(hS:Sep h lo ([Blk1 b cs ty]++S))(hw:∀ b,lo b→W b=true)(h1:us.length=m)(h2:us.all XV.one=true)(h3:o+m≤cs.length)(e:jv cs o us=cs')
  (H:∀ h',Sep h' lo ([Blk1 b cs' ty]++S)→Run E W (.ops r::k) Q (fr.put d .undef) h') : Put2 E W (pst W h m (.ptr b o) u) d r k Q fr:=by
 subst hu; exact qoz hS hw h1 h2 h3 e H
theorem ua {hs:Nat}{ld wr:List Nat}{m o:Nat}{u:XV}{us cs cs':List XV}(hu:u.cells=us)(hS:Sep h lo ([Blk1 b cs ty]++S))(hw:∀ b,lo b→W b=true)(h1:us.length=m)(h2:us.all XV.one=true)(h3:o+m≤cs.length)(e:jv cs o us=cs')
  (H:∀ h',Sep h' lo ([Blk1 b cs' ty]++S)→Run E W (.draw hs r ld wr::k) Q (fr.put d .undef) h') : Put2D E W (pst W h m (.ptr b o) u) d hs r ld wr k Q fr:=by
 subst hu; exact qu0 hS hw h1 h2 h3 e H
theorem uh {j:Int}{hs':List (Nat × List XV)}{e0:α}{o m:Nat}{u:XV}{us cs':List XV}(hu:u.cells=us)(H:SlG R n ty v l hs' b c)(he:hs'=(j.toNat,cs)::hs)(hg:zy l j=some e0)(hS:Sep h lo (c++S))(hw:∀ b,lo b→W b=true)(h1:us.length=m)(h2:us.all XV.one=true)(h3:o+m≤cs.length)(e:jv cs o us=cs')
  (K:∀ c' h',SlG R n ty v l ((j.toNat,cs')::hs) b c'→Sep h' lo (c'++S)→Run E W (.ops r::k) Q (fr.put d .undef) h') : Put2 E W (pst W h m (.ptr b (j.toNat*n+o)) u) d r k Q fr:=by
 subst hu; exact qom H he hg hS hw h1 h2 h3 e K
theorem qd3 {hst:Nat}{ld wr:List Nat}{j:Int}{hs':List (Nat × List XV)}{e0:α}{o m:Nat}{u:XV}{us cs':List XV}(hu:u.cells=us)(H:SlG R n ty v l hs' b c)(he:hs'=(j.toNat,cs)::hs)(hg:zy l j=some e0)(hS:Sep h lo (c++S))(hw:∀ b,lo b→W b=true)(h1:us.length=m)(h2:us.all XV.one=true)(h3:o+m≤cs.length)(e:jv cs o us=cs')
  (K:∀ c' h',SlG R n ty v l ((j.toNat,cs')::hs) b c'→Sep h' lo (c'++S)→Run E W (.draw hst r ld wr::k) Q (fr.put d .undef) h') : Put2D E W (pst W h m (.ptr b (j.toNat*n+o)) u) d hst r ld wr k Q fr:=by
 subst hu; exact qsl H he hg hS hw h1 h2 h3 e K
theorem qmp {hst:Nat}{ld:List Nat}{m:Option Nat}{o:Nat}(hb:b<hst)(K:Put1D E W (xld h m (.ptr b o)) d hst r (b::ld) [] k Q fr h) : LdD E W m (.ptr b o) d hst r ld [] k Q fr h:=⟨⟨hb,rfl⟩,K⟩
theorem zaj {hst:Nat}{ld wr:List Nat}{m:Option Nat}{o:Nat}(hb:b<hst)(hw:wr.contains b=false)(K:Put1D E W (xld h m (.ptr b o)) d hst r (b::ld) wr k Q fr h) : LdD E W m (.ptr b o) d hst r ld wr k Q fr h:=⟨⟨hb,hw⟩,K⟩
theorem nw0:([] : List Nat).contains b=false:=rfl
theorem nw1 {u:XV}{wr:List Nat}(h1:∀ z∈xb u,z≠b)(h2:wr.contains b=false) : (xb u++wr).contains b=false:=by
 simp only [List.contains_eq_mem,decide_eq_false_iff_not,a0w,not_or] at h2 ⊢
 exact ⟨fun hm=>h1 b hm rfl,h2⟩
theorem nwq {u:XV}{b':Nat}(h1:∀ z∈xb u,z≠b') : ∀ z∈xb u,z≠b':=h1
theorem Sep.ltk {cs:List XV}(H:Sep h lo ([Blk1 b cs ty]++S)) : b<h.length:=Sep.lt H
theorem SlF.ltk {f:α→List XV}(H:SlF f n ty v l c)(hb:SlB v b)(hS:Sep h lo (c++S)) : b<h.length:=by
 obtain ⟨len,cap,rfl⟩:=hb
 rcases H with ⟨h0,_,_⟩ | ⟨b',cap',junk,hv,hcp,hj,rfl,hjf⟩
 ·cases h0
 ·cases hv; exact Sep.ltk hS
theorem SlN.ltk (H:SlN R n ty v l c)(hb:SlB v b)(hS:Sep h lo (c++S)) : b<h.length:=by
 obtain ⟨len,cap,rfl⟩:=hb
 rcases H with ⟨h0,_,_⟩ | ⟨b',cap',junk,css,oss,hv,h2,h3,h4,h5,h6⟩
 ·cases h0
 ·cases hv; exact Sep.lt (hS.cperm h6)
theorem SlG.ltk (H:SlG R n ty v l hs b c)(hS:Sep h lo (c++S)) : b<h.length:=by
 obtain ⟨cap,junk,css,oss,rfl,h2,h3,h4,h5,h6⟩:=H
 exact Sep.lt (hS.cperm h6)
theorem kz {a:Nat}(e:fr a=v) : qec fr h (.t a)=some v:=by subst e; rfl
theorem jr {a bb oo:Nat}{m:Option Nat}(h1:fr a = .ptr bb oo)(h2:xld h m (.ptr bb oo)=some v) : qec fr h (.cell a m)=some v:=by
 cases m with
 | none=>simp only [qec,h1]; exact h2
 | some m =>
  simp only [qec,h1]
  rw [←h2]
  simp only [xld]
  cases kw h bb oo m <;> rfl
theorem jl {rs:List XRes}{v1 v2:XV}{vs:List XV}{P:XV→Heap→Prop}(hm:rs.mapM (qec fr h)=some (v1::v2::vs))(H:P (.tup (v1::v2::vs)) h) : EndW rs P .ret fr h:=by
 unfold EndW qdu
 rw [hm]
 exact H
theorem qek {cs:List XV} : fill cs []=some cs:=rfl
theorem qel {cs us vs rs:List XV}{o m:Nat}{u:XV}{ps:List (Nat × Nat × XV)}(hu:u.cells=us)(h1:us.length=m)(h3:o+m≤cs.length)(h2:us.all XV.one=true)(e:jv cs o us=vs)(hr:fill vs ps=some rs) : fill cs ((o,m,u)::ps)=some rs:=by
 subst hu; subst e
 unfold fill
 split
 ·exact hr
 ·rename_i hn; exact absurd ⟨h1,h3,h2⟩ hn
theorem qkt {cs rs:List XV}{ps:List (Nat × Nat × XV)}(h:fill cs ps=some rs) : qhx cs ps=some (.agg rs):=by
 unfold qhx; rw [h]; rfl
theorem quc {W:Nat→Bool}{hst b:Nat} : w7 W hst [b] b=W b:=by simp [w7]
theorem qrq {W:Nat→Bool}{hst:Nat}{ty esz bytes:Nat} : xd (w7 W hst (xb v)) h ty esz bytes v x=xd W h ty esz bytes v x:=by
 unfold xd
 cases v <;> simp only [ze,XO.ev,xb,setCells,quc]
end
end Go.Proofs.Ytanblnjomhgphaa.X
