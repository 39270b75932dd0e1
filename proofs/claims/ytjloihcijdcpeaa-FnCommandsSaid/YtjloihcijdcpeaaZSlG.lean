/- Rows with elements that stand open. -/
import Derived.Test.YtjloihcijdcpeaaZSS
open Bool renaming and_eq_false_iff→a1m,or_eq_false_iff→t6,or_eq_true→a0q
open List renaming append_assoc→f6,append_nil→a2i,cons_append→a1p,flatMap_append→i9,flatten_cons→t5,getElem?_eq_getElem→f7,getElem?_eq_some_iff→d9,getElem?_set_ne→a0n,getElem?_set_self→a0c,length_set→a0s,map→a2j,mem_append_left→a0f,mem_append_right→a0p,mem_append→o9,mem_flatMap→a17,nodup_append→t8
open Nat renaming le_trans→a06,lt_of_lt_of_le→s5
set_option linter.unusedVariables false
set_option linter.unusedSimpArgs false
namespace Go.Proofs.Ytjloihcijdcpeaa.X
open Go
theorem B0:(∀ (fr:Fr) (d:Nat) (v:XV) (t:Nat),(fr.put (some d) v) t=if t=d then v else fr t)∧(∀ (fr:Fr) (v:XV),fr.put none v=fr)∧(∀ (fr:Fr) (n:Nat),XO.ev fr (.t n)=fr n)∧(∀ (fr:Fr) (v:XV),XO.ev fr (.c v)=v) ∧
  (∀ (f:XO→XV) (a:XO) (l:List XO),a2j f (a::l)=f a::a2j f l)∧(∀ (f:XO→XV),a2j f []=[])∧(∀ (f:Nat × Nat × XO→Nat × Nat × XV) (a:Nat × Nat × XO) (l:List (Nat × Nat × XO)),a2j f (a::l)=f a::a2j f l)∧(∀ (f:Nat × Nat × XO→Nat × Nat × XV),a2j f []=[]) :=
 ⟨fun _ _ _ _=>rfl,fun _ _=>rfl,fun _ _=>rfl,fun _ _=>rfl,fun _ _ _=>rfl,fun _=>rfl,fun _ _ _=>rfl,fun _=>rfl⟩
def hk:List (Nat × List XV)→Nat→Option (List XV)
 | [],_=>none
 | (j,cs)::r,i=>if j=i then some cs else hk r i
section
variable {α:Type}{R:Rep α}{f:α→List XV}{n:Nat}{sz:TypeId→Nat}{l l2:List α}{css css2:List (List XV)}{oss oss2:List (List Obj)}{hs:List (Nat × List XV)}
def PH (R:Rep α)(hs:List (Nat × List XV))(i:Nat)(x:α)(cs:List XV)(os:List Obj) : Prop :=
 match hk hs i with
 | some cs'=>cs=cs'∧os=[]
 | none=>R x cs os
structure AllG (R:Rep α) (n:Nat) (hs:List (Nat × List XV)) (l:List α) (css:List (List XV)) (oss:List (List Obj)) : Prop where
 len1:css.length=l.length
 len2:oss.length=l.length
 lens:∀ cs∈css,cs.length=n
 at_:∀ (i:Nat) x cs os,l[i]? = some x→css[i]? = some cs→oss[i]? = some os→PH R hs i x cs os
theorem All3.toG (H:All3 R l css oss)(hl:∀ {x cs os},R x cs os→cs.length=n) : AllG R n [] l css oss:=by
 refine ⟨H.len.1,H.len.2,H.lens hl,?_⟩
 induction H with
 | nil=>intro i x cs os h; simp at h
 | cons h H ih =>
  intro i x cs os h1 h2 h3
  cases i with
  | zero=>simp at h1 h2 h3; subst h1; subst h2; subst h3; exact h
  | succ i=>exact ih i x cs os (by simpa using h1) (by simpa using h2) (by simpa using h3)
theorem AllG.to3:∀ {l:List α} {css oss},AllG R n [] l css oss→All3 R l css oss:=by
 intro l
 induction l with
 | nil =>
  intro css oss H
  have h1:=H.len1
  have h2:=H.len2
  cases css with
  | nil=>cases oss with
   | nil=>exact .nil
   | cons=>simp at h2
  | cons=>simp at h1
 | cons x l ih =>
  intro css oss H
  have h1:=H.len1
  have h2:=H.len2
  cases css with
  | nil=>simp at h1
  | cons cs css=>cases oss with
   | nil=>simp at h2
   | cons os oss =>
    refine .cons (H.at_ 0 x cs os rfl rfl rfl) (ih ⟨by simpa using h1,by simpa using h2,fun c hc=>H.lens c (by simp [hc]),fun i x cs os a1 a2 a3=>H.at_ (i+1) x cs os (by simpa using a1) (by simpa using a2) (by simpa using a3)⟩)
theorem qm2:∀ {oss:List (List Obj)} {os:List Obj} {i:Nat},oss[i]? = some os→(oss.flatten).Perm (os++(oss.set i []).flatten):=by
 intro oss
 induction oss with
 | nil=>intro os i h; simp at h
 | cons o oss ih =>
  intro os i hi
  cases i with
  | zero=>simp at hi; subst hi; simp
  | succ i =>
   rw [t5,List.set_cons_succ,t5]
   exact ((ih (i:=i) (by simpa using hi)).append_left o).trans jr
theorem qlz:∀ {oss:List (List Obj)} {os:List Obj} {i:Nat},oss[i]? = some []→((oss.set i os).flatten).Perm (os++oss.flatten):=by
 intro oss
 induction oss with
 | nil=>intro os i h; simp at h
 | cons o oss ih =>
  intro os i hi
  cases i with
  | zero=>simp at hi; subst hi; simp
  | succ i =>
   rw [List.set_cons_succ,t5,t5]
   exact ((ih (i:=i) (by simpa using hi)).append_left o).trans jr
theorem AllG.perm {hs2:List (Nat × List XV)}(H:AllG R n hs l css oss)(he:∀ i,hk hs i=hk hs2 i) : AllG R n hs2 l css oss:=⟨H.len1,H.len2,H.lens,fun i x cs os a b c=>by
 have:=H.at_ i x cs os a b c
 unfold PH at this ⊢
 rw [←he i]
 exact this⟩
end
section
variable {E:Env}{W:Nat→Bool}{k:List It}{Q:QE}{fr:Fr}{h:Heap}{lo:Nat→Prop}{n0:Nat}{S:List Obj}{d:Option Nat}{r:List XOper}{b:Nat}{ty:TypeId}{α:Type}{R:Rep α}{f:α→List XV}{l l2 l3:List α}{sz:TypeId→Nat}{n bytes:Nat}{v x:XV}{c c2:List Obj}{i:Nat}{cs:List XV}{os rest:List Obj}{e:α}{hs:List (Nat × List XV)}

def SlG (R:Rep α)(n:Nat)(ty:TypeId)(v:XV)(l:List α)(hs:List (Nat × List XV))(b:Nat)(c:List Obj) : Prop :=
 ∃ (cap:Nat) (junk:List XV) (css:List (List XV)) (oss:List (List Obj)),v = .row b 0 l.length cap∧l.length≤cap∧junk.length=(cap - l.length)*n∧junk.all XV.free1=true∧AllG R n hs l css oss∧c.Perm (Blk1 b (css.flatten++junk) ty::oss.flatten)
theorem SlN.toG (H:SlN R n ty v l c)(hb:SlB v b)(hl:∀ {x cs os},R x cs os→cs.length=n) : SlG R n ty v l [] b c:=by
 obtain ⟨len,cap,rfl⟩:=hb
 rcases H with ⟨h0,_,_⟩ | ⟨b',cap',junk,css,oss,hv,h2,h3,h4,h5,h6⟩
 ·cases h0
 ·cases hv
  exact ⟨cap,junk,css,oss,rfl,h2,h3,h4,h5.toG hl,h6⟩
theorem SlG.toN (H:SlG R n ty v l [] b c) : SlN R n ty v l c:=by
 obtain ⟨cap,junk,css,oss,rfl,h2,h3,h4,h5,h6⟩:=H
 exact .inr ⟨b,cap,junk,css,oss,rfl,h2,h3,h4,h5.to3,h6⟩
theorem SlG.swap {j:Nat}{cs2:List XV}(H:SlG R n ty v l ((i,cs)::(j,cs2)::hs) b c)(hne:i≠j) : SlG R n ty v l ((j,cs2)::(i,cs)::hs) b c:=by
 obtain ⟨cap,junk,css,oss,rfl,h2,h3,h4,h5,h6⟩:=H
 refine ⟨cap,junk,css,oss,rfl,h2,h3,h4,h5.perm (fun u=>?_),h6⟩
 unfold hk
 by_cases h1:i=u
 ·subst h1
  rw [if_pos rfl,if_neg (Ne.symm hne)]
  unfold hk
  rw [if_pos rfl]
 ·rw [if_neg h1]
  by_cases h2:j=u
  ·subst h2
   rw [if_pos rfl]
   unfold hk
   rw [if_pos rfl]
  ·rw [if_neg h2]
   unfold hk
   rw [if_neg h2,if_neg h1]
theorem SlG.plen (H:SlG R n ty v l hs b c) : qg7 v=some (.int .i64 (List.length l:Int)):=by
 obtain ⟨cap,junk,css,oss,rfl,_⟩:=H
 rfl
theorem SlG.ia (H:SlG R n ty v l hs b c){kk:IntKind}{j:Int}{x:α}(hg:jb l j=some x) : xia n v (.int kk j)=some (.ptr b (j.toNat*n)):=by
 obtain ⟨g0,g1,g2⟩:=we hg
 obtain ⟨cap,junk,css,oss,rfl,_⟩:=H
 exact qif g0 g1
theorem ql8 {i:Nat}{cs:List XV}{hs:List (Nat × List XV)} : hk ((i,cs)::hs) i=some cs:=by
 unfold hk; rw [if_pos rfl]
theorem ql3 {i j:Nat}{cs:List XV}{hs:List (Nat × List XV)}(h:i≠j) : hk ((i,cs)::hs) j=hk hs j:=by
 conv=>lhs; unfold hk
 rw [if_neg h]
theorem jl {i:Nat} : hk [] i=none:=rfl
theorem SlG.one (H:SlG R n ty v l hs b c) : XV.one v=true:=by
 obtain ⟨cap,junk,css,oss,rfl,_⟩:=H
 rfl
theorem SlG.opn {j:Int}(H:SlG R n ty v l hs b c)(hg:jb l j=some e)(hn:hk hs j.toNat=none)(hl:∀ {x cs os},R x cs os→cs.length=n)(hS:Sep h lo (c++S)) : ∃ c' cs os,SlG R n ty v l ((j.toNat,cs)::hs) b c'∧R e cs os∧Sep h lo (c'++(os++S)):=by
 obtain ⟨g0,g1,g2⟩:=we hg
 obtain ⟨cap,junk,css,oss,rfl,h2,h3,h4,h5,h6⟩:=H
 generalize j.toNat=i at *
 have hi:i<l.length:=(d9.1 g2).1
 have e1:css[i]? = some (css[i]'(by rw [h5.len1]; exact hi)):=f7 _
 have e2:oss[i]? = some (oss[i]'(by rw [h5.len2]; exact hi)):=f7 _
 generalize css[i]'(by rw [h5.len1]; exact hi)=cs at e1
 generalize oss[i]'(by rw [h5.len2]; exact hi)=os at e2
 have hr:=h5.at_ i e cs os g2 e1 e2
 unfold PH at hr
 rw [hn] at hr
 refine ⟨Blk1 b (css.flatten++junk) ty::(oss.set i []).flatten,cs,os,⟨cap,junk,css,oss.set i [],rfl,h2,h3,h4,⟨h5.len1,by rw [a0s]; exact h5.len2,h5.lens,fun u x cs2 os2 a1 a2 a3=>?_⟩,List.Perm.refl _⟩,hr,?_⟩
 ·unfold PH
  by_cases hu:i=u
  ·subst hu
   rw [ql8]
   rw [a0c (by rw [h5.len2]; exact hi)] at a3
   rw [e1] at a2
   exact ⟨(Option.some.inj a2).symm,(Option.some.inj a3).symm⟩
  ·rw [ql3 hu]
   rw [a0n hu] at a3
   exact h5.at_ u x cs2 os2 a1 a2 a3
 ·refine hS.perm ((h6.append_right S).trans ?_)
  rw [a1p,a1p]
  refine List.Perm.cons _ ?_
  refine ((qm2 e2).append_right S).trans ?_
  rw [f6]
  exact jr
theorem SlG.cls {j:Int}{e0 e':α}{hs':List (Nat × List XV)}(H:SlG R n ty v l hs' b c)(he:hs'=(j.toNat,cs)::hs)(hg:jb l j=some e0)(hn:hk hs j.toNat=none)(hr:R e' cs os)(hS:Sep h lo (c++(os++S))) : ∃ c',SlG R n ty v (l.set j.toNat e') hs b c'∧Sep h lo (c'++S):=by
 subst he
 obtain ⟨g0,g1,g2⟩:=we hg
 obtain ⟨cap,junk,css,oss,rfl,h2,h3,h4,h5,h6⟩:=H
 generalize j.toNat=i at *
 have hi:i<l.length:=(d9.1 g2).1
 have e1:css[i]? = some (css[i]'(by rw [h5.len1]; exact hi)):=f7 _
 have e2:oss[i]? = some (oss[i]'(by rw [h5.len2]; exact hi)):=f7 _
 generalize css[i]'(by rw [h5.len1]; exact hi)=cs1 at e1
 generalize oss[i]'(by rw [h5.len2]; exact hi)=os1 at e2
 have h0:=h5.at_ i e0 cs1 os1 g2 e1 e2
 unfold PH at h0
 rw [ql8] at h0
 obtain ⟨rfl,rfl⟩:=h0
 refine ⟨c++os,⟨cap,junk,css,oss.set i os,by rw [a0s],by rw [a0s]; exact h2,by rw [a0s]; exact h3,h4,⟨by rw [a0s]; exact h5.len1,by rw [a0s,a0s]; exact h5.len2,h5.lens,fun u x cs2 os2 a1 a2 a3=>?_⟩,?_⟩,by rw [f6]; exact hS⟩
 ·unfold PH
  by_cases hu:i=u
  ·subst hu
   rw [hn]
   rw [a0c hi] at a1
   rw [a0c (by rw [h5.len2]; exact hi)] at a3
   rw [e1] at a2
   cases a1; cases a2; cases a3
   exact hr
  ·rw [a0n hu] at a1 a3
   have:=h5.at_ u x cs2 os2 a1 a2 a3
   unfold PH at this
   rw [ql3 hu] at this
   exact this
 ·refine (h6.append_right os).trans ?_
  rw [a1p]
  refine List.Perm.cons _ ?_
  exact List.perm_append_comm.trans (qlz e2).symm
theorem qxy {j:Int}{e0:α}(hg:jb l j=some e0) : l.set j.toNat e0=l:=by
 obtain ⟨g0,g1,g2⟩:=we hg
 obtain ⟨hi,rfl⟩:=d9.1 g2
 exact List.set_getElem_self hi
theorem SlG.cls0 {j:Int}{e0:α}{hs':List (Nat × List XV)}(H:SlG R n ty v l hs' b c)(he:hs'=(j.toNat,cs)::hs)(hg:jb l j=some e0)(hn:hk hs j.toNat=none)(hr:R e0 cs os)(hS:Sep h lo (c++(os++S))) : ∃ c',SlG R n ty v l hs b c'∧Sep h lo (c'++S):=by
 have:=H.cls he hg hn hr hS
 rwa [qxy hg] at this
theorem q72 {css:List (List XV)}(hl:∀ cs∈css,cs.length=n) : ∀ {i:Nat} {cs:List XV},css[i]? = some cs→∃ A Z,css.flatten=A++(cs++Z)∧A.length=i*n∧∀ cs',(css.set i cs').flatten=A++(cs'++Z):=by
 induction css with
 | nil=>intro i cs h; simp at h
 | cons c0 css ih =>
  intro i cs hi
  cases i with
  | zero=>simp at hi; subst hi; exact ⟨[],css.flatten,by simp,by simp,fun cs'=>by simp⟩
  | succ i =>
   obtain ⟨A,Z,h1,h2,h3⟩:=ih (fun cs hcs=>hl cs (by simp [hcs])) (i:=i) (by simpa using hi)
   exact ⟨c0++A,Z,by rw [t5,h1,f6],by rw [List.length_append,h2,hl c0 (by simp),Nat.succ_mul]; omega,fun cs'=>by rw [List.set_cons_succ,t5,h3,f6]⟩
theorem SlG.blk {j:Int}{hs':List (Nat × List XV)}{e0:α}(H:SlG R n ty v l hs' b c)(he:hs'=(j.toNat,cs)::hs)(hg:jb l j=some e0)(hS:Sep h lo (c++S)) : ∃ A Z T,c.Perm ([Blk1 b (A++(cs++Z)) ty]++T)∧A.length=j.toNat*n∧z9 h b=some ⟨A++(cs++Z),ty,true⟩∧cs.length=n∧∀ cs',cs'.length=n→SlG R n ty v l ((j.toNat,cs')::hs) b ([Blk1 b (A++(cs'++Z)) ty]++T):=by
 subst he
 obtain ⟨g0,g1,g2⟩:=we hg
 obtain ⟨cap,junk,css,oss,rfl,h2,h3,h4,h5,h6⟩:=H
 generalize j.toNat=i at *
 have hi:i<l.length:=(d9.1 g2).1
 have e1:css[i]? = some (css[i]'(by rw [h5.len1]; exact hi)):=f7 _
 have e2:oss[i]? = some (oss[i]'(by rw [h5.len2]; exact hi)):=f7 _
 generalize css[i]'(by rw [h5.len1]; exact hi)=cs1 at e1
 generalize oss[i]'(by rw [h5.len2]; exact hi)=os1 at e2
 have h0:=h5.at_ i e0 cs1 os1 g2 e1 e2
 unfold PH at h0
 rw [ql8] at h0
 obtain ⟨rfl,rfl⟩:=h0
 obtain ⟨A,Z,f1,f2,f3⟩:=q72 h5.lens e1
 refine ⟨A,Z++junk,oss.flatten,?_,f2,?_,h5.lens _ (List.mem_of_getElem? e1),fun cs' hcs'=>⟨cap,junk,css.set i cs',oss,rfl,h2,h3,h4,⟨by rw [a0s]; exact h5.len1,h5.len2,fun c hc=>?_,fun u x cs2 os2 a1 a2 a3=>?_⟩,?_⟩⟩
 ·rw [f1] at h6; simpa using h6
 ·have hS2:Sep h lo ((Blk1 b (css.flatten++junk) ty::oss.flatten)++S):=hS.cperm h6
  have:=Sep.blk0 hS2
  rw [this,f1]; simp
 ·rcases List.mem_or_eq_of_mem_set hc with hc | rfl
  ·exact h5.lens c hc
  ·exact hcs'
 ·unfold PH
  by_cases hu:i=u
  ·subst hu
   rw [ql8]
   rw [a0c (by rw [h5.len1]; exact hi)] at a2
   rw [e2] at a3
   exact ⟨(Option.some.inj a2).symm,(Option.some.inj a3).symm⟩
  ·rw [ql3 hu]
   rw [a0n hu] at a2
   have:=h5.at_ u x cs2 os2 a1 a2 a3
   unfold PH at this
   rw [ql3 hu] at this
   exact this
 ·rw [f3]; simp
theorem SlG.ld {j:Int}{hs':List (Nat × List XV)}{e0:α}(H:SlG R n ty v l hs' b c)(he:hs'=(j.toNat,cs)::hs)(hg:jb l j=some e0)(hS:Sep h lo (c++S)){o:Nat}(ho:o<cs.length) : xld h none (.ptr b (j.toNat*n+o))=cs[o]? := by
 obtain ⟨A,Z,T,_,h2,h3,_⟩:=H.blk he hg hS
 exact q9a h3 h2 ho
theorem SlG.lds {j:Int}{hs':List (Nat × List XV)}{e0:α}(H:SlG R n ty v l hs' b c)(he:hs'=(j.toNat,cs)::hs)(hg:jb l j=some e0)(hS:Sep h lo (c++S)){o m:Nat}(ho:o+m≤cs.length) : xld h (some m) (.ptr b (j.toNat*n+o))=some (.agg ((cs.drop o).take m)):=by
 obtain ⟨A,Z,T,_,h2,h3,_⟩:=H.blk he hg hS
 exact q77 h3 h2 ho
theorem qmi {j:Int}{hs':List (Nat × List XV)}{e0:α}{o m:Nat}{u:XV}{cs':List XV}(H:SlG R n ty v l hs' b c)(he:hs'=(j.toNat,cs)::hs)(hg:jb l j=some e0)(hS:Sep h lo (c++S))(hw:∀ b,lo b→W b=true)(h1:u.cells.length=m)(h2:u.cells.all XV.one=true)(h3:o+m≤cs.length)(e:ko cs o u.cells=cs')
  (K:∀ c' h',SlG R n ty v l ((j.toNat,cs')::hs) b c'→Sep h' lo (c'++S)→Run E W (.ops r::k) Q (fr.put d .undef) h') : Put2 E W (pst W h m (.ptr b (j.toNat*n+o)) u) d r k Q fr:=by
 obtain ⟨A,Z,T,p,a1,a2,a3,a4⟩:=H.blk he hg hS
 have hS1:Sep h lo ([Blk1 b (A++(cs++Z)) ty]++(T++S)):=by
  have:=hS.cperm p
  rwa [f6] at this
 have hl':cs'.length=n:=by
  rw [←e,← a3]
  unfold ko
  simp
  omega
 exact qxu hS1 hw a1 h1 h2 h3 e (fun h' hS'=>K _ h' (a4 cs' hl') (by rw [f6]; exact hS'))
theorem qq6 {hst:Nat}{ld wr:List Nat}{j:Int}{hs':List (Nat × List XV)}{e0:α}{o m:Nat}{u:XV}{cs':List XV}(H:SlG R n ty v l hs' b c)(he:hs'=(j.toNat,cs)::hs)(hg:jb l j=some e0)(hS:Sep h lo (c++S))(hw:∀ b,lo b→W b=true)(h1:u.cells.length=m)(h2:u.cells.all XV.one=true)(h3:o+m≤cs.length)(e:ko cs o u.cells=cs')
  (K:∀ c' h',SlG R n ty v l ((j.toNat,cs')::hs) b c'→Sep h' lo (c'++S)→Run E W (.draw hst r ld wr::k) Q (fr.put d .undef) h') : Put2D E W (pst W h m (.ptr b (j.toNat*n+o)) u) d hst r ld wr k Q fr:=by
 refine qeh (A:=fun v' h'=>v' = .undef∧∃ c',SlG R n ty v l ((j.toNat,cs')::hs) b c'∧Sep h' lo (c'++S)) ?_ (fun v' h' ⟨e1,c',a,s⟩=>by rw [e1]; exact K c' h' a s)
 exact qmi H he hg hS hw h1 h2 h3 e (fun c' h' a s=>by rw [qa,qn]; exact ⟨fr0,c',a,s⟩)
theorem qki {hst:Nat}{ld wr:List Nat}(H:SlN R n ty v l c){ty2:TypeId}(H2:SlN R n ty2 x l2 c2)(hS:Sep h lo (c++(c2++S)))(hw:∀ b,lo b→W b=true)(hl:∀ {x cs os},R x cs os→cs.length=n)(h1:∀ {x cs os},R x cs os→cs.all XV.one=true)(hF:kg bytes l l2=some l3)
  (K:∀ v' c' h',SlN R n ty v' l3 c'→Sep h' lo (c'++S)→Run E W (.draw hst r ld wr::k) Q (fr.put d v') h') : Put2D E W (qcf W h ty n bytes v x) d hst r ld wr k Q fr:=by
 refine qeh (A:=fun v' h'=>∃ c',SlN R n ty v' l3 c'∧Sep h' lo (c'++S)) ?_ (fun v' h' ⟨c',a,s⟩=>K v' c' h' a s)
 exact qhl H H2 hS hw hl h1 hF (fun v' c' h' a s=>by rw [qa,qn,fr0]; exact ⟨c',a,s⟩)
theorem qiu {hst:Nat}{ld wr:List Nat}{z:List XV}{ps:List (Nat × Nat × XV)}(hS:Sep h lo (os++S))(e1:fill z ps=some cs)(hr:R e cs os)(hl:cs.length=n)(K:∀ v c h',SlN R n ty v [e] c→Sep h' lo (c++S)→Run E W (.draw hst r ld wr::k) Q (fr.put d v) h') : Put2D E W (ug h ty 1 z ps) d hst r ld wr k Q fr:=by
 refine qeh (A:=fun v' h'=>∃ c',SlN R n ty v' [e] c'∧Sep h' lo (c'++S)) ?_ (fun v' h' ⟨c',a,s⟩=>K v' c' h' a s)
 exact qey hS e1 hr hl (fun v' c' h' a s=>by rw [qa,qn,fr0]; exact ⟨c',a,s⟩)
theorem qnc {hst:Nat}{ld wr:List Nat}{ty:Nat}{zero:List XV} : Run E W (.draw hst (⟨d,.new ty zero,none,1⟩::r) ld wr::k) Q fr h=Put2D E W (qmq W h ty zero) d hst r ld wr k Q fr:=qf4 rfl
theorem qlx {hst:Nat}{ld wr:List Nat}{ty len:Nat}{zero:List XV}{ps:List (Nat × Nat × XO)} : Run E W (.draw hst (⟨d,.buildS ty len zero ps,none,1⟩::r) ld wr::k) Q fr h=Put2D E W (ug h ty len zero (ps.map (evp fr))) d hst r ld wr k Q fr:=by
 rw [qf4 rfl]
 congr 1
 simp only [ze,ug]
 have e:ps.map (fun p=>(p.1,p.2.1,XO.ev fr p.2.2))=ps.map (evp fr):=rfl
 rw [e]
 cases fill zero (ps.map (evp fr)) <;> rfl
theorem qin {hst:Nat}{ld wr:List Nat}{z:List XV}(hS:Sep h lo S)(H:∀ b h',Sep h' lo ([Blk1 b z ty]++S)→Run E W (.draw hst r ld wr::k) Q (fr.put d (.ptr b 0)) h') : Put2D E W (qmq W h ty z) d hst r ld wr k Q fr:=by
 refine qeh (A:=fun v' h'=>∃ b,v' = .ptr b 0∧Sep h' lo ([Blk1 b z ty]++S)) ?_ (fun v' h' ⟨b,e,s⟩=>by rw [e]; exact H b h' s)
 exact zt hS (fun b h' s=>by rw [qa,qn,fr0]; exact ⟨b,rfl,s⟩)
theorem SlF.one {f:α→List XV}(H:SlF f n ty v l c) : XV.one v=true:=by
 rcases H with ⟨rfl,rfl,rfl⟩ | ⟨b,cap,junk,rfl,hcp,hj,rfl,hjf⟩ <;> rfl
theorem SlN.one (H:SlN R n ty v l c) : XV.one v=true:=by
 rcases H with ⟨rfl,rfl,rfl⟩ | ⟨b,cap,junk,css,oss,rfl,_⟩ <;> rfl
variable {c0 c1 c3 c4 c5:List Obj}
variable {c6 c7 c8 c9 c10 c11 c12 c13 c14 c15:List Obj}
theorem Sep.no2 (H:Sep h lo (c0++((c1++c2)++S))) : Sep h lo (c0++(c1++(c2++S))):=by simpa only [f6] using H
theorem Sep.ni2 (H:Sep h lo (c0++(c1++(c2++S)))) : Sep h lo (c0++((c1++c2)++S)):=by simpa only [f6] using H
theorem Sep.bi2 (H:Sep h lo (c1++(c2++S))) : Sep h lo ((c1++c2)++S):=by simpa only [f6] using H
theorem q88 {g hst:Nat}{ld wr:List Nat}{caps args as':List XV}{R:XV→Heap→Prop}(hm:E.mode g=2)(hS:Sep h lo S)(hs:args.mapM (snap h E.sz 9)=some as')(hc:Ret E (fun b=>decide (h.length≤b)) g (as'++caps) h R)
  (hR:∀ v h',R v h'→∃ T,v.free=true∧Sep h' (geL h.length) T∧(∀ o∈T,o.pf)∧(∀ h2,Sep h2 lo (T++S)→Run E W (.draw hst r ld wr::k) Q (fr.put d v) h2)) : CallQ E W (.fn g caps) args (qe5 E (.fn g caps) args) d hst r ld wr k Q fr h:=by
 unfold CallQ
 have e:qe5 E (.fn g caps) args=[]:=by simp [qe5,hm]
 rw [e]
 refine ⟨rfl,?_⟩
 unfold CallW
 dsimp only
 rw [hm,hs]
 refine hc.keep.mono ?_
 rintro v h' ⟨h1,h2⟩
 obtain ⟨T,a1,a2,a3,a4⟩:=hR v h' h1
 exact ⟨a1,a4 _ (hS.purge a2 a3 (fun b hb=>h2.same b hb (by simpa using hb)))⟩
def qlo (ms:List Nat)(n:Nat) : Nat→Prop:=fun b=>b∈ms∨n≤b
theorem zaz {hst:Nat}{ms:List Nat}{C:List Obj}(hW:∀ b,lo b→W b=true)(hS:Sep h lo (C++S))(hC:C.flatMap Obj.fp=ms)(h0:hst≤h.length) : ∀ b,qlo ms h.length b→kf W hst ms b=true:=by
 intro b hb
 have hl:lo b:=by
  rcases hb with hb | hb
  ·exact (hS.ran b (by rw [i9,o9,hC]; exact .inl hb)).1
  ·exact hS.base b hb
 simp only [kf,hW b hl,Bool.true_and,a0q,decide_eq_true_eq,List.contains_iff_mem]
 rcases hb with hb | hb
 ·exact .inr hb
 ·exact .inl (by omega)
theorem q33 {ms:List Nat}{C:List Obj}(hS:Sep h lo (C++S))(hC:C.flatMap Obj.fp=ms) : Sep h (qlo ms h.length) (C++[]):=by
 rw [a2i]
 have hn:=hS.nodup
 rw [i9,t8] at hn
 exact ⟨fun b hb => .inr hb,hn.1,fun b hb=>⟨.inl (hC▸hb),(hS.ran b (by rw [i9]; exact a0f _ hb)).2⟩,fun o ho=>hS.ok o (a0f _ ho)⟩
theorem qyr {hst:Nat}{ms:List Nat}{C C':List Obj}{h':Heap}(hS:Sep h lo (C++S))(hC:C.flatMap Obj.fp=ms)(hlt:∀ b∈S.flatMap Obj.fp,b<hst)(hk:XKeep (kf W hst ms) h h')(H:Sep h' (qlo ms h.length) (C'++[])) : Sep h' lo (C'++S):=by
 rw [a2i] at H
 have hn:=hS.nodup
 rw [i9,t8] at hn
 have hdj:∀ b∈S.flatMap Obj.fp,b ∉ ms:=fun b hb hm=>hn.2.2 b (by rw [hC]; exact hm) b hb rfl
 have hSr:∀ b∈S.flatMap Obj.fp,lo b∧b<h.length:=fun b hb=>hS.ran b (by rw [i9]; exact a0p _ hb)
 refine ⟨fun b hb=>hS.base b (a06 hk.len hb),?_,fun b hb=>?_,fun o ho=>?_⟩
 ·rw [i9,t8]
  refine ⟨H.nodup,hn.2.1,fun a ha b hb e=>?_⟩
  subst e
  rcases (H.ran a ha).1 with h1 | h1
  ·exact hdj a hb h1
  ·have:=(hSr a hb).2; omega
 ·rw [i9,o9] at hb
  rcases hb with hb | hb
  ·refine ⟨?_,(H.ran b hb).2⟩
   rcases (H.ran b hb).1 with h1 | h1
   ·exact (hS.ran b (by rw [i9,o9,hC]; exact .inl h1)).1
   ·exact hS.base b h1
  ·exact ⟨(hSr b hb).1,s5 (hSr b hb).2 hk.len⟩
 ·rcases o9.1 ho with ho | ho
  ·exact H.ok o ho
  ·refine o.loc h _ (fun b hb=>?_) (hS.ok o (a0p _ ho))
   have hb':b∈S.flatMap Obj.fp:=a17.2 ⟨o,ho,hb⟩
   refine hk.same b (hSr b hb').2 ?_
   have h1:=hlt b hb'
   have h2:=hdj b hb'
   simp only [kf,a1m,t6,decide_eq_false_iff_not]
   exact .inr ⟨by omega,by simpa using h2⟩
theorem qk3 {g hst:Nat}{ld wr ms:List Nat}{caps args:List XV}{C:List Obj}{R:XV→Heap→Prop}(hm:E.mode g=0)(hms:(args++caps).flatMap qgs=ms)(hd:ka ms ld=true)(hW:∀ b,lo b→W b=true)(hS:Sep h lo (C++S))(hC:C.flatMap Obj.fp=ms)(h0:hst≤h.length)(hlt:∀ b∈S.flatMap Obj.fp,b<hst)
  (hc:(∀ b,qlo ms h.length b→kf W hst ms b=true)→Sep h (qlo ms h.length) (C++[])→Ret E (kf W hst ms) g (args++caps) h R)
  (hR:∀ v h',R v h'→(∀ C',Sep h' (qlo ms h.length) (C'++[])→Sep h' lo (C'++S))→Run E W (.draw hst r ld (ms++wr)::k) Q (fr.put d v) h') : CallQ E W (.fn g caps) args (qe5 E (.fn g caps) args) d hst r ld wr k Q fr h:=by
 have e:qe5 E (.fn g caps) args=ms:=by simp [qe5,hm,← hms]
 rw [e]
 refine ⟨hd,?_⟩
 unfold CallW
 dsimp only
 rw [hm]
 refine (hc (zaz hW hS hC h0) (q33 hS hC)).keep.mono ?_
 rintro v h' ⟨h1,h2⟩
 exact hR v h' h1 (fun C' H=>qyr hS hC hlt h2 H)
theorem zau {hst:Nat}{ms:List Nat}{C C2:List Obj}(hW:∀ b,lo b→W b=true)(hS:Sep h lo (C++(C2++S)))(hC:C.flatMap Obj.fp=ms)(hN:hst≤h.length∧∀ b∈C2.flatMap Obj.fp,hst≤b) : ∀ b,qlo (ms++C2.flatMap Obj.fp) h.length b→kf W hst ms b=true:=by
 intro b hb
 have hl:lo b:=by
  rcases hb with hb | hb
  ·refine (hS.ran b ?_).1
   rw [i9,i9,o9,o9,hC]
   rcases o9.1 hb with hb | hb
   ·exact .inl hb
   ·exact .inr (.inl hb)
  ·exact hS.base b hb
 simp only [kf,hW b hl,Bool.true_and,a0q,decide_eq_true_eq,List.contains_iff_mem]
 rcases hb with hb | hb
 ·rcases o9.1 hb with hb | hb
  ·exact .inr hb
  ·exact .inl (hN.2 b hb)
 ·have:=hN.1; exact .inl (by omega)
theorem qty {hst:Nat}{ms ms':List Nat}{C C':List Obj}{h':Heap}(hm:∀ b∈ms,b∈ms')(hS:Sep h lo (C++S))(hC:C.flatMap Obj.fp=ms')(hlt:∀ b∈S.flatMap Obj.fp,b<hst)(hk:XKeep (kf W hst ms) h h')(H:Sep h' (qlo ms' h.length) (C'++[])) : Sep h' lo (C'++S):=by
 rw [a2i] at H
 have hn:=hS.nodup
 rw [i9,t8] at hn
 have hdj:∀ b∈S.flatMap Obj.fp,b ∉ ms':=fun b hb hm=>hn.2.2 b (by rw [hC]; exact hm) b hb rfl
 have hSr:∀ b∈S.flatMap Obj.fp,lo b∧b<h.length:=fun b hb=>hS.ran b (by rw [i9]; exact a0p _ hb)
 refine ⟨fun b hb=>hS.base b (a06 hk.len hb),?_,fun b hb=>?_,fun o ho=>?_⟩
 ·rw [i9,t8]
  refine ⟨H.nodup,hn.2.1,fun a ha b hb e=>?_⟩
  subst e
  rcases (H.ran a ha).1 with h1 | h1
  ·exact hdj a hb h1
  ·have:=(hSr a hb).2; omega
 ·rw [i9,o9] at hb
  rcases hb with hb | hb
  ·refine ⟨?_,(H.ran b hb).2⟩
   rcases (H.ran b hb).1 with h1 | h1
   ·exact (hS.ran b (by rw [i9,o9,hC]; exact .inl h1)).1
   ·exact hS.base b h1
  ·exact ⟨(hSr b hb).1,s5 (hSr b hb).2 hk.len⟩
 ·rcases o9.1 ho with ho | ho
  ·exact H.ok o ho
  ·refine o.loc h _ (fun b hb=>?_) (hS.ok o (a0p _ ho))
   have hb':b∈S.flatMap Obj.fp:=a17.2 ⟨o,ho,hb⟩
   refine hk.same b (hSr b hb').2 ?_
   have h1:=hlt b hb'
   have h2:=fun hh=>hdj b hb' (hm b hh)
   simp only [kf,a1m,t6,decide_eq_false_iff_not]
   exact .inr ⟨by omega,by simpa using h2⟩
theorem q94 {ld:List Nat}{C Sl:List Obj}(hl:Sl.flatMap Obj.fp=ld)(hW:∀ b,lo b→W b=true)(hS:Sep h lo (C++(Sl++S))) : ∀ b,qlo ((C++S).flatMap Obj.fp) h.length b→kf W h.length (y9 h.length ld) b=true:=by
 intro b hb
 have hn:=hS.nodup
 rw [i9,i9,t8,t8] at hn
 have hin:b∈(C++S).flatMap Obj.fp→b ∉ ld∧lo b:=by
  intro hb
  rw [i9,o9] at hb
  rcases hb with hb | hb
  ·exact ⟨fun hm=>hn.2.2 b hb b (a0f _ (hl▸hm)) rfl,(hS.ran b (by rw [i9]; exact a0f _ hb)).1⟩
  ·exact ⟨fun hm=>hn.2.1.2.2 b (hl▸hm) b hb rfl,(hS.ran b (by rw [i9,i9]; exact a0p _ (a0p _ hb))).1⟩
 rcases hb with hb | hb
 ·obtain ⟨h1,h2⟩:=hin hb
  simp only [kf,hW b h2,Bool.true_and,a0q,decide_eq_true_eq,List.contains_iff_mem]
  rcases Nat.lt_or_ge b h.length with h3 | h3
  ·refine .inr ?_
   unfold y9
   rw [List.mem_filter]
   exact ⟨by simpa using h3,by simpa using h1⟩
  ·exact .inl h3
 ·simp only [kf,hW b (hS.base b hb),Bool.true_and,a0q,decide_eq_true_eq]
  exact .inl hb
theorem zab {C Sl:List Obj}(hS:Sep h lo (C++(Sl++S))) : Sep h (qlo ((C++S).flatMap Obj.fp) h.length) (C++S):=by
 have hn:=hS.nodup
 rw [i9,i9,t8,t8] at hn
 refine ⟨fun b hb => .inr hb,?_,fun b hb=>⟨.inl hb,?_⟩,fun o ho=>hS.ok o ?_⟩
 ·rw [i9,t8]
  exact ⟨hn.1,hn.2.1.2.1,fun a ha b hb=>hn.2.2 a ha b (a0p _ hb)⟩
 ·refine (hS.ran b ?_).2
  rw [i9,o9] at hb
  rw [i9,i9,o9,o9]
  exact hb.imp id .inr
 ·rcases o9.1 ho with ho | ho
  ·exact a0f _ ho
  ·exact a0p _ (a0p _ ho)
theorem quz {ld:List Nat}{C Sl T:List Obj}{h':Heap}(hl:Sl.flatMap Obj.fp=ld)(hS:Sep h lo (C++(Sl++S)))(hk:XKeep (kf W h.length (y9 h.length ld)) h h')(H:Sep h' (qlo ((C++S).flatMap Obj.fp) h.length) T) : Sep h' lo (Sl++T):=by
 have hn:=hS.nodup
 rw [i9,i9,t8,t8] at hn
 have hSr:∀ b∈Sl.flatMap Obj.fp,lo b∧b<h.length:=fun b hb=>hS.ran b (by rw [i9,i9]; exact a0p _ (a0f _ hb))
 have hdj:∀ b∈Sl.flatMap Obj.fp,b ∉ (C++S).flatMap Obj.fp:=by
  intro b hb hm
  rw [i9,o9] at hm
  rcases hm with hm | hm
  ·exact hn.2.2 b hm b (a0f _ hb) rfl
  ·exact hn.2.1.2.2 b hb b hm rfl
 refine ⟨fun b hb=>hS.base b (a06 hk.len hb),?_,fun b hb=>?_,fun o ho=>?_⟩
 ·rw [i9,t8]
  refine ⟨hn.2.1.1,H.nodup,fun a ha b hb e=>?_⟩
  subst e
  rcases (H.ran a hb).1 with h1 | h1
  ·exact hdj a ha h1
  ·have:=(hSr a ha).2; omega
 ·rw [i9,o9] at hb
  rcases hb with hb | hb
  ·exact ⟨(hSr b hb).1,s5 (hSr b hb).2 hk.len⟩
  ·refine ⟨?_,(H.ran b hb).2⟩
   rcases (H.ran b hb).1 with h1 | h1
   ·refine (hS.ran b ?_).1
    rw [i9,o9] at h1
    rw [i9,i9,o9,o9]
    exact h1.imp id .inr
   ·exact hS.base b h1
 ·rcases o9.1 ho with ho | ho
  ·refine o.loc h _ (fun b hb=>?_) (hS.ok o (a0p _ (a0f _ ho)))
   have hb':b∈Sl.flatMap Obj.fp:=a17.2 ⟨o,ho,hb⟩
   refine hk.same b (hSr b hb').2 ?_
   have h1:=(hSr b hb').2
   have h2:b∈ld:=hl▸hb'
   have h3:(y9 h.length ld).contains b=false:=by
    rw [Bool.eq_false_iff]
    intro hm
    have hm':b∈y9 h.length ld:=by simpa using hm
    unfold y9 at hm'
    rw [List.mem_filter] at hm'
    simp [h2] at hm'
   simp only [kf,h3,Bool.or_false]
   have h4:decide (h.length≤b)=false:=by simp; omega
   simp [h4]
  ·exact H.ok o ho
theorem q8f (hs:Nat)(ld:List Nat) : ka (y9 hs ld) ld=true:=by
 unfold ka y9
 rw [List.all_eq_true]
 intro b hb
 exact (List.mem_filter.1 hb).2
theorem zan {g:Nat}{ld wr:List Nat}{caps args:List XV}{C Sl:List Obj}{R:XV→Heap→Prop}(hm:E.mode g=0)(hl:Sl.flatMap Obj.fp=ld)(hW:∀ b,lo b→W b=true)(hS:Sep h lo (C++(Sl++S)))
  (hc:(∀ b,qlo ((C++S).flatMap Obj.fp) h.length b→kf W h.length (y9 h.length ld) b=true)→Sep h (qlo ((C++S).flatMap Obj.fp) h.length) (C++S)→Ret E (kf W h.length (y9 h.length ld)) g (args++caps) h R)
  (hR:∀ v h',R v h'→(∀ T,Sep h' (qlo ((C++S).flatMap Obj.fp) h.length) T→Sep h' lo (Sl++T))→Run E W (.draw h.length r ld (y9 h.length ld++wr)::k) Q (fr.put d v) h') : CallQ E W (.fn g caps) args (y9 h.length ld) d h.length r ld wr k Q fr h:=by
 refine ⟨q8f _ _,?_⟩
 unfold CallW
 dsimp only
 rw [hm]
 refine (hc (q94 hl hW hS) (zab hS)).keep.mono ?_
 rintro v h' ⟨h1,h2⟩
 exact hR v h' h1 (fun T H=>quz hl hS h2 H)
theorem q93 {g:Nat}{wr:List Nat}{caps args:List XV}{R:XV→Heap→Prop}(hm:E.mode g=0)(hW:∀ b,lo b→W b=true)(hS:Sep h lo S)
  (hc:(∀ b,qlo (S.flatMap Obj.fp) h.length b→kf W h.length (y9 h.length []) b=true)→Sep h (qlo (S.flatMap Obj.fp) h.length) S→Ret E (kf W h.length (y9 h.length [])) g (args++caps) h R)
  (hR:∀ v h',R v h'→(∀ T,Sep h' (qlo (S.flatMap Obj.fp) h.length) T→Sep h' lo T)→Run E W (.draw h.length r [] (y9 h.length []++wr)::k) Q (fr.put d v) h') : CallQ E W (.fn g caps) args (y9 h.length []) d h.length r [] wr k Q fr h :=
 zan (C:=[]) (Sl:=[]) hm rfl hW hS hc hR
theorem SlF.noptr {f:α→List XV}(H:SlF f n ty v l c) : qgs v=[]:=by
 rcases H with ⟨rfl,_,_⟩ | ⟨b,cap,junk,rfl,_⟩ <;> rfl
theorem q89 {o:Nat}{u:XV}(hu:qgs u=[]) : ([XV.ptr b o,u]++[]).flatMap qgs=[b]:=by
 show [b]++(qgs u++[])=[b]
 rw [hu]
 rfl
theorem qow {g hst:Nat}{ld wr ms:List Nat}{caps args:List XV}{C C2:List Obj}{R:XV→Heap→Prop}(hm:E.mode g=0)(hms:(args++caps).flatMap qgs=ms)(hd:ka ms ld=true)(hW:∀ b,lo b→W b=true)(hS:Sep h lo (C++(C2++S)))(hC:C.flatMap Obj.fp=ms)(hN:hst≤h.length∧∀ b∈C2.flatMap Obj.fp,hst≤b)(hlt:∀ b∈S.flatMap Obj.fp,b<hst)
  (hc:(∀ b,qlo (ms++C2.flatMap Obj.fp) h.length b→kf W hst ms b=true)→Sep h (qlo (ms++C2.flatMap Obj.fp) h.length) (C++(C2++[]))→Ret E (kf W hst ms) g (args++caps) h R)
  (hR:∀ v h',R v h'→(∀ C' C2',Sep h' (qlo (ms++C2.flatMap Obj.fp) h.length) (C'++(C2'++[]))→Sep h' lo (C'++(C2'++S)))→Run E W (.draw hst r ld (ms++wr)::k) Q (fr.put d v) h') : CallQ E W (.fn g caps) args (qe5 E (.fn g caps) args) d hst r ld wr k Q fr h:=by
 have e:qe5 E (.fn g caps) args=ms:=by simp [qe5,hm,← hms]
 rw [e]
 refine ⟨hd,?_⟩
 unfold CallW
 dsimp only
 rw [hm]
 have hS2:Sep h lo ((C++C2)++S):=by rw [f6]; exact hS
 have hC2:(C++C2).flatMap Obj.fp=ms++C2.flatMap Obj.fp:=by rw [i9,hC]
 have hq:=q33 hS2 hC2
 rw [f6] at hq
 refine (hc (zau hW hS hC hN) hq).keep.mono ?_
 rintro v h' ⟨h1,h2⟩
 refine hR v h' h1 (fun C' C2' H=>?_)
 have:=qty (C':=C'++C2') (fun b hb=>a0f _ hb) hS2 hC2 hlt h2 (by rw [f6]; exact H)
 rwa [f6] at this
theorem xm {f:α→List XV}{hst m:Nat}{ld wr:List Nat}{z:List XV}{ps:List (Nat × Nat × XV)}(l:List α)(hS:Sep h lo S)(e:fill z ps=some (l.map f).flatten)(hm:m=l.length)(K:∀ v c h',SlF f n ty v l c→Sep h' lo (c++S)→(h.length≤h'.length∧∀ b∈c.flatMap Obj.fp,h.length≤b)→Run E W (.draw hst r ld wr::k) Q (fr.put d v) h') : Put2D E W (ug h ty m z ps) d hst r ld wr k Q fr:=by
 subst hm
 have e2:ug h ty l.length z ps=some (.row h.length 0 l.length l.length,h++[⟨(l.map f).flatten,ty,true⟩]):=by simp [ug,e]
 rw [e2]
 exact K _ [Blk1 h.length (l.map f).flatten ty] _ SlF.row0 (hS.new _ ty) ⟨by simp,by simp [Blk1]⟩
theorem kw (h:XV.one v=true) : v.cells=[v]:=by cases v <;> first | rfl | (cases h; done)
theorem zb {m o:Nat}{u:XV}{us cs cs':List XV}(hu:u.cells=us)(hS:Sep h lo ([Blk1 b cs ty]++S))(hw:∀ b,lo b→W b=true)(h1:us.length=m)(h2:us.all XV.one=true)(h3:o+m≤cs.length)(e:ko cs o us=cs')
  (H:∀ h',Sep h' lo ([Blk1 b cs' ty]++S)→Run E W (.ops r::k) Q (fr.put d .undef) h') : Put2 E W (pst W h m (.ptr b o) u) d r k Q fr:=by
 subst hu; exact qml hS hw h1 h2 h3 e H
theorem qay {hs:Nat}{ld wr:List Nat}{m o:Nat}{u:XV}{us cs cs':List XV}(hu:u.cells=us)(hS:Sep h lo ([Blk1 b cs ty]++S))(hw:∀ b,lo b→W b=true)(h1:us.length=m)(h2:us.all XV.one=true)(h3:o+m≤cs.length)(e:ko cs o us=cs')
  (H:∀ h',Sep h' lo ([Blk1 b cs' ty]++S)→Run E W (.draw hs r ld wr::k) Q (fr.put d .undef) h') : Put2D E W (pst W h m (.ptr b o) u) d hs r ld wr k Q fr:=by
 subst hu; exact qs7 hS hw h1 h2 h3 e H
theorem qdk {j:Int}{hs':List (Nat × List XV)}{e0:α}{o m:Nat}{u:XV}{us cs':List XV}(hu:u.cells=us)(H:SlG R n ty v l hs' b c)(he:hs'=(j.toNat,cs)::hs)(hg:jb l j=some e0)(hS:Sep h lo (c++S))(hw:∀ b,lo b→W b=true)(h1:us.length=m)(h2:us.all XV.one=true)(h3:o+m≤cs.length)(e:ko cs o us=cs')
  (K:∀ c' h',SlG R n ty v l ((j.toNat,cs')::hs) b c'→Sep h' lo (c'++S)→Run E W (.ops r::k) Q (fr.put d .undef) h') : Put2 E W (pst W h m (.ptr b (j.toNat*n+o)) u) d r k Q fr:=by
 subst hu; exact qmi H he hg hS hw h1 h2 h3 e K
theorem qcp {hst:Nat}{ld wr:List Nat}{j:Int}{hs':List (Nat × List XV)}{e0:α}{o m:Nat}{u:XV}{us cs':List XV}(hu:u.cells=us)(H:SlG R n ty v l hs' b c)(he:hs'=(j.toNat,cs)::hs)(hg:jb l j=some e0)(hS:Sep h lo (c++S))(hw:∀ b,lo b→W b=true)(h1:us.length=m)(h2:us.all XV.one=true)(h3:o+m≤cs.length)(e:ko cs o us=cs')
  (K:∀ c' h',SlG R n ty v l ((j.toNat,cs')::hs) b c'→Sep h' lo (c'++S)→Run E W (.draw hst r ld wr::k) Q (fr.put d .undef) h') : Put2D E W (pst W h m (.ptr b (j.toNat*n+o)) u) d hst r ld wr k Q fr:=by
 subst hu; exact qq6 H he hg hS hw h1 h2 h3 e K
theorem qfp {hst:Nat}{ld:List Nat}{m:Option Nat}{o:Nat}(hb:b<hst)(K:Put1D E W (xld h m (.ptr b o)) d hst r (b::ld) [] k Q fr h) : LdD E W m (.ptr b o) d hst r ld [] k Q fr h:=⟨⟨hb,rfl⟩,K⟩
theorem nwq {u:XV}{b':Nat}(h1:∀ z∈ua u,z≠b') : ∀ z∈ua u,z≠b':=h1
theorem Sep.ltk {cs:List XV}(H:Sep h lo ([Blk1 b cs ty]++S)) : b<h.length:=Sep.lt H
theorem SlF.ltk {f:α→List XV}(H:SlF f n ty v l c)(hb:SlB v b)(hS:Sep h lo (c++S)) : b<h.length:=by
 obtain ⟨len,cap,rfl⟩:=hb
 rcases H with ⟨h0,_,_⟩ | ⟨b',cap',junk,hv,hcp,hj,rfl,hjf⟩
 ·cases h0
 ·cases hv; exact Sep.ltk hS
theorem SlN.ltk (H:SlN R n ty v l c)(hb:SlB v b)(hS:Sep h lo (c++S)) : b<h.length:=by
 obtain ⟨len,cap,rfl⟩:=hb
 rcases H with ⟨h0,_,_⟩ | ⟨b',cap',junk,css,oss,hv,h2,h3,h4,h5,h6⟩
 ·cases h0
 ·cases hv; exact Sep.lt (hS.cperm h6)
theorem SlG.ltk (H:SlG R n ty v l hs b c)(hS:Sep h lo (c++S)) : b<h.length:=by
 obtain ⟨cap,junk,css,oss,rfl,h2,h3,h4,h5,h6⟩:=H
 exact Sep.lt (hS.cperm h6)
theorem yl {a:Nat}(e:fr a=v) : qdv fr h (.t a)=some v:=by subst e; rfl
theorem kn {a bb oo:Nat}{m:Option Nat}(h1:fr a = .ptr bb oo)(h2:xld h m (.ptr bb oo)=some v) : qdv fr h (.cell a m)=some v:=by
 cases m with
 | none=>simp only [qdv,h1]; exact h2
 | some m =>
  simp only [qdv,h1]
  rw [←h2]
  simp only [xld]
  cases kc h bb oo m <;> rfl
theorem j8 {rs:List XRes}{v1 v2:XV}{vs:List XV}{P:XV→Heap→Prop}(hm:rs.mapM (qdv fr h)=some (v1::v2::vs))(H:P (.tup (v1::v2::vs)) h) : EndW rs P .ret fr h:=by
 unfold EndW qdc
 rw [hm]
 exact H
theorem qfu {cs:List XV} : fill cs []=some cs:=rfl
theorem qat {cs us vs rs:List XV}{o m:Nat}{u:XV}{ps:List (Nat × Nat × XV)}(hu:u.cells=us)(h1:us.length=m)(h3:o+m≤cs.length)(h2:us.all XV.one=true)(e:ko cs o us=vs)(hr:fill vs ps=some rs) : fill cs ((o,m,u)::ps)=some rs:=by
 subst hu; subst e
 unfold fill
 split
 ·exact hr
 ·rename_i hn; exact absurd ⟨h1,h3,h2⟩ hn
theorem qdz {cs rs:List XV}{ps:List (Nat × Nat × XV)}(h:fill cs ps=some rs) : qhd cs ps=some (.agg rs):=by
 unfold qhd; rw [h]; rfl
theorem qr2 {W:Nat→Bool}{hst b:Nat} : kf W hst [b] b=W b:=by simp [kf]
theorem qp3 {W:Nat→Bool}{hst:Nat}{ty esz bytes:Nat} : qcf (kf W hst (ua v)) h ty esz bytes v x=qcf W h ty esz bytes v x:=by
 unfold qcf
 cases v <;> simp only [ze,XO.ev,ua,setCells,qr2]
end
end Go.Proofs.Ytjloihcijdcpeaa.X
