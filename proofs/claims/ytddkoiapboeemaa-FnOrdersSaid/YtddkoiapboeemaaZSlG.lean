/- Rows with elements that stand open. -/
import Derived.Test.YtddkoiapboeemaaZSS
set_option linter.unusedVariables false
set_option linter.unusedSimpArgs false
namespace Go.Proofs.Ytddkoiapboeemaa.X
open Go
theorem B0:(∀ (fr:Fr) (d:Nat) (v:XV) (t:Nat),(fr.put (some d) v) t=if t=d then v else fr t)∧(∀ (fr:Fr) (v:XV),fr.put none v=fr)∧(∀ (fr:Fr) (n:Nat),XO.ev fr (.t n)=fr n)∧(∀ (fr:Fr) (v:XV),XO.ev fr (.c v)=v) ∧
  (∀ (f:XO→XV) (a:XO) (l:List XO),List.map f (a::l)=f a::List.map f l)∧(∀ (f:XO→XV),List.map f []=[])∧(∀ (f:Nat × Nat × XO→Nat × Nat × XV) (a:Nat × Nat × XO) (l:List (Nat × Nat × XO)),List.map f (a::l)=f a::List.map f l)∧(∀ (f:Nat × Nat × XO→Nat × Nat × XV),List.map f []=[]) :=
 ⟨fun _ _ _ _=>rfl,fun _ _=>rfl,fun _ _=>rfl,fun _ _=>rfl,fun _ _ _=>rfl,fun _=>rfl,fun _ _ _=>rfl,fun _=>rfl⟩
def hk:List (Nat × List XV)→Nat→Option (List XV)
 | [],_=>none
 | (j,cs)::r,i=>if j=i then some cs else hk r i
section
variable {α:Type}{R:Rep α}{f:α→List XV}{n:Nat}{sz:TypeId→Nat}{l l2:List α}{css css2:List (List XV)}{oss oss2:List (List Obj)}{hs:List (Nat × List XV)}
def PH (R:Rep α)(hs:List (Nat × List XV))(i:Nat)(x:α)(cs:List XV)(os:List Obj) : Prop :=
 match hk hs i with
 | some cs'=>cs=cs'∧os=[]
 | none=>R x cs os
structure AllG (R:Rep α) (n:Nat) (hs:List (Nat × List XV)) (l:List α) (css:List (List XV)) (oss:List (List Obj)) : Prop where
 len1:css.length=l.length
 len2:oss.length=l.length
 lens:∀ cs∈css,cs.length=n
 at_:∀ (i:Nat) x cs os,l[i]? = some x→css[i]? = some cs→oss[i]? = some os→PH R hs i x cs os
theorem qib:∀ {oss:List (List Obj)} {os:List Obj} {i:Nat},oss[i]? = some []→((oss.set i os).flatten).Perm (os++oss.flatten):=by
 intro oss
 induction oss with
 | nil=>intro os i h; simp at h
 | cons o oss ih =>
  intro os i hi
  cases i with
  | zero=>simp at hi; subst hi; simp
  | succ i =>
   rw [List.set_cons_succ,List.flatten_cons,List.flatten_cons]
   exact ((ih (i:=i) (by simpa using hi)).append_left o).trans wi
theorem AllG.perm {hs2:List (Nat × List XV)}(H:AllG R n hs l css oss)(he:∀ i,hk hs i=hk hs2 i) : AllG R n hs2 l css oss:=⟨H.len1,H.len2,H.lens,fun i x cs os a b c=>by
 have:=H.at_ i x cs os a b c
 unfold PH at this ⊢
 rw [←he i]
 exact this⟩
end
section
variable {E:Env}{W:Nat→Bool}{k:List It}{Q:QE}{fr:Fr}{h:Heap}{lo:Nat→Prop}{n0:Nat}{S:List Obj}{d:Option Nat}{r:List XOper}{b:Nat}{ty:TypeId}{α:Type}{R:Rep α}{f:α→List XV}{l l2 l3:List α}{sz:TypeId→Nat}{n bytes:Nat}{v x:XV}{c c2:List Obj}{i:Nat}{cs:List XV}{os rest:List Obj}{e:α}{hs:List (Nat × List XV)}

def SlG (R:Rep α)(n:Nat)(ty:TypeId)(v:XV)(l:List α)(hs:List (Nat × List XV))(b:Nat)(c:List Obj) : Prop :=
 ∃ (cap:Nat) (junk:List XV) (css:List (List XV)) (oss:List (List Obj)),v = .row b 0 l.length cap∧l.length≤cap∧junk.length=(cap - l.length)*n∧junk.all XV.free1=true∧AllG R n hs l css oss∧c.Perm (Blk1 b (css.flatten++junk) ty::oss.flatten)
theorem SlG.swap {j:Nat}{cs2:List XV}(H:SlG R n ty v l ((i,cs)::(j,cs2)::hs) b c)(hne:i≠j) : SlG R n ty v l ((j,cs2)::(i,cs)::hs) b c:=by
 obtain ⟨cap,junk,css,oss,rfl,h2,h3,h4,h5,h6⟩:=H
 refine ⟨cap,junk,css,oss,rfl,h2,h3,h4,h5.perm (fun u=>?_),h6⟩
 unfold hk
 by_cases h1:i=u
 ·subst h1
  rw [if_pos rfl,if_neg (Ne.symm hne)]
  unfold hk
  rw [if_pos rfl]
 ·rw [if_neg h1]
  by_cases h2:j=u
  ·subst h2
   rw [if_pos rfl]
   unfold hk
   rw [if_pos rfl]
  ·rw [if_neg h2]
   unfold hk
   rw [if_neg h2,if_neg h1]
theorem SlG.plen (H:SlG R n ty v l hs b c) : qdk v=some (.int .i64 (List.length l:Int)):=by
 obtain ⟨cap,junk,css,oss,rfl,_⟩:=H
 rfl
theorem SlG.ia (H:SlG R n ty v l hs b c){kk:IntKind}{j:Int}{x:α}(hg:z2 l j=some x) : xia n v (.int kk j)=some (.ptr b (j.toNat*n)):=by
 obtain ⟨g0,g1,g2⟩:=j5 hg
 obtain ⟨cap,junk,css,oss,rfl,_⟩:=H
 exact qei g0 g1
theorem qk2 {i:Nat}{cs:List XV}{hs:List (Nat × List XV)} : hk ((i,cs)::hs) i=some cs:=by
 unfold hk; rw [if_pos rfl]
theorem qkg {i j:Nat}{cs:List XV}{hs:List (Nat × List XV)}(h:i≠j) : hk ((i,cs)::hs) j=hk hs j:=by
 conv=>lhs; unfold hk
 rw [if_neg h]
theorem SlG.one (H:SlG R n ty v l hs b c) : XV.one v=true:=by
 obtain ⟨cap,junk,css,oss,rfl,_⟩:=H
 rfl
theorem SlG.cls {j:Int}{e0 e':α}{hs':List (Nat × List XV)}(H:SlG R n ty v l hs' b c)(he:hs'=(j.toNat,cs)::hs)(hg:z2 l j=some e0)(hn:hk hs j.toNat=none)(hr:R e' cs os)(hS:Sep h lo (c++(os++S))) : ∃ c',SlG R n ty v (l.set j.toNat e') hs b c'∧Sep h lo (c'++S):=by
 subst he
 obtain ⟨g0,g1,g2⟩:=j5 hg
 obtain ⟨cap,junk,css,oss,rfl,h2,h3,h4,h5,h6⟩:=H
 generalize j.toNat=i at *
 have hi:i<l.length:=(List.getElem?_eq_some_iff.1 g2).1
 have e1:css[i]? = some (css[i]'(by rw [h5.len1]; exact hi)):=List.getElem?_eq_getElem _
 have e2:oss[i]? = some (oss[i]'(by rw [h5.len2]; exact hi)):=List.getElem?_eq_getElem _
 generalize css[i]'(by rw [h5.len1]; exact hi)=cs1 at e1
 generalize oss[i]'(by rw [h5.len2]; exact hi)=os1 at e2
 have h0:=h5.at_ i e0 cs1 os1 g2 e1 e2
 unfold PH at h0
 rw [qk2] at h0
 obtain ⟨rfl,rfl⟩:=h0
 refine ⟨c++os,⟨cap,junk,css,oss.set i os,by rw [List.length_set],by rw [List.length_set]; exact h2,by rw [List.length_set]; exact h3,h4,⟨by rw [List.length_set]; exact h5.len1,by rw [List.length_set,List.length_set]; exact h5.len2,h5.lens,fun u x cs2 os2 a1 a2 a3=>?_⟩,?_⟩,by rw [List.append_assoc]; exact hS⟩
 ·unfold PH
  by_cases hu:i=u
  ·subst hu
   rw [hn]
   rw [List.getElem?_set_self hi] at a1
   rw [List.getElem?_set_self (by rw [h5.len2]; exact hi)] at a3
   rw [e1] at a2
   cases a1; cases a2; cases a3
   exact hr
  ·rw [List.getElem?_set_ne hu] at a1 a3
   have:=h5.at_ u x cs2 os2 a1 a2 a3
   unfold PH at this
   rw [qkg hu] at this
   exact this
 ·refine (h6.append_right os).trans ?_
  rw [List.cons_append]
  refine List.Perm.cons _ ?_
  exact List.perm_append_comm.trans (qib e2).symm
theorem qw5 {css:List (List XV)}(hl:∀ cs∈css,cs.length=n) : ∀ {i:Nat} {cs:List XV},css[i]? = some cs→∃ A Z,css.flatten=A++(cs++Z)∧A.length=i*n∧∀ cs',(css.set i cs').flatten=A++(cs'++Z):=by
 induction css with
 | nil=>intro i cs h; simp at h
 | cons c0 css ih =>
  intro i cs hi
  cases i with
  | zero=>simp at hi; subst hi; exact ⟨[],css.flatten,by simp,by simp,fun cs'=>by simp⟩
  | succ i =>
   obtain ⟨A,Z,h1,h2,h3⟩:=ih (fun cs hcs=>hl cs (by simp [hcs])) (i:=i) (by simpa using hi)
   exact ⟨c0++A,Z,by rw [List.flatten_cons,h1,List.append_assoc],by rw [List.length_append,h2,hl c0 (by simp),Nat.succ_mul]; omega,fun cs'=>by rw [List.set_cons_succ,List.flatten_cons,h3,List.append_assoc]⟩
theorem SlG.blk {j:Int}{hs':List (Nat × List XV)}{e0:α}(H:SlG R n ty v l hs' b c)(he:hs'=(j.toNat,cs)::hs)(hg:z2 l j=some e0)(hS:Sep h lo (c++S)) : ∃ A Z T,c.Perm ([Blk1 b (A++(cs++Z)) ty]++T)∧A.length=j.toNat*n∧za h b=some ⟨A++(cs++Z),ty,true⟩∧cs.length=n∧∀ cs',cs'.length=n→SlG R n ty v l ((j.toNat,cs')::hs) b ([Blk1 b (A++(cs'++Z)) ty]++T):=by
 subst he
 obtain ⟨g0,g1,g2⟩:=j5 hg
 obtain ⟨cap,junk,css,oss,rfl,h2,h3,h4,h5,h6⟩:=H
 generalize j.toNat=i at *
 have hi:i<l.length:=(List.getElem?_eq_some_iff.1 g2).1
 have e1:css[i]? = some (css[i]'(by rw [h5.len1]; exact hi)):=List.getElem?_eq_getElem _
 have e2:oss[i]? = some (oss[i]'(by rw [h5.len2]; exact hi)):=List.getElem?_eq_getElem _
 generalize css[i]'(by rw [h5.len1]; exact hi)=cs1 at e1
 generalize oss[i]'(by rw [h5.len2]; exact hi)=os1 at e2
 have h0:=h5.at_ i e0 cs1 os1 g2 e1 e2
 unfold PH at h0
 rw [qk2] at h0
 obtain ⟨rfl,rfl⟩:=h0
 obtain ⟨A,Z,f1,f2,f3⟩:=qw5 h5.lens e1
 refine ⟨A,Z++junk,oss.flatten,?_,f2,?_,h5.lens _ (List.mem_of_getElem? e1),fun cs' hcs'=>⟨cap,junk,css.set i cs',oss,rfl,h2,h3,h4,⟨by rw [List.length_set]; exact h5.len1,h5.len2,fun c hc=>?_,fun u x cs2 os2 a1 a2 a3=>?_⟩,?_⟩⟩
 ·rw [f1] at h6; simpa using h6
 ·have hS2:Sep h lo ((Blk1 b (css.flatten++junk) ty::oss.flatten)++S):=hS.cperm h6
  have:=Sep.blk0 hS2
  rw [this,f1]; simp
 ·rcases List.mem_or_eq_of_mem_set hc with hc | rfl
  ·exact h5.lens c hc
  ·exact hcs'
 ·unfold PH
  by_cases hu:i=u
  ·subst hu
   rw [qk2]
   rw [List.getElem?_set_self (by rw [h5.len1]; exact hi)] at a2
   rw [e2] at a3
   exact ⟨(Option.some.inj a2).symm,(Option.some.inj a3).symm⟩
  ·rw [qkg hu]
   rw [List.getElem?_set_ne hu] at a2
   have:=h5.at_ u x cs2 os2 a1 a2 a3
   unfold PH at this
   rw [qkg hu] at this
   exact this
 ·rw [f3]; simp
theorem SlG.ld {j:Int}{hs':List (Nat × List XV)}{e0:α}(H:SlG R n ty v l hs' b c)(he:hs'=(j.toNat,cs)::hs)(hg:z2 l j=some e0)(hS:Sep h lo (c++S)){o:Nat}(ho:o<cs.length) : xld h none (.ptr b (j.toNat*n+o))=cs[o]? := by
 obtain ⟨A,Z,T,_,h2,h3,_⟩:=H.blk he hg hS
 exact qyc h3 h2 ho
theorem SlG.lds {j:Int}{hs':List (Nat × List XV)}{e0:α}(H:SlG R n ty v l hs' b c)(he:hs'=(j.toNat,cs)::hs)(hg:z2 l j=some e0)(hS:Sep h lo (c++S)){o m:Nat}(ho:o+m≤cs.length) : xld h (some m) (.ptr b (j.toNat*n+o))=some (.agg ((cs.drop o).take m)):=by
 obtain ⟨A,Z,T,_,h2,h3,_⟩:=H.blk he hg hS
 exact qwx h3 h2 ho
theorem SlF.one {f:α→List XV}(H:SlF f n ty v l c) : XV.one v=true:=by
 rcases H with ⟨rfl,rfl,rfl⟩ | ⟨b,cap,junk,rfl,hcp,hj,rfl,hjf⟩ <;> rfl
theorem SlN.one (H:SlN R n ty v l c) : XV.one v=true:=by
 rcases H with ⟨rfl,rfl,rfl⟩ | ⟨b,cap,junk,css,oss,rfl,_⟩ <;> rfl
variable {c0 c1 c3 c4 c5:List Obj}
variable {c6 c7 c8 c9 c10 c11 c12 c13 c14 c15:List Obj}
theorem qhn {f:α→List XV}{hst m:Nat}{ld wr:List Nat}{z:List XV}{ps:List (Nat × Nat × XV)}(l:List α)(hS:Sep h lo S)(e:fill z ps=some (l.map f).flatten)(hm:m=l.length)(K:∀ v c h',SlF f n ty v l c→Sep h' lo (c++S)→(h.length≤h'.length∧∀ b∈c.flatMap Obj.fp,h.length≤b)→Run E W (.draw hst r ld wr::k) Q (fr.put d v) h') : Put2D E W (xy h ty m z ps) d hst r ld wr k Q fr:=by
 subst hm
 have e2:xy h ty l.length z ps=some (.row h.length 0 l.length l.length,h++[⟨(l.map f).flatten,ty,true⟩]):=by simp [xy,e]
 rw [e2]
 exact K _ [Blk1 h.length (l.map f).flatten ty] _ SlF.row0 (hS.new _ ty) ⟨by simp,by simp [Blk1]⟩
theorem z6 {m o:Nat}{u:XV}{us cs cs':List XV}(hu:u.cells=us)(hS:Sep h lo ([Blk1 b cs ty]++S))(hw:∀ b,lo b→W b=true)(h1:us.length=m)(h2:us.all XV.one=true)(h3:o+m≤cs.length)(e:jk cs o us=cs')
  (H:∀ h',Sep h' lo ([Blk1 b cs' ty]++S)→Run E W (.ops r::k) Q (fr.put d .undef) h') : Put2 E W (pst W h m (.ptr b o) u) d r k Q fr:=by
 subst hu; exact qi8 hS hw h1 h2 h3 e H
end
end Go.Proofs.Ytddkoiapboeemaa.X
