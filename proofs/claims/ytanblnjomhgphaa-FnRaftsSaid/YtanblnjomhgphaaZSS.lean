/- A machine of this claim's own, sound for the model's, and plain theory over it: no condition (1). -/
import Derived.Test.YtanblnjomhgphaaZP
open List renaming all_append→a2l,all_eq_true→a0x,append_assoc→t7,cons_append→a2g,drop_append_of_le_length→a1s,drop_drop→a2b,drop_left→a3a,drop_of_length_le→a3l,drop_zero→t3,flatMap_append→a1z,flatten_append→a1r,flatten_cons→a0y,getElem?_append_left→a0a,getElem?_append_right→a0i,getElem?_eq_some_iff→r9,length_append→t9,length_drop→a04,length_eq_zero_iff→a3h,length_set→a1t,length_take→a0f,length→p9,mem_append→a0w,mem_cons→a13,mem_of_mem_drop→a2t,nil_append→a08,replicate→a0t,take_append_of_le_length→a1g,take_left→a2x,take_of_length_le→a25
open Nat renaming le_refl→a0d,mul_le_mul_right→a1d,succ_mul→a2o,zero_add→o8
open Option renaming getD_none→a0v,getD_some→a0r
open Go.Proofs.Ytanblnjomhgphaa.X.Sep renaming blk0→a3s
set_option linter.unusedVariables false
set_option linter.unusedSimpArgs false
namespace Go.Proofs.Ytanblnjomhgphaa.X
open Go
section
variable {h:Heap}{lo:Nat→Prop}{S c0 c1 c2 c3 c4 c5 c6 c7 c8 c9:List Obj}
theorem Sep.m1 (H:Sep h lo (c0++(c1++S))) : Sep h lo (c1++(c0++S)):=H.perm (by
 rw [←t7,← t7]; exact List.perm_append_comm.append_right S)
theorem kc {a b s:List Obj} : (a++(b++s)).Perm (b++(a++s)):=by
 rw [←t7,← t7]; exact List.perm_append_comm.append_right s
theorem Sep.m2 (H:Sep h lo (c0++(c1++(c2++S)))) : Sep h lo (c2++(c0++(c1++S))):=H.perm ((kc.append_left c0).trans kc)
theorem Sep.m3 (H:Sep h lo (c0++(c1++(c2++(c3++S))))) : Sep h lo (c3++(c0++(c1++(c2++S)))):=H.perm ((((kc.append_left c1).trans kc).append_left c0).trans kc)
theorem Sep.m4 (H:Sep h lo (c0++(c1++(c2++(c3++(c4++S)))))) : Sep h lo (c4++(c0++(c1++(c2++(c3++S))))):=H.perm ((((((kc.append_left c2).trans kc).append_left c1).trans kc).append_left c0).trans kc)
theorem Sep.m5 (H:Sep h lo (c0++(c1++(c2++(c3++(c4++(c5++S))))))) : Sep h lo (c5++(c0++(c1++(c2++(c3++(c4++S)))))):=H.perm ((((((((kc.append_left c3).trans kc).append_left c2).trans kc).append_left c1).trans kc).append_left c0).trans kc)
theorem Sep.m6 (H:Sep h lo (c0++(c1++(c2++(c3++(c4++(c5++(c6++S)))))))) : Sep h lo (c6++(c0++(c1++(c2++(c3++(c4++(c5++S))))))):=H.perm ((((((((((kc.append_left c4).trans kc).append_left c3).trans kc).append_left c2).trans kc).append_left c1).trans kc).append_left c0).trans kc)
theorem Sep.m7 (H:Sep h lo (c0++(c1++(c2++(c3++(c4++(c5++(c6++(c7++S))))))))) : Sep h lo (c7++(c0++(c1++(c2++(c3++(c4++(c5++(c6++S)))))))):=H.perm ((((((((((((kc.append_left c5).trans kc).append_left c4).trans kc).append_left c3).trans kc).append_left c2).trans kc).append_left c1).trans kc).append_left c0).trans kc)
theorem Sep.dc (H:Sep h lo (c0++S)) : Sep h lo S:=by
 induction c0 with
 | nil=>exact H
 | cons a r ih=>exact ih H.drop
theorem Sep.cperm (p:c0.Perm c1)(H:Sep h lo (c0++S)) : Sep h lo (c1++S):=H.perm (p.append_right S)
theorem Sep.bk (b:Nat)(cs:List XV)(ty:TypeId)(H:Sep h lo ([Blk1 b cs ty]++S)) : z9 h b=some ⟨cs,ty,true⟩:=a3s H
end

section
variable {E:Env}{W:Nat→Bool}{k:List It}{Q:QE}{fr:Fr}{h:Heap}{lo:Nat→Prop}{n0:Nat}{S:List Obj}{d:Option Nat}{r:List XOper}{b:Nat}{ty:TypeId}{α:Type}{f:α→List XV}{l l2 l3:List α}{sz:TypeId→Nat}{n bytes:Nat}{v x:XV}{c c2:List Obj}

def SlF (f:α→List XV)(n:Nat)(ty:TypeId)(v:XV)(l:List α)(c:List Obj) : Prop :=
 (v = .nil∧l=[]∧c=[])∨∃ (b cap:Nat) (junk:List XV),v = .row b 0 l.length cap∧l.length≤cap∧junk.length=(cap - l.length)*n∧c=[Blk1 b ((l.map f).flatten++junk) ty]∧((∀ x,(f x).all XV.free1=true)→junk.all XV.free1=true)

theorem SlF.nil:SlF f n ty .nil [] [] := .inl ⟨rfl,rfl,rfl⟩
theorem SlF.row0 {b:Nat} : SlF f n ty (.row b 0 l.length l.length) l [Blk1 b (l.map f).flatten ty] := .inr ⟨b,l.length,[],rfl,a0d _,by simp,by simp,fun _=>rfl⟩
theorem SlF.len (H:SlF f n ty v l c) : qg1 v=some (.int .i64 l.length):=by
 rcases H with ⟨rfl,rfl,rfl⟩ | ⟨b,cap,junk,rfl,_,_,_,_⟩ <;> rfl
theorem SlF.plen (H:SlF f n ty v l c) : qg1 v=some (.int .i64 (p9 l:Int)):=H.len

theorem qhd {cs junk:List XV}{m:Nat}(hb:z9 h b=some ⟨cs++junk,ty,true⟩)(hm:m=cs.length) : kw h b 0 m=some cs:=by
 rw [qf2 hb,if_pos (by simp; omega),t3,hm,a2x]

theorem SlF.first (H:SlF f n ty v l c)(hS:Sep h lo (c++S))(hf:∀ x,(f x).length=n) : yd h n v=some (l.length,(l.map f).flatten):=by
 rcases H with ⟨rfl,rfl,rfl⟩ | ⟨b,cap,junk,rfl,hc,hj,rfl,hjf⟩
 ·rfl
 ·unfold yd
  dsimp only
  rw [qhd (Sep.bk _ _ _ hS) (qa5 hf).symm]

theorem qq3 {junk:List XV}(hb:z9 h b=some ⟨(l.map f).flatten++junk,ty,true⟩)(hsz:sz ty=n)(hf:∀ x,(f x).length=n){i:Nat}{x:α}(hx:l[i]? = some x) : kw h b (0+i*sz ty) (sz ty)=some (f x):=by
 have hi:i<l.length:=(r9.1 hx).1
 have h3:(i+1)*n≤l.length*n:=a1d n hi
 rw [a2o] at h3
 have hl:=qa5 (l:=l) hf
 rw [hsz,o8,qf2 hb,if_pos (by rw [t9,hl]; omega)]
 have:=qov (f:=f) hf (o:=0) (m:=n) hx (by omega)
 simp only [Nat.add_zero,t3] at this
 rw [a1s (by rw [hl]; omega),a1g (by rw [a04,hl]; omega),this,a25 (by rw [hf]; exact a0d _)]

theorem SlF.snap {m:Nat}(H:SlF f n ty v l c)(hS:Sep h lo (c++S))(hsz:sz ty=n)(hf:∀ x,(f x).length=n)(hc:∀ x,(f x).mapM (snap h sz m)=some (f x)) : snap h sz (m+1) v=some (lst f l):=by
 rcases H with ⟨rfl,rfl,rfl⟩ | ⟨b,cap,junk,rfl,hcp,hj,rfl,hjf⟩
 ·rfl
 ·have hb:=Sep.bk _ _ _ hS
  simp only [X.snap,hb]
  rw [ub (f:=f) (l:=l) (fun i x hx=>by rw [qq3 hb hsz hf hx]; exact hc x)]
  rfl
theorem SlF.cut {m:Nat}{keep:Bool}(H:SlF f n ty v l c)(hS:Sep h lo (c++S))(hge:∀ b,lo b→n0≤b)(hsz:sz ty=n)(hf:∀ x,(f x).length=n)(hc:∀ x,(f x).mapM (cut n0 h sz keep m)=some (f x)) : cut n0 h sz keep (m+1) v=some (lst f l):=by
 rcases H with ⟨rfl,rfl,rfl⟩ | ⟨b,cap,junk,rfl,hcp,hj,rfl,hjf⟩
 ·rfl
 ·have hb:=Sep.bk _ _ _ hS
  simp only [X.cut,hb]
  rw [if_pos (hge _ (Sep.ge hS)),ub (f:=f) (l:=l) (fun i x hx=>by rw [qq3 hb hsz hf hx]; exact hc x)]
  rfl

theorem wh (H:SlF f n ty v l c)(hS:Sep h lo (c++S))(hw:∀ b,lo b→W b=true)(hf:∀ x,(f x).length=n)(h1:∀ x,(f x).all XV.one=true)(hx:yd h n x=some (l2.length,(l2.map f).flatten))(hF:ju bytes l l2=some l3)
  (K:∀ v' c' h',SlF f n ty v' l3 c'→Sep h' lo (c'++S)→Run E W (.ops r::k) Q (fr.put d v') h') : Put2 E W (xd W h ty n bytes v x) d r k Q fr:=by
 unfold ju at hF
 split at hF
 case isFalse=>cases hF
 rename_i hs
 cases hF
 rcases H with ⟨rfl,rfl,rfl⟩ | ⟨b,cap,junk,rfl,hcp,hj,rfl,hjf⟩
 ·rw [q0m hx]
  by_cases h0:l2.length=0
  ·have hl:l2=[]:=a3h.1 h0
   subst hl
   rw [if_pos h0]
   exact K .nil [] h SlF.nil hS
  ·rw [if_neg h0,if_pos (by simpa using hs)]
   exact K _ [Blk1 h.length (l2.map f).flatten ty] _ (by rw [a08]; exact SlF.row0) (Sep.new hS _ ty)
 ·have hb:=Sep.bk _ _ _ hS
  have hwb:=hw b (Sep.ge hS)
  have hl:=qa5 (l:=l) hf
  have hl2:=qa5 (l:=l2) hf
  unfold xd
  simp only [ze,XO.ev,hx]
  by_cases hle:l.length+l2.length≤cap
  ·rw [if_pos hle]
   have hmul:l2.length*n≤(cap - l.length)*n:=a1d n (by omega)
   have e:jv ((l.map f).flatten++junk) (0+l.length*n) (l2.map f).flatten=(((l++l2).map f).flatten)++junk.drop (l2.length*n):=by
    unfold jv
    rw [o8,← hl,a2x,List.drop_append,a3l (by omega),a08,List.map_append,a1r,t7,t7]
    congr 3
    rw [hl2]
    omega
   rw [qkc hwb hb (by rw [t9,hl,hl2,hj]; omega) (qxt h1),e]
   refine K _ _ _ (.inr ⟨b,cap,junk.drop (l2.length*n),?_,?_,?_,rfl,fun hh=>?_⟩) (Sep.set hS _)
   ·rw [t9]
   ·rw [t9]; exact hle
   ·rw [a04,hj,t9,Nat.sub_add_eq,Nat.sub_mul (cap - l.length)]
   ·have:=hjf hh
    rw [a0x] at this ⊢
    exact fun x hx=>this x (a2t hx)
  ·rw [if_neg hle,hb,qhd hb hl.symm]
   dsimp only
   rw [if_pos ⟨hwb,rfl,hs,qxt h1⟩]
   have hh:=(Sep.kill hS).new ((l.map f).flatten++(l2.map f).flatten) ty
   rw [ye] at hh
   refine K _ [Blk1 h.length ((l.map f).flatten++(l2.map f).flatten) ty] _ (.inr ⟨h.length,_,[],?_,a0d _,by simp,?_,fun _=>rfl⟩) hh
   ·rw [t9]
   ·simp
theorem qia {m:Int}{z:α}(hS:Sep h lo S)(hl:mkN bytes m z=some l)(hz:(f z).length=n)
  (K:∀ v c h',SlF f n ty v l c→Sep h' lo (c++S)→Run E W (.ops r::k) Q (fr.put d v) h') : Put2 E W (qk1 W h ty n bytes (f z) (.int .i64 m) (.int .i64 m)) d r k Q fr :=
 q13 hS hl hz (fun b h' hS'=>K _ _ h' SlF.row0 hS')
theorem kg {m:Nat}{z:List XV}{ps:List (Nat × Nat × XV)}(l:List α)(hS:Sep h lo S)(e:fill z ps=some (l.map f).flatten)(hm:m=l.length)(K:∀ v c h',SlF f n ty v l c→Sep h' lo (c++S)→Run E W (.ops r::k) Q (fr.put d v) h') : Put2 E W (xe h ty m z ps) d r k Q fr:=by
 subst hm
 exact qgf hS e (fun b h' hS'=>K _ _ h' SlF.row0 hS')

def SlB (v:XV)(b:Nat) : Prop:=∃ len cap,v = .row b 0 len cap
theorem SlF.isrow (H:SlF f n ty v l c)(h0:l≠[]) : ∃ b,SlB v b:=by
 rcases H with ⟨rfl,rfl,rfl⟩ | ⟨b,cap,junk,rfl,_,_,_,_⟩
 ·exact absurd rfl h0
 ·exact ⟨b,_,_,rfl⟩
theorem j7 {i:Int}{x:α}(hg:zy l i=some x) : l≠[]:=by
 rintro rfl
 have:=yn hg
 simp at this
theorem SlF.ia (H:SlF f n ty v l c)(hb:SlB v b){kk:IntKind}{i:Int}{x:α}(hg:zy l i=some x) : xia n v (.int kk i)=some (.ptr b (i.toNat*n)):=by
 obtain ⟨len,cap,rfl⟩:=hb
 obtain ⟨g0,g1,g2⟩:=yn hg
 rcases H with ⟨h0,_,_⟩ | ⟨b',cap',junk,hv,_,_,_,_⟩
 ·cases h0
 ·cases hv
  exact qjc g0 g1
theorem SlF.ld (H:SlF f n ty v l c)(hS:Sep h lo (c++S))(hb:SlB v b){i:Int}{x:α}(hg:zy l i=some x)(hf:∀ x,(f x).length=n){o:Nat}(ho:o+1≤n) : xld h none (.ptr b (i.toNat*n+o))=(f x)[o]? := by
 obtain ⟨len,cap,rfl⟩:=hb
 obtain ⟨g0,g1,g2⟩:=yn hg
 rcases H with ⟨h0,_,_⟩ | ⟨b',cap',junk,hv,hcp,hj,rfl,hjf⟩
 ·cases h0
 ·cases hv
  rw [ja (Sep.bk _ _ _ hS)]
  have h4:(i.toNat+1)*n≤l.length*n:=a1d n (by omega)
  rw [a2o] at h4
  rw [a0a (by rw [qa5 hf]; omega),zeq hf g2 (by omega)]
theorem SlF.lds (H:SlF f n ty v l c)(hS:Sep h lo (c++S))(hb:SlB v b){i:Int}{x:α}(hg:zy l i=some x)(hf:∀ x,(f x).length=n){o m:Nat}(ho:o+m≤n) : xld h (some m) (.ptr b (i.toNat*n+o))=some (.agg (((f x).drop o).take m)):=by
 obtain ⟨len,cap,rfl⟩:=hb
 obtain ⟨g0,g1,g2⟩:=yn hg
 rcases H with ⟨h0,_,_⟩ | ⟨b',cap',junk,hv,hcp,hj,rfl,hjf⟩
 ·cases h0
 ·cases hv
  have h4:(i.toNat+1)*n≤l.length*n:=a1d n (by omega)
  rw [a2o] at h4
  have hl:=qa5 (l:=l) hf
  rw [zw (Sep.bk _ _ _ hS),if_pos (by rw [t9,hl]; omega),a1s (by rw [hl]; omega),a1g (by rw [a04,hl]; omega),qov hf g2 ho]
theorem qje {i:Int}{o m:Nat}{u:XV}{x x':α}(H:SlF f n ty v l c)(hS:Sep h lo (c++S))(hw:∀ b,lo b→W b=true)(hb:SlB v b)(hg:zy l i=some x)(hf:∀ x,(f x).length=n)(h1:u.cells.length=m)(h2:u.cells.all XV.one=true)(h3:o+m≤n)(e:jv (f x) o u.cells=f x')
  (K:∀ c' h',SlF f n ty v (l.set i.toNat x') c'→Sep h' lo (c'++S)→Run E W (.ops r::k) Q (fr.put d .undef) h') : Put2 E W (pst W h m (.ptr b (i.toNat*n+o)) u) d r k Q fr:=by
 obtain ⟨len,cap,rfl⟩:=hb
 obtain ⟨g0,g1,g2⟩:=yn hg
 rcases H with ⟨h0,_,_⟩ | ⟨b',cap',junk,hv,hcp,hj,rfl,hjf⟩
 ·cases h0
 ·cases hv
  have h4:(i.toNat+1)*n≤l.length*n:=a1d n (by omega)
  rw [a2o] at h4
  have hl:=qa5 (l:=l) hf
  refine qm8 (cs':=((l.set i.toNat x').map f).flatten++junk) hS (hw _ (Sep.ge hS)) h1 h2 (by rw [t9,hl]; omega) ?_ (fun h' hS'=>K [Blk1 b (((l.set i.toNat x').map f).flatten++junk) ty] h' (.inr ⟨b,cap,junk,by rw [a1t],by rw [a1t]; exact hcp,by rw [a1t]; exact hj,rfl,hjf⟩) hS')
  have hu:u.cells.length=m:=h1
  have:=zbt (l:=l) (vs:=u.cells) hf g2 (by omega) e
  rw [←this]
  unfold jv
  rw [a1g (by rw [hl]; omega),a1s (by rw [hl]; omega)]
  simp [t7]

theorem kt {i:Int}{x x':α}(hg:zy l i=some x) : zy (l.set i.toNat x') i=some x':=by
 obtain ⟨g0,g1,g2⟩:=yn hg
 unfold zy
 rw [if_pos g0,List.getElem?_set_self (by omega)]

def Obj.pf (o:Obj) : Prop:=∀ h n,o.ok h→o.ok (purge n h)
theorem Blk1.pf {b:Nat}{cs:List XV}(hc:cs.all XV.free1=true) : (Blk1 b cs ty).pf:=by
 intro h n hk
 have hk:h[b]? = some ⟨cs,ty,true⟩:=hk
 show (purge n h)[b]? = some ⟨cs,ty,true⟩
 rcases Nat.lt_or_ge b n with hb | hb
 ·rw [qdz hb]; exact hk
 ·rw [qi8 hb,hk,Option.map_some]
  unfold qe9
  rw [if_pos hc]
theorem qqu (hf:∀ x,(f x).all XV.free1=true) : ((l.map f).flatten).all XV.free1=true:=by
 rw [List.all_flatten,List.all_map,a0x]
 intro x _
 exact hf x
theorem SlF.pf (H:SlF f n ty v l c)(hf:∀ x,(f x).all XV.free1=true) : ∀ o∈c,o.pf:=by
 rcases H with ⟨rfl,rfl,rfl⟩ | ⟨b,cap,junk,rfl,hcp,hj,rfl,hjf⟩
 ·intro o ho; simp at ho
 ·intro o ho
  simp only [List.mem_singleton] at ho
  subst ho
  exact Blk1.pf (by rw [a2l,qqu hf,hjf hf]; rfl)
theorem SlF.free1 (H:SlF f n ty v l c) : v.free1=true:=by
 rcases H with ⟨rfl,rfl,rfl⟩ | ⟨b,cap,junk,rfl,hcp,hj,rfl,hjf⟩ <;> rfl
theorem qda:∀ o∈([] : List Obj),o.pf:=fun o ho=>by simp at ho
theorem wu (h1:∀ o∈c,o.pf)(h2:∀ o∈c2,o.pf) : ∀ o∈c++c2,o.pf:=fun o ho=>by
 rcases a0w.1 ho with ho | ho
 ·exact h1 o ho
 ·exact h2 o ho
theorem Sep.purge {T:List Obj}{h':Heap}(H0:Sep h lo S)(H:Sep h' (geL h.length) T)(hp:∀ o∈T,o.pf)(hk:∀ b,b<h.length→h'[b]? = h[b]?) : Sep (purge h.length h') lo (T++S):=by
 have hlen:h.length≤h'.length:=H.base _ (a0d _)
 refine ⟨fun b hb=>H0.base b (by rw [qdy] at hb; omega),?_,fun b hb=>?_,fun o ho=>?_⟩
 ·rw [a1z,List.nodup_append]
  refine ⟨H.nodup,H0.nodup,fun a ha b hb=>?_⟩
  have h1:h.length≤a:=(H.ran a ha).1
  have h2:=(H0.ran b hb).2
  omega
 ·rw [a1z,a0w] at hb
  rw [qdy]
  rcases hb with hb | hb
  ·exact ⟨H0.base b (H.ran b hb).1,(H.ran b hb).2⟩
  ·exact ⟨(H0.ran b hb).1,by have:=(H0.ran b hb).2; omega⟩
 ·rcases a0w.1 ho with ho | ho
  ·exact hp o ho h' h.length (H.ok o ho)
  ·exact o.loc h _ (fun b hb=>by
    have hlt:=(H0.ran b (List.mem_flatMap.2 ⟨o,ho,hb⟩)).2
    rw [qdz hlt,hk b hlt]) (H0.ok o ho)
theorem Ret.keep {g:Nat}{args:List XV}{Q:XV→Heap→Prop}(H:Ret E W g args h Q) : Ret E W g args h (fun v h'=>Q v h'∧XKeep W h h'):=by
 obtain ⟨N,v,h',h1,h2⟩:=H
 exact ⟨N,v,h',⟨h1,ql5 E N W g args h v h' (h2 N (a0d _))⟩,h2⟩

theorem nle {a b:Nat}(h:Nat.ble a b=true) : a≤b:=Nat.le_of_ble_eq_true h
theorem yx {g:Nat}{caps args:List XV}{R:XV→Heap→Prop}(hm:E.mode g=0)(hc:Ret E W g (args++caps) h R)(hR:∀ v h',R v h'→Run E W (.ops r::k) Q (fr.put d v) h') : CallK E W (.fn g caps) args d r k Q fr h:=zcs hm hc hR
theorem qxc {g hs:Nat}{ld wr:List Nat}{caps args:List XV}{R:XV→Heap→Prop}(hm:E.mode g=0)(hc:Ret E W g (args++caps) h R)(hR:∀ v h',R v h'→Run E W (.draw hs r ld wr::k) Q (fr.put d v) h') : CallD E W (.fn g caps) args d hs r ld wr k Q fr h:=by
 unfold CallD CallW
 dsimp only
 rw [hm]
 exact hc.mono hR
theorem qgh {g:Nat}{caps args as':List XV}{R:XV→Heap→Prop}(hm:E.mode g=2)(hS:Sep h lo S)(hs:args.mapM (snap h E.sz 9)=some as')(hc:Ret E (fun b=>decide (h.length≤b)) g (as'++caps) h R)
  (hR:∀ v h',R v h'→∃ T,v.free=true∧Sep h' (geL h.length) T∧(∀ o∈T,o.pf)∧(∀ h2,Sep h2 lo (T++S)→Run E W (.ops r::k) Q (fr.put d v) h2)) : CallK E W (.fn g caps) args d r k Q fr h:=by
 refine zbh hm hs hc.keep ?_
 rintro v h' ⟨h1,h2⟩
 obtain ⟨T,a1,a2,a3,a4⟩:=hR v h' h1
 exact ⟨a1,a4 _ (hS.purge a2 a3 (fun b hb=>h2.same b hb (by simpa using hb)))⟩
end
end Go.Proofs.Ytanblnjomhgphaa.X
namespace Go.Proofs.Ytanblnjomhgphaa.X
open Go

abbrev Rep (α:Type):=α→List XV→List Obj→Prop

inductive All3 {α:Type} (R:Rep α) : List α→List (List XV)→List (List Obj)→Prop
 | nil:All3 R [] [] []
 | cons {x:α} {cs:List XV} {os:List Obj} {l css oss} : R x cs os→All3 R l css oss→All3 R (x::l) (cs::css) (os::oss)

structure RepOk {α:Type} (sz:TypeId→Nat) (R:Rep α) (f:α→List XV) (n:Nat) : Prop where
 len:∀ {x cs os},R x cs os→cs.length=n
 flen:∀ x,(f x).length=n
 one:∀ {x cs os},R x cs os→cs.all XV.one=true
 snap:∀ {x cs os h lo S} (m:Nat),R x cs os→Sep h lo (os++S)→cs.mapM (snap h sz (m+2))=some (f x)
 cut:∀ {x cs os h lo n0 keep S} (m:Nat),R x cs os→Sep h lo (os++S)→(∀ b,lo b→n0≤b)→cs.mapM (cut n0 h sz keep (m+2))=some (f x)
 free:∀ {x cs os},R x cs os→cs.all XV.free1=true
 pf:∀ {x cs os},R x cs os→∀ o∈os,o.pf

section
variable {α:Type}{R:Rep α}{f:α→List XV}{n:Nat}{sz:TypeId→Nat}{l l2:List α}{css css2:List (List XV)}{oss oss2:List (List Obj)}

theorem All3.len (H:All3 R l css oss) : css.length=l.length∧oss.length=l.length:=by
 induction H with
 | nil=>exact ⟨rfl,rfl⟩
 | cons _ _ ih=>simp [ih.1,ih.2]
theorem All3.app (H:All3 R l css oss)(H2:All3 R l2 css2 oss2) : All3 R (l++l2) (css++css2) (oss++oss2):=by
 induction H with
 | nil=>exact H2
 | cons h _ ih=>exact .cons h ih
theorem All3.flen (H:All3 R l css oss)(hl:∀ {x cs os},R x cs os→cs.length=n) : css.flatten.length=l.length*n:=by
 induction H with
 | nil=>simp
 | cons h _ ih=>rw [a0y,t9,ih,hl h,List.length_cons,a2o]; omega
theorem All3.at (H:All3 R l css oss) : ∀ {i:Nat} {x:α},l[i]? = some x→∃ css1 cs css3 oss1 os oss3,css=css1++cs::css3∧oss=oss1++os::oss3∧R x cs os∧All3 R (l.take i) css1 oss1∧All3 R (l.drop (i+1)) css3 oss3:=by
 induction H with
 | nil=>intro i x hx; simp at hx
 | cons h H ih =>
  rename_i x0 cs0 os0 l0 c0 o0
  intro i x hx
  cases i with
  | zero =>
   simp at hx
   subst hx
   exact ⟨[],cs0,c0,[],os0,o0,rfl,rfl,h,.nil,by simpa using H⟩
  | succ i =>
   obtain ⟨c1,cs,c3,o1,os,o3,rfl,rfl,a3,a4,a5⟩:=ih (i:=i) (x:=x) (by simpa using hx)
   exact ⟨cs0::c1,cs,c3,os0::o1,os,o3,rfl,rfl,a3,.cons h a4,by simpa using a5⟩
theorem All3.one (H:All3 R l css oss)(h1:∀ {x cs os},R x cs os→cs.all XV.one=true) : css.flatten.all XV.one=true:=by
 induction H with
 | nil=>rfl
 | cons h _ ih=>rw [a0y,a2l,h1 h,ih]; rfl
theorem All3.free (H:All3 R l css oss)(h1:∀ {x cs os},R x cs os→cs.all XV.free1=true) : css.flatten.all XV.free1=true:=by
 induction H with
 | nil=>rfl
 | cons h _ ih=>rw [a0y,a2l,h1 h,ih]; rfl
theorem All3.pf (H:All3 R l css oss)(h1:∀ {x cs os},R x cs os→∀ o∈os,o.pf) : ∀ o∈oss.flatten,o.pf:=by
 induction H with
 | nil=>intro o ho; simp at ho
 | cons h _ ih =>
  intro o ho
  rw [a0y,a0w] at ho
  rcases ho with ho | ho
  ·exact h1 h o ho
  ·exact ih o ho
theorem qbf {β:Type}{a b:List (List β)}{x:List β} : (a++x::b).flatten=a.flatten++(x++b.flatten):=by simp

def SlN (R:Rep α)(n:Nat)(ty:TypeId)(v:XV)(l:List α)(c:List Obj) : Prop :=
 (v = .nil∧l=[]∧c=[])∨∃ (b cap:Nat) (junk:List XV) (css:List (List XV)) (oss:List (List Obj)),v = .row b 0 l.length cap∧l.length≤cap∧junk.length=(cap - l.length)*n∧junk.all XV.free1=true∧All3 R l css oss∧c.Perm (Blk1 b (css.flatten++junk) ty::oss.flatten)

def SlH (R:Rep α)(n:Nat)(ty:TypeId)(v:XV)(l:List α)(i b:Nat)(A Z:List XV)(rest:List Obj) : Prop :=
 ∃ (cap:Nat) (junk:List XV) (css1 css3:List (List XV)) (oss1 oss3:List (List Obj)),v = .row b 0 l.length cap∧l.length≤cap∧junk.length=(cap - l.length)*n∧junk.all XV.free1=true∧i<l.length∧All3 R (l.take i) css1 oss1∧All3 R (l.drop (i+1)) css3 oss3∧A=css1.flatten∧Z=css3.flatten++junk∧rest=oss1.flatten++oss3.flatten
end

section
variable {E:Env}{W:Nat→Bool}{k:List It}{Q:QE}{fr:Fr}{h:Heap}{lo:Nat→Prop}{n0:Nat}{S:List Obj}{d:Option Nat}{r:List XOper}{b:Nat}{ty:TypeId}{α:Type}{R:Rep α}{f:α→List XV}{l l2 l3:List α}{sz:TypeId→Nat}{n bytes:Nat}{v x:XV}{c c2:List Obj}{i:Nat}{A Z cs:List XV}{os rest:List Obj}{e:α}

theorem SlN.nil:SlN R n ty .nil [] [] := .inl ⟨rfl,rfl,rfl⟩
theorem SlN.len (H:SlN R n ty v l c) : qg1 v=some (.int .i64 (p9 l:Int)):=by
 rcases H with ⟨rfl,rfl,rfl⟩ | ⟨b,cap,junk,css,oss,rfl,_⟩ <;> rfl
theorem SlN.perm (H:SlN R n ty v l c)(p:c.Perm c2) : SlN R n ty v l c2:=by
 rcases H with ⟨rfl,rfl,rfl⟩ | ⟨b,cap,junk,css,oss,h1,h2,h3,h4,h5,h6⟩
 ·exact .inl ⟨rfl,rfl,List.nil_perm.1 p⟩
 ·exact .inr ⟨b,cap,junk,css,oss,h1,h2,h3,h4,h5,p.symm.trans h6⟩
theorem SlN.free1 (H:SlN R n ty v l c) : v.free1=true:=by
 rcases H with ⟨rfl,rfl,rfl⟩ | ⟨b,cap,junk,css,oss,rfl,_⟩ <;> rfl
theorem SlN.pf (H:SlN R n ty v l c)(hR:RepOk sz R f n) : ∀ o∈c,o.pf:=by
 rcases H with ⟨rfl,rfl,rfl⟩ | ⟨b,cap,junk,css,oss,h1,h2,h3,h4,h5,h6⟩
 ·intro o ho; simp at ho
 ·intro o ho
  rcases a13.1 (h6.mem_iff.1 ho) with rfl | ho
  ·exact Blk1.pf (by rw [a2l,h5.free hR.free,h4]; rfl)
  ·exact h5.pf hR.pf o ho

theorem All3.reads {css:List (List XV)}{oss:List (List Obj)}{g:XV→Option XV}(H:All3 R l css oss)(hg:∀ (i:Nat) x cs os,l[i]? = some x→css[i]? = some cs→oss[i]? = some os→R x cs os→cs.mapM g=some (f x)) : ∀ (i:Nat) x,l[i]? = some x→∃ cs,css[i]? = some cs∧cs.mapM g=some (f x):=by
 intro i x hx
 obtain ⟨c1,cs,c3,o1,os,o3,rfl,rfl,a3,a4,a5⟩:=H.at hx
 have hi:i<l.length:=(r9.1 hx).1
 have e1:c1.length=i:=by rw [a4.len.1,a0f]; omega
 have e2:o1.length=i:=by rw [a4.len.2,a0f]; omega
 have e3:(c1++cs::c3)[i]? = some cs:=by rw [a0i (by omega),e1]; simp
 exact ⟨cs,e3,hg i x cs os hx e3 (by rw [a0i (by omega),e2]; simp) a3⟩
theorem qjf {css:List (List XV)}{junk:List XV}(hb:z9 h b=some ⟨css.flatten++junk,ty,true⟩)(hl:∀ cs∈css,cs.length=n){i:Nat}{cs:List XV}(hi:css[i]? = some cs) : kw h b (0+i*n) n=some cs:=by
 have key:∀ {css:List (List XV)} {i:Nat},(∀ cs∈css,cs.length=n)→css[i]? = some cs→∃ A Z,css.flatten=A++(cs++Z)∧A.length=i*n:=by
  intro css
  induction css with
  | nil=>intro i _ h; simp at h
  | cons c0 css ih =>
   intro i hl hi
   cases i with
   | zero=>simp at hi; subst hi; exact ⟨[],css.flatten,by simp,by simp⟩
   | succ i =>
    obtain ⟨A,Z,h1,h2⟩:=ih (i:=i) (fun cs hcs=>hl cs (by simp [hcs])) (by simpa using hi)
    exact ⟨c0++A,Z,by rw [a0y,h1,t7],by rw [t9,h2,hl c0 (by simp),a2o]; omega⟩
 obtain ⟨A,Z,h1,h2⟩:=key hl hi
 have hn:cs.length=n:=hl cs (List.mem_of_getElem? hi)
 rw [qf2 hb,o8,h1,if_pos (by simp; omega),← h2,t7,a3a,← hn,t7,a2x]
theorem All3.lens {css:List (List XV)}{oss:List (List Obj)}(H:All3 R l css oss)(hl:∀ {x cs os},R x cs os→cs.length=n) : ∀ cs∈css,cs.length=n:=by
 induction H with
 | nil=>intro cs hcs; simp at hcs
 | cons h _ ih =>
  intro cs hcs
  rcases a13.1 hcs with rfl | hcs
  ·exact hl h
  ·exact ih cs hcs
theorem qo7 {oss:List (List Obj)}{o1:List Obj} : ∀ {oss:List (List Obj)} {os:List Obj} {i:Nat},oss[i]? = some os→∃ T,(oss.flatten).Perm (os++T):=by
 intro oss
 induction oss with
 | nil=>intro os i h; simp at h
 | cons o oss ih =>
  intro os i hi
  cases i with
  | zero=>simp at hi; subst hi; exact ⟨oss.flatten,by rw [a0y]⟩
  | succ i =>
   obtain ⟨T,p⟩:=ih (i:=i) (by simpa using hi)
   refine ⟨o++T,?_⟩
   rw [a0y]
   exact (p.append_left o).trans kc

theorem SlN.snap (H:SlN R n ty v l c)(m:Nat)(hS:Sep h lo (c++S))(hsz:sz ty=n)(hR:RepOk sz R f n) : snap h sz (m+3) v=some (lst f l):=by
 rcases H with ⟨rfl,rfl,rfl⟩ | ⟨b,cap,junk,css,oss,rfl,h2,h3,h4,h5,h6⟩
 ·rfl
 ·have hS1:Sep h lo ((Blk1 b (css.flatten++junk) ty::oss.flatten)++S):=hS.cperm h6
  have hb:z9 h b=some ⟨css.flatten++junk,ty,true⟩:=a3s hS1
  have hS2:Sep h lo (oss.flatten++S):=Sep.drop hS1
  have hrd:=h5.reads (f:=f) (g:=X.snap h sz (m+2)) (fun i x cs os _ _ ho hr=>by
   obtain ⟨T,p⟩:=qo7 (oss:=oss) (o1:=[]) ho
   exact hR.snap (lo:=lo) (S:=T++S) m hr (by have:=hS2.cperm p; rwa [t7] at this))
  simp only [X.snap,hb,hsz]
  rw [ub (f:=f) (l:=l) (fun i x hx=>?_)]
  ·rfl
  ·obtain ⟨cs,g1,g2⟩:=hrd i x hx
   rw [qjf hb (h5.lens hR.len) g1]
   exact g2
theorem SlN.cut {keep:Bool}(H:SlN R n ty v l c)(m:Nat)(hS:Sep h lo (c++S))(hge:∀ b,lo b→n0≤b)(hsz:sz ty=n)(hR:RepOk sz R f n) : cut n0 h sz keep (m+3) v=some (lst f l):=by
 rcases H with ⟨rfl,rfl,rfl⟩ | ⟨b,cap,junk,css,oss,rfl,h2,h3,h4,h5,h6⟩
 ·rfl
 ·have hS1:Sep h lo ((Blk1 b (css.flatten++junk) ty::oss.flatten)++S):=hS.cperm h6
  have hb:z9 h b=some ⟨css.flatten++junk,ty,true⟩:=a3s hS1
  have hS2:Sep h lo (oss.flatten++S):=Sep.drop hS1
  have hrd:=h5.reads (f:=f) (g:=X.cut n0 h sz keep (m+2)) (fun i x cs os _ _ ho hr=>by
   obtain ⟨T,p⟩:=qo7 (oss:=oss) (o1:=[]) ho
   exact hR.cut (lo:=lo) (S:=T++S) m hr (by have:=hS2.cperm p; rwa [t7] at this) hge)
  simp only [X.cut,hb,hsz]
  rw [if_pos (hge _ (Sep.ge hS1)),ub (f:=f) (l:=l) (fun i x hx=>?_)]
  ·rfl
  ·obtain ⟨cs,g1,g2⟩:=hrd i x hx
   rw [qjf hb (h5.lens hR.len) g1]
   exact g2

theorem SlN.hole (H:SlN R n ty v l c)(hx:l[i]? = some e)(hS:Sep h lo (c++S)) : ∃ b A Z cs os rest,SlH R n ty v l i b A Z rest∧R e cs os∧Sep h lo ([Blk1 b (A++(cs++Z)) ty]++(os++(rest++S))):=by
 rcases H with ⟨rfl,rfl,rfl⟩ | ⟨b,cap,junk,css,oss,rfl,h2,h3,h4,h5,h6⟩
 ·simp at hx
 ·obtain ⟨c1,cs,c3,o1,os,o3,rfl,rfl,a3,a4,a5⟩:=h5.at hx
  refine ⟨b,c1.flatten,c3.flatten++junk,cs,os,o1.flatten++o3.flatten,⟨cap,junk,c1,c3,o1,o3,rfl,h2,h3,h4,(r9.1 hx).1,a4,a5,rfl,rfl,rfl⟩,a3,?_⟩
  refine hS.perm ?_
  refine (h6.append_right S).trans ?_
  rw [qbf,qbf]
  simp only [a2g,t7,a08]
  exact List.Perm.cons _ (kc (a:=o1.flatten) (b:=os))
theorem SlH.fill (H:SlH R n ty v l i b A Z rest)(hr:R e cs os) : SlN R n ty v (l.set i e) ([Blk1 b (A++(cs++Z)) ty]++(os++rest)):=by
 obtain ⟨cap,junk,c1,c3,o1,o3,rfl,h2,h3,h4,hi,a4,a5,rfl,rfl,rfl⟩:=H
 refine .inr ⟨b,cap,junk,c1++cs::c3,o1++os::o3,by rw [a1t],by rw [a1t]; exact h2,by rw [a1t]; exact h3,h4,?_,?_⟩
 ·rw [List.set_eq_take_append_cons_drop,if_pos hi]
  exact a4.app (.cons hr a5)
 ·rw [qbf,qbf]
  simp only [a2g,t7,a08]
  exact List.Perm.cons _ (kc (a:=os) (b:=o1.flatten))
theorem SlH.ia (H:SlH R n ty v l i b A Z rest){kk:IntKind}{j:Int}(h0:0≤j)(h1:j.toNat=i) : xia n v (.int kk j)=some (.ptr b (j.toNat*n)):=by
 obtain ⟨cap,junk,c1,c3,o1,o3,rfl,h2,h3,h4,hi,_⟩:=H
 exact qjc h0 (by omega)
theorem SlN.isrow (H:SlN R n ty v l c)(h0:l≠[]) : ∃ b,SlB v b:=by
 rcases H with ⟨rfl,rfl,rfl⟩ | ⟨b,cap,junk,css,oss,rfl,_⟩
 ·exact absurd rfl h0
 ·exact ⟨b,_,_,rfl⟩
theorem SlN.ia (H:SlN R n ty v l c)(hb:SlB v b){kk:IntKind}{j:Int}{x:α}(hg:zy l j=some x) : xia n v (.int kk j)=some (.ptr b (j.toNat*n)):=by
 obtain ⟨len,cap,rfl⟩:=hb
 obtain ⟨g0,g1,g2⟩:=yn hg
 rcases H with ⟨h0,_,_⟩ | ⟨b',cap',junk,css,oss,hv,_⟩
 ·cases h0
 ·cases hv
  exact qjc g0 g1
theorem zb9 {o p:Nat}(hb:z9 h b=some ⟨A++(cs++Z),ty,true⟩)(ha:A.length=p)(ho:o<cs.length) : xld h none (.ptr b (p+o))=cs[o]? := by
 rw [ja hb,a0i (by omega),ha,Nat.add_sub_cancel_left,a0a ho]
theorem zai {o p m:Nat}(hb:z9 h b=some ⟨A++(cs++Z),ty,true⟩)(ha:A.length=p)(ho:o+m≤cs.length) : xld h (some m) (.ptr b (p+o))=some (.agg ((cs.drop o).take m)):=by
 rw [zw hb,if_pos (by simp; omega),← ha,← a2b,a3a,a1s (by omega),a1g (by simp; omega)]
theorem q0z {o p m:Nat}{u:XV}{cs':List XV}(hS:Sep h lo ([Blk1 b (A++(cs++Z)) ty]++S))(hw:∀ b,lo b→W b=true)(ha:A.length=p)(h1:u.cells.length=m)(h2:u.cells.all XV.one=true)(h3:o+m≤cs.length)(e:jv cs o u.cells=cs')
  (K:∀ h',Sep h' lo ([Blk1 b (A++(cs'++Z)) ty]++S)→Run E W (.ops r::k) Q (fr.put d .undef) h') : Put2 E W (pst W h m (.ptr b (p+o)) u) d r k Q fr:=by
 refine qm8 hS (hw _ (Sep.ge hS)) h1 h2 (by simp; omega) ?_ K
 subst e
 unfold jv
 rw [←ha,List.take_append,a25 (by omega),Nat.add_sub_cancel_left,a1g (by omega)]
 rw [show A.length+o+u.cells.length=A.length+(o+u.cells.length) by omega,← a2b,a3a,a1s (by omega)]
 simp [t7]

theorem qkv (hf:∀ x,(f x).length=n){j:Nat}(hj:j≤l.length) : (l.map f).flatten=((l.take j).map f).flatten++((l.drop j).map f).flatten:=by
 rw [←a1r,← List.map_append,List.take_append_drop]
theorem SlF.trunc {n1:Nat}{f1:α→List XV}(H:SlF f1 n1 ty v l c){j:Int}{l2:List α}(hs:sl l 0 j=some l2)(hf:∀ x,(f1 x).length=n1)(hS:Sep h lo (c++S)) : ∃ v',w9 h ty n1 v none (some (.int .i64 j)) none=some v'∧SlF f1 n1 ty v' l2 c:=by
 obtain ⟨c1,c2,c3,rfl⟩:=qd4 hs
 rcases H with ⟨rfl,rfl,rfl⟩ | ⟨b,cap,junk,rfl,hcp,hj,rfl,hjf⟩
 ·have:j=0:=by simp at c3; omega
  subst this
  exact ⟨.nil,rfl,by simpa using SlF.nil⟩
 ·have hl:=qa5 (l:=l) hf
  have hb:=Sep.bk _ _ _ hS
  have hblk:(h[b]?).map Blk.ty=some ty:=by
   unfold z9 at hb
   split at hb
   ·rename_i kb hk
    rw [hk]
    split at hb
    ·cases hb; rfl
    ·cases hb
   ·cases hb
  refine ⟨.row b 0 j.toNat cap,?_,.inr ⟨b,cap,((l.drop j.toNat).map f1).flatten++junk,?_,?_,?_,?_,?_⟩⟩
  ·unfold w9 yc
   simp only [show (0:Int)≤j by omega,if_true,yy,a0v,a0r]
   rw [if_pos ⟨Nat.zero_le _,by omega,a0d _,(fun h=>by cases h),hblk⟩]
   simp
  ·rw [show Int.toNat 0=0 from rfl,t3,a0f]; congr 1; omega
  ·rw [show Int.toNat 0=0 from rfl,t3,a0f]; omega
  ·rw [t9,hj,qa5 hf,a04,show Int.toNat 0=0 from rfl,t3,a0f,← Nat.add_mul]
   congr 1
   omega
  ·rw [show Int.toNat 0=0 from rfl,t3,qkv hf (j:=j.toNat) (by omega),t7]
  ·intro hh
   rw [a2l,qqu hh,hjf hh]
   rfl
theorem SlF.slc {n1:Nat}{f1:α→List XV}(H:SlF f1 n1 ty v l c){i:Int}(h0:0≤i∧i≤l.length)(hS:Sep h lo (c++S)) : ∃ u,w9 h ty n1 v (some (.int .i64 i)) none none=some u:=by
 rcases H with ⟨rfl,rfl,rfl⟩ | ⟨b,cap,junk,rfl,hcp,hj,rfl,hjf⟩
 ·have:i=0:=by simp at h0; omega
  subst this
  exact ⟨.nil,rfl⟩
 ·have hb:=Sep.bk _ _ _ hS
  have hblk:(h[b]?).map Blk.ty=some ty:=by
   unfold z9 at hb
   split at hb
   ·rename_i kb hk
    rw [hk]
    split at hb
    ·cases hb; rfl
    ·cases hb
   ·cases hb
  refine ⟨.row b (0+i.toNat*n1) (l.length - i.toNat) (cap - i.toNat),?_⟩
  unfold w9 yc
  simp only [h0.1,if_true,yy,a0v,a0r]
  rw [if_pos ⟨by omega,hcp,a0d _,(fun h=>by cases h),hblk⟩]
theorem w3 {W:Nat→Bool}(hS:Sep h lo S)(hW:∀ b,lo b→W b=true)(b:Nat)(hb:h.length≤b) : (W b&&decide (h.length≤b))=true:=by
 rw [hW b (hS.base b hb),decide_eq_true hb]
 rfl

theorem qkl {v:XV}(h:v.free1=true) : v.free2=true:=by cases v <;> first | exact h | (cases h; done)
theorem qka {vs:List XV}(h:vs.all XV.free1=true) : (XV.agg vs).free2=true:=h
theorem qjx {vs:List XV}(h:vs.all XV.free1=true) : (XV.agg vs).free=true:=h
theorem qhm {vs:List XV}(h:vs.all XV.free2=true) : (XV.tup vs).free=true:=h
theorem zp {p:XV→Bool} : ([] : List XV).all p=true:=rfl
theorem qp {p:XV→Bool}{a:XV}{l:List XV}(h1:p a=true)(h2:l.all p=true) : (a::l).all p=true:=by rw [List.all_cons,h1,h2]; rfl

theorem z6 {z:List XV}(hS:Sep h lo S)(H:∀ b h',Sep h' lo ([Blk1 b z ty]++S)→Run E W (.ops r::k) Q (fr.put d (.ptr b 0)) h') : Put2 E W (qna W h ty z) d r k Q fr:=q18 hS H
theorem ko {m:Nat}{u:XV}{cs:List XV}(hS:Sep h lo S)(e:u.cells=cs)(h1:cs.length=m)(h2:cs.all XV.one=true)(H:∀ b h',Sep h' lo ([Blk1 b cs ty]++S)→Run E W (.ops r::k) Q (fr.put d (.ptr b 0)) h') : Put2 E W (qq4 W h ty m u) d r k Q fr:=q07 hS e h1 h2 H
theorem qoz {m o:Nat}{u:XV}{cs cs':List XV}(hS:Sep h lo ([Blk1 b cs ty]++S))(hw:∀ b,lo b→W b=true)(h1:u.cells.length=m)(h2:u.cells.all XV.one=true)(h3:o+m≤cs.length)(e:jv cs o u.cells=cs')
  (H:∀ h',Sep h' lo ([Blk1 b cs' ty]++S)→Run E W (.ops r::k) Q (fr.put d .undef) h') : Put2 E W (pst W h m (.ptr b o) u) d r k Q fr:=qm8 hS (hw _ (Sep.ge hS)) h1 h2 h3 e H
theorem jc {t:Nat}{ts:List Nat}{cs:List XV}(hS:Sep h lo ([Blk1 b cs ty]++S))(hw:∀ b,lo b→W b=true)(hf:fr t = .ptr b 0)(H:∀ h',Sep h' lo S→Run E W (.code (.frz ts)::k) Q (fr.put (some t) (.ref cs 0)) h') : Run E W (.code (.frz (t::ts))::k) Q fr h:=q1h hf hS (hw _ (Sep.ge hS)) H

theorem ux {z:List XV}{ps:List (Nat × Nat × XV)}(hS:Sep h lo (os++S))(e1:fill z ps=some cs)(hr:R e cs os)(hl:cs.length=n)(K:∀ v c h',SlN R n ty v [e] c→Sep h' lo (c++S)→Run E W (.ops r::k) Q (fr.put d v) h') : Put2 E W (xe h ty 1 z ps) d r k Q fr :=
 qgf hS e1 (fun b h' hS'=>K _ ([Blk1 b cs ty]++os) h' (.inr ⟨b,1,[],[cs],[os],rfl,a0d _,by simp,rfl,.cons hr .nil,by simp⟩) (by rw [t7]; exact hS'))
theorem qoc {z:List XV}(hS:Sep h lo S)(e1:fill z []=some [])(K:∀ v c h',SlN R n ty v [] c→Sep h' lo (c++S)→Run E W (.ops r::k) Q (fr.put d v) h') : Put2 E W (xe h ty 0 z []) d r k Q fr :=
 qgf hS e1 (fun b h' hS'=>K _ [Blk1 b [] ty] h' (.inr ⟨b,0,[],[],[],rfl,a0d _,by simp,rfl,.nil,by simp⟩) hS')
theorem All3.rep {z:List XV}(hz:R e z []) : ∀ m:Nat,All3 R (a0t m e) (a0t m z) (a0t m []):=by
 intro m
 induction m with
 | zero=>exact .nil
 | succ m ih=>exact .cons hz ih
theorem SlN.first (H:SlN R n ty v l c)(hS:Sep h lo (c++S))(hl:∀ {x cs os},R x cs os→cs.length=n) : ∃ css oss T,yd h n v=some (l.length,css.flatten)∧All3 R l css oss∧c.Perm (T++oss.flatten):=by
 rcases H with ⟨rfl,rfl,rfl⟩ | ⟨b,cap,junk,css,oss,rfl,h2,h3,h4,h5,h6⟩
 ·exact ⟨[],[],[],rfl,.nil,by simp⟩
 ·refine ⟨css,oss,[Blk1 b (css.flatten++junk) ty],?_,h5,h6⟩
  have hb:z9 h b=some ⟨css.flatten++junk,ty,true⟩:=a3s (hS.cperm h6)
  unfold yd
  dsimp only
  rw [qhd hb (h5.flen hl).symm]
theorem qa8 (H:SlN R n ty v l c){ty2:TypeId}(H2:SlN R n ty2 x l2 c2)(hS:Sep h lo (c++(c2++S)))(hw:∀ b,lo b→W b=true)(hl:∀ {x cs os},R x cs os→cs.length=n)(h1:∀ {x cs os},R x cs os→cs.all XV.one=true)(hF:ju bytes l l2=some l3)
  (K:∀ v' c' h',SlN R n ty v' l3 c'→Sep h' lo (c'++S)→Run E W (.ops r::k) Q (fr.put d v') h') : Put2 E W (xd W h ty n bytes v x) d r k Q fr:=by
 unfold ju at hF
 split at hF
 case isFalse=>cases hF
 rename_i hs
 cases hF
 obtain ⟨css2,oss2,T,hx,a2,p2⟩:=H2.first hS.dc hl
 have hlen2:=a2.flen hl
 rcases H with ⟨rfl,rfl,rfl⟩ | ⟨b,cap,junk,css,oss,rfl,g2,g3,g4,g5,g6⟩
 ·have hS2:Sep h lo (oss2.flatten++S):=by
   have h3:Sep h lo (c2++S):=hS
   have:=h3.cperm p2
   rw [t7] at this
   exact this.dc
  have e:xd W h ty n bytes .nil x=if l2.length=0 then some (.nil,h) else if l2.length*bytes≤70368744177664 then some (.row h.length 0 l2.length l2.length,h++[⟨css2.flatten,ty,true⟩]) else none:=by
   unfold xd
   simp only [ze,XO.ev,hx]
  rw [e]
  by_cases h0:l2.length=0
  ·have hl:l2=[]:=a3h.1 h0
   subst hl
   rw [if_pos h0]
   exact K .nil [] h SlN.nil hS2.dc
  ·rw [if_neg h0,if_pos (by simpa using hs)]
   refine K _ ([Blk1 h.length css2.flatten ty]++oss2.flatten) _ (.inr ⟨h.length,l2.length,[],css2,oss2,by simp,by simp,by simp,rfl,by simpa using a2,by simp⟩) ?_
   rw [t7]
   exact Sep.new hS2 _ ty
 ·have hS1:Sep h lo ([Blk1 b (css.flatten++junk) ty]++((oss.flatten++oss2.flatten)++S)):=by
   have h3:=hS.cperm g6
   have h4:Sep h lo (c2++((Blk1 b (css.flatten++junk) ty::oss.flatten)++S)):=h3.m1
   have h5:=h4.cperm p2
   rw [t7] at h5
   have h6:Sep h lo (oss2.flatten++((Blk1 b (css.flatten++junk) ty::oss.flatten)++S)):=h5.dc
   have h7:=h6.m1
   refine h7.perm ?_
   simp
  have hb:=Sep.bk _ _ _ hS1
  have hwb:=hw b (Sep.ge hS1)
  have hlen:=g5.flen hl
  unfold xd
  simp only [ze,XO.ev,hx]
  by_cases hle:l.length+l2.length≤cap
  ·rw [if_pos hle]
   have hmul:l2.length*n≤(cap - l.length)*n:=a1d n (by omega)
   have e:jv (css.flatten++junk) (0+l.length*n) css2.flatten=(css++css2).flatten++junk.drop (l2.length*n):=by
    unfold jv
    rw [o8,← hlen,a2x,List.drop_append,a3l (by omega),a08,a1r,t7,t7]
    congr 3
    rw [hlen2]
    omega
   rw [qkc hwb hb (by rw [t9,hlen,hlen2,g3]; omega) (a2.one h1),e]
   refine K _ ([Blk1 b ((css++css2).flatten++junk.drop (l2.length*n)) ty]++(oss.flatten++oss2.flatten)) _ (.inr ⟨b,cap,junk.drop (l2.length*n),css++css2,oss++oss2,?_,?_,?_,?_,g5.app a2,by simp⟩) ?_
   ·rw [t9]
   ·rw [t9]; exact hle
   ·rw [a04,g3,t9,Nat.sub_add_eq,Nat.sub_mul (cap - l.length)]
   ·rw [a0x] at g4 ⊢
    exact fun x hx=>g4 x (a2t hx)
   ·rw [t7]
    exact Sep.set hS1 _
  ·rw [if_neg hle,hb,qhd hb hlen.symm]
   dsimp only
   rw [if_pos ⟨hwb,rfl,hs,a2.one h1⟩]
   have hh:=(Sep.kill hS1).new (css.flatten++css2.flatten) ty
   rw [ye] at hh
   refine K _ ([Blk1 h.length (css.flatten++css2.flatten) ty]++(oss.flatten++oss2.flatten)) _ (.inr ⟨h.length,l.length+l2.length,[],css++css2,oss++oss2,?_,?_,?_,rfl,g5.app a2,?_⟩) ?_
   ·rw [t9]
   ·rw [t9]; exact a0d _
   ·rw [t9]; simp
   ·simp
   ·rw [t7]; exact hh
end
end Go.Proofs.Ytanblnjomhgphaa.X
namespace Go.Proofs.Ytanblnjomhgphaa.X
open Go
variable {E:Env}{W:Nat→Bool}{k:List It}{Q:QE}{fr:Fr}{h:Heap}{lo:Nat→Prop}{n0:Nat}{S:List Obj}{d:Option Nat}{r:List XOper}{b:Nat}{ty:TypeId}{α:Type}{f:α→List XV}{l l2 l3:List α}{sz:TypeId→Nat}{n bytes:Nat}{v x:XV}{c c2:List Obj}{hs:Nat}{ld wr:List Nat}

theorem xx {n:Nat}{x y:XO} : Run E W (.draw hs (⟨d,.st n x y,none,3⟩::r) ld wr::k) Q fr h=Put2D E W (pst W h n (x.ev fr) (y.ev fr)) d hs r ld wr k Q fr:=by
 rw [qz5 (fun _ _ e=>by cases e)]; rfl
theorem qgp {ty esz bytes:Nat}{x y:XO} : Run E W (.draw hs (⟨d,.app ty esz bytes x y,none,3⟩::r) ld wr::k) Q fr h=Put2D E W (xd W h ty esz bytes (x.ev fr) (y.ev fr)) d hs r ld wr k Q fr:=by
 rw [qz5 (fun _ _ e=>by cases e)]; rfl
theorem qa6 {ty len:Nat}{zero:List XV}{ps:List (Nat × Nat × XO)} : Run E W (.draw hs (⟨d,.buildS ty len zero ps,none,4⟩::r) ld wr::k) Q fr h=Put2D E W (xe h ty len zero (ps.map (evp fr))) d hs r ld wr k Q fr:=by
 rw [xl]
 congr 1
 simp only [ze,xe]
 have e:ps.map (fun p=>(p.1,p.2.1,XO.ev fr p.2.2))=ps.map (evp fr):=rfl
 rw [e]
 cases fill zero (ps.map (evp fr)) <;> rfl
theorem qa0 {o:Option (XV × Heap)}{A:XV→Heap→Prop}(H:Put2 E W o (some 0) [] [] (fun _ fr' h'=>A (fr' 0) h') fr)(K:∀ v h',A v h'→Run E W (.draw hs r ld wr::k) Q (fr.put d v) h') : Put2D E W o d hs r ld wr k Q fr:=by
 unfold Put2 at H
 unfold Put2D
 cases o with
 | none=>exact H
 | some p =>
  obtain ⟨v,h'⟩:=p
  simp only [qa,qm] at H
  refine K v h' ?_
  have e:(fr.put (some 0) v) 0=v:=by simp [Fr.put]
  rw [e] at H
  exact H
theorem fr0 {v:XV} : (fr.put (some 0) v) 0=v:=by simp [Fr.put]
theorem qe6 {i:Int}{o m:Nat}{u:XV}{x x':α}(H:SlF f n ty v l c)(hS:Sep h lo (c++S))(hw:∀ b,lo b→W b=true)(hb:SlB v b)(hg:zy l i=some x)(hf:∀ x,(f x).length=n)(h1:u.cells.length=m)(h2:u.cells.all XV.one=true)(h3:o+m≤n)(e:jv (f x) o u.cells=f x')
  (K:∀ c' h',SlF f n ty v (l.set i.toNat x') c'→Sep h' lo (c'++S)→Run E W (.draw hs r ld wr::k) Q (fr.put d .undef) h') : Put2D E W (pst W h m (.ptr b (i.toNat*n+o)) u) d hs r ld wr k Q fr:=by
 refine qa0 (A:=fun v' h'=>v' = .undef∧∃ c',SlF f n ty v (l.set i.toNat x') c'∧Sep h' lo (c'++S)) ?_ (fun v' h' ⟨e1,c',a,s⟩=>by rw [e1]; exact K c' h' a s)
 exact qje H hS hw hb hg hf h1 h2 h3 e (fun c' h' a s=>by rw [qa,qm]; exact ⟨fr0,c',a,s⟩)
theorem qjm (H:SlF f n ty v l c)(hS:Sep h lo (c++S))(hw:∀ b,lo b→W b=true)(hf:∀ x,(f x).length=n)(h1:∀ x,(f x).all XV.one=true)(hx:yd h n x=some (l2.length,(l2.map f).flatten))(hF:ju bytes l l2=some l3)
  (K:∀ v' c' h',SlF f n ty v' l3 c'→Sep h' lo (c'++S)→Run E W (.draw hs r ld wr::k) Q (fr.put d v') h') : Put2D E W (xd W h ty n bytes v x) d hs r ld wr k Q fr:=by
 refine qa0 (A:=fun v' h'=>∃ c',SlF f n ty v' l3 c'∧Sep h' lo (c'++S)) ?_ (fun v' h' ⟨c',a,s⟩=>K v' c' h' a s)
 exact wh H hS hw hf h1 hx hF (fun v' c' h' a s=>by rw [qa,qm,fr0]; exact ⟨c',a,s⟩)
theorem qg0 {m:Nat}{z:List XV}{ps:List (Nat × Nat × XV)}(l:List α)(hS:Sep h lo S)(e:fill z ps=some (l.map f).flatten)(hm:m=l.length)(K:∀ v c h',SlF f n ty v l c→Sep h' lo (c++S)→Run E W (.draw hs r ld wr::k) Q (fr.put d v) h') : Put2D E W (xe h ty m z ps) d hs r ld wr k Q fr:=by
 refine qa0 (A:=fun v' h'=>∃ c',SlF f n ty v' l c'∧Sep h' lo (c'++S)) ?_ (fun v' h' ⟨c',a,s⟩=>K v' c' h' a s)
 exact kg l hS e hm (fun v' c' h' a s=>by rw [qa,qm,fr0]; exact ⟨c',a,s⟩)
theorem qu0 {m o:Nat}{u:XV}{cs cs':List XV}(hS:Sep h lo ([Blk1 b cs ty]++S))(hw:∀ b,lo b→W b=true)(h1:u.cells.length=m)(h2:u.cells.all XV.one=true)(h3:o+m≤cs.length)(e:jv cs o u.cells=cs')
  (H:∀ h',Sep h' lo ([Blk1 b cs' ty]++S)→Run E W (.draw hs r ld wr::k) Q (fr.put d .undef) h') : Put2D E W (pst W h m (.ptr b o) u) d hs r ld wr k Q fr:=by
 refine qa0 (A:=fun v' h'=>v' = .undef∧Sep h' lo ([Blk1 b cs' ty]++S)) ?_ (fun v' h' ⟨e1,s⟩=>by rw [e1]; exact H h' s)
 exact qoz hS hw h1 h2 h3 e (fun h' s=>by rw [qa,qm]; exact ⟨fr0,s⟩)
def qm3 (s:ByteArray)(i:Int) : Option Int:=if 0≤i then (s[i.toNat]?).map (fun b=>(b.toNat:Int)) else none
theorem qi9 {s:ByteArray}{kk:IntKind}{i m:Int}(hm:qm3 s i=some m) : qkg (.str s) (.int kk i)=some (.int .u8 m):=by
 unfold qm3 at hm
 simp only [qkg]
 split at hm
 ·rename_i h0
  rw [if_pos h0]
  cases hs:s[i.toNat]? with
  | none=>rw [hs] at hm; cases hm
  | some b=>rw [hs] at hm; cases hm; rfl
 ·cases hm
end Go.Proofs.Ytanblnjomhgphaa.X
