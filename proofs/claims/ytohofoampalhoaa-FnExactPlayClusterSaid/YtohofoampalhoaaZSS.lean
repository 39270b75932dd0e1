/- A machine of this claim's own, sound for the model's, and plain theory over it: no condition (1). -/
import Derived.Test.YtohofoampalhoaaZP
open List renaming all_append→a2l,all_eq_true→a04,append_assoc→a0f,cons_append→a2v,drop_append_of_le_length→a1w,drop_drop→a15,drop_left→a3r,drop_zero→a0c,flatMap_append→a38,flatten_append→a24,flatten_cons→a1c,getElem?_append_left→a0h,getElem?_append_right→a0u,getElem?_eq_some_iff→v6,length_append→a0p,length_drop→a2b,length_eq_zero_iff→a3o,length_set→a12,length_take→a1t,length→t6,map_append→a4d,mem_append→a2k,mem_cons→a1l,nil_append→a0z,take_append_of_le_length→a1i,take_left→a3e,take_of_length_le→a1h
open Nat renaming le_refl→a0m,mul_le_mul_right→a1j,succ_mul→a2o,zero_add→s9
set_option linter.unusedVariables false
set_option linter.unusedSimpArgs false
namespace Go.Proofs.Ytohofoampalhoaa.X
open Go
section
variable {h:Heap}{lo:Nat→Prop}{S c0 c1 c2 c3 c4 c5 c6 c7 c8 c9:List Obj}
theorem Sep.m1 (H:Sep h lo (c0++(c1++S))) : Sep h lo (c1++(c0++S)):=H.perm (by
 rw [←a0f,← a0f]; exact List.perm_append_comm.append_right S)
theorem zt {a b s:List Obj} : (a++(b++s)).Perm (b++(a++s)):=by
 rw [←a0f,← a0f]; exact List.perm_append_comm.append_right s
theorem Sep.m2 (H:Sep h lo (c0++(c1++(c2++S)))) : Sep h lo (c2++(c0++(c1++S))):=H.perm ((zt.append_left c0).trans zt)
theorem Sep.m3 (H:Sep h lo (c0++(c1++(c2++(c3++S))))) : Sep h lo (c3++(c0++(c1++(c2++S)))):=H.perm ((((zt.append_left c1).trans zt).append_left c0).trans zt)
theorem Sep.m4 (H:Sep h lo (c0++(c1++(c2++(c3++(c4++S)))))) : Sep h lo (c4++(c0++(c1++(c2++(c3++S))))):=H.perm ((((((zt.append_left c2).trans zt).append_left c1).trans zt).append_left c0).trans zt)
theorem Sep.m5 (H:Sep h lo (c0++(c1++(c2++(c3++(c4++(c5++S))))))) : Sep h lo (c5++(c0++(c1++(c2++(c3++(c4++S)))))):=H.perm ((((((((zt.append_left c3).trans zt).append_left c2).trans zt).append_left c1).trans zt).append_left c0).trans zt)
theorem Sep.m6 (H:Sep h lo (c0++(c1++(c2++(c3++(c4++(c5++(c6++S)))))))) : Sep h lo (c6++(c0++(c1++(c2++(c3++(c4++(c5++S))))))):=H.perm ((((((((((zt.append_left c4).trans zt).append_left c3).trans zt).append_left c2).trans zt).append_left c1).trans zt).append_left c0).trans zt)
theorem Sep.m7 (H:Sep h lo (c0++(c1++(c2++(c3++(c4++(c5++(c6++(c7++S))))))))) : Sep h lo (c7++(c0++(c1++(c2++(c3++(c4++(c5++(c6++S)))))))):=H.perm ((((((((((((zt.append_left c5).trans zt).append_left c4).trans zt).append_left c3).trans zt).append_left c2).trans zt).append_left c1).trans zt).append_left c0).trans zt)
theorem Sep.m8 (H:Sep h lo (c0++(c1++(c2++(c3++(c4++(c5++(c6++(c7++(c8++S)))))))))) : Sep h lo (c8++(c0++(c1++(c2++(c3++(c4++(c5++(c6++(c7++S))))))))):=H.perm ((((((((((((((zt.append_left c6).trans zt).append_left c5).trans zt).append_left c4).trans zt).append_left c3).trans zt).append_left c2).trans zt).append_left c1).trans zt).append_left c0).trans zt)
theorem Sep.m9 (H:Sep h lo (c0++(c1++(c2++(c3++(c4++(c5++(c6++(c7++(c8++(c9++S))))))))))) : Sep h lo (c9++(c0++(c1++(c2++(c3++(c4++(c5++(c6++(c7++(c8++S)))))))))):=H.perm ((((((((((((((((zt.append_left c7).trans zt).append_left c6).trans zt).append_left c5).trans zt).append_left c4).trans zt).append_left c3).trans zt).append_left c2).trans zt).append_left c1).trans zt).append_left c0).trans zt)
theorem Sep.dc (H:Sep h lo (c0++S)) : Sep h lo S:=by
 induction c0 with
 | nil=>exact H
 | cons a r ih=>exact ih H.drop
theorem Sep.cperm (p:c0.Perm c1)(H:Sep h lo (c0++S)) : Sep h lo (c1++S):=H.perm (p.append_right S)
theorem Sep.bk (b:Nat)(cs:List XV)(ty:TypeId)(H:Sep h lo ([Blk1 b cs ty]++S)) : jb h b=some ⟨cs,ty,true⟩:=Sep.blk0 H
end

section
variable {E:Env}{W:Nat→Bool}{k:List It}{Q:QE}{fr:Fr}{h:Heap}{lo:Nat→Prop}{n0:Nat}{S:List Obj}{d:Option Nat}{r:List XOper}{b:Nat}{ty:TypeId}{α:Type}{f:α→List XV}{l l2 l3:List α}{sz:TypeId→Nat}{n bytes:Nat}{v x:XV}{c c2:List Obj}

def SlF (f:α→List XV)(n:Nat)(ty:TypeId)(v:XV)(l:List α)(c:List Obj) : Prop :=
 (v = .nil∧l=[]∧c=[])∨∃ (b cap:Nat) (junk:List XV),v = .row b 0 l.length cap∧l.length≤cap∧junk.length=(cap - l.length)*n∧c=[Blk1 b ((l.map f).flatten++junk) ty]∧((∀ x,(f x).all XV.free1=true)→junk.all XV.free1=true)

theorem SlF.nil:SlF f n ty .nil [] [] := .inl ⟨rfl,rfl,rfl⟩
theorem SlF.row0 {b:Nat} : SlF f n ty (.row b 0 l.length l.length) l [Blk1 b (l.map f).flatten ty] := .inr ⟨b,l.length,[],rfl,a0m _,by simp,by simp,fun _=>rfl⟩
theorem SlF.len (H:SlF f n ty v l c) : qgg v=some (.int .i64 l.length):=by
 rcases H with ⟨rfl,rfl,rfl⟩ | ⟨b,cap,junk,rfl,_,_,_,_⟩ <;> rfl
theorem SlF.plen (H:SlF f n ty v l c) : qgg v=some (.int .i64 (t6 l:Int)):=H.len

theorem qiw {cs junk:List XV}{m:Nat}(hb:jb h b=some ⟨cs++junk,ty,true⟩)(hm:m=cs.length) : kg h b 0 m=some cs:=by
 rw [qg1 hb,if_pos (by simp; omega),a0c,hm,a3e]

theorem SlF.first (H:SlF f n ty v l c)(hS:Sep h lo (c++S))(hf:∀ x,(f x).length=n) : yi h n v=some (l.length,(l.map f).flatten):=by
 rcases H with ⟨rfl,rfl,rfl⟩ | ⟨b,cap,junk,rfl,hc,hj,rfl,hjf⟩
 ·rfl
 ·unfold yi
  dsimp only
  rw [qiw (Sep.bk _ _ _ hS) (qad hf).symm]

theorem qsc {junk:List XV}(hb:jb h b=some ⟨(l.map f).flatten++junk,ty,true⟩)(hsz:sz ty=n)(hf:∀ x,(f x).length=n){i:Nat}{x:α}(hx:l[i]? = some x) : kg h b (0+i*sz ty) (sz ty)=some (f x):=by
 have hi:i<l.length:=(v6.1 hx).1
 have h3:(i+1)*n≤l.length*n:=a1j n hi
 rw [a2o] at h3
 have hl:=qad (l:=l) hf
 rw [hsz,s9,qg1 hb,if_pos (by rw [a0p,hl]; omega)]
 have:=qp5 (f:=f) hf (o:=0) (m:=n) hx (by omega)
 simp only [Nat.add_zero,a0c] at this
 rw [a1w (by rw [hl]; omega),a1i (by rw [a2b,hl]; omega),this,a1h (by rw [hf]; exact a0m _)]

theorem SlF.snap {m:Nat}(H:SlF f n ty v l c)(hS:Sep h lo (c++S))(hsz:sz ty=n)(hf:∀ x,(f x).length=n)(hc:∀ x,(f x).mapM (snap h sz m)=some (f x)) : snap h sz (m+1) v=some (lst f l):=by
 rcases H with ⟨rfl,rfl,rfl⟩ | ⟨b,cap,junk,rfl,hcp,hj,rfl,hjf⟩
 ·rfl
 ·have hb:=Sep.bk _ _ _ hS
  simp only [X.snap,hb]
  rw [u0 (f:=f) (l:=l) (fun i x hx=>by rw [qsc hb hsz hf hx]; exact hc x)]
  rfl
theorem SlF.cut {m:Nat}{keep:Bool}(H:SlF f n ty v l c)(hS:Sep h lo (c++S))(hge:∀ b,lo b→n0≤b)(hsz:sz ty=n)(hf:∀ x,(f x).length=n)(hc:∀ x,(f x).mapM (cut n0 h sz keep m)=some (f x)) : cut n0 h sz keep (m+1) v=some (lst f l):=by
 rcases H with ⟨rfl,rfl,rfl⟩ | ⟨b,cap,junk,rfl,hcp,hj,rfl,hjf⟩
 ·rfl
 ·have hb:=Sep.bk _ _ _ hS
  simp only [X.cut,hb]
  rw [if_pos (hge _ (Sep.ge hS)),u0 (f:=f) (l:=l) (fun i x hx=>by rw [qsc hb hsz hf hx]; exact hc x)]
  rfl

theorem yn (H:SlF f n ty v l c)(hS:Sep h lo (c++S))(hw:∀ b,lo b→W b=true)(hf:∀ x,(f x).length=n)(h1:∀ x,(f x).all XV.one=true)(hx:yi h n x=some (l2.length,(l2.map f).flatten))(hF:k5 bytes l l2=some l3)
  (K:∀ v' c' h',SlF f n ty v' l3 c'→Sep h' lo (c'++S)→Run E W (.ops r::k) Q (fr.put d v') h') : Put2 E W (qba W h ty n bytes v x) d r k Q fr:=by
 unfold k5 at hF
 split at hF
 case isFalse=>cases hF
 rename_i hs
 cases hF
 rcases H with ⟨rfl,rfl,rfl⟩ | ⟨b,cap,junk,rfl,hcp,hj,rfl,hjf⟩
 ·rw [qy7 hx]
  by_cases h0:l2.length=0
  ·have hl:l2=[]:=a3o.1 h0
   subst hl
   rw [if_pos h0]
   exact K .nil [] h SlF.nil hS
  ·rw [if_neg h0,if_pos (by simpa using hs)]
   exact K _ [Blk1 h.length (l2.map f).flatten ty] _ (by rw [a0z]; exact SlF.row0) (Sep.new hS _ ty)
 ·have hb:=Sep.bk _ _ _ hS
  have hwb:=hw b (Sep.ge hS)
  have hl:=qad (l:=l) hf
  have hl2:=qad (l:=l2) hf
  unfold qba
  simp only [ze,XO.ev,hx]
  by_cases hle:l.length+l2.length≤cap
  ·rw [if_pos hle]
   have hmul:l2.length*n≤(cap - l.length)*n:=a1j n (by omega)
   have e:j0 ((l.map f).flatten++junk) (0+l.length*n) (l2.map f).flatten=(((l++l2).map f).flatten)++junk.drop (l2.length*n):=by
    unfold j0
    rw [s9,← hl,a3e,List.drop_append,List.drop_of_length_le (by omega),a0z,a4d,a24,a0f,a0f]
    congr 3
    rw [hl2]
    omega
   rw [ql6 hwb hb (by rw [a0p,hl,hl2,hj]; omega) (qp2 h1),e]
   refine K _ _ _ (.inr ⟨b,cap,junk.drop (l2.length*n),?_,?_,?_,rfl,fun hh=>?_⟩) (Sep.set hS _)
   ·rw [a0p]
   ·rw [a0p]; exact hle
   ·rw [a2b,hj,a0p,Nat.sub_add_eq,Nat.sub_mul (cap - l.length)]
   ·have:=hjf hh
    rw [a04] at this ⊢
    exact fun x hx=>this x (List.mem_of_mem_drop hx)
  ·rw [if_neg hle,hb,qiw hb hl.symm]
   dsimp only
   rw [if_pos ⟨hwb,rfl,hs,qp2 h1⟩]
   have hh:=(Sep.kill hS).new ((l.map f).flatten++(l2.map f).flatten) ty
   rw [kr] at hh
   refine K _ [Blk1 h.length ((l.map f).flatten++(l2.map f).flatten) ty] _ (.inr ⟨h.length,_,[],?_,a0m _,by simp,?_,fun _=>rfl⟩) hh
   ·rw [a0p]
   ·simp
theorem qh0 {m:Int}{z:α}(hS:Sep h lo S)(hl:mkN bytes m z=some l)(hz:(f z).length=n)
  (K:∀ v c h',SlF f n ty v l c→Sep h' lo (c++S)→Run E W (.ops r::k) Q (fr.put d v) h') : Put2 E W (ql0 W h ty n bytes (f z) (.int .i64 m) (.int .i64 m)) d r k Q fr :=
 qyn hS hl hz (fun b h' hS'=>K _ _ h' SlF.row0 hS')
theorem kx {m:Nat}{z:List XV}{ps:List (Nat × Nat × XV)}(l:List α)(hS:Sep h lo S)(e:fill z ps=some (l.map f).flatten)(hm:m=l.length)(K:∀ v c h',SlF f n ty v l c→Sep h' lo (c++S)→Run E W (.ops r::k) Q (fr.put d v) h') : Put2 E W (xk h ty m z ps) d r k Q fr:=by
 subst hm
 exact qlh hS e (fun b h' hS'=>K _ _ h' SlF.row0 hS')

def SlB (v:XV)(b:Nat) : Prop:=∃ len cap,v = .row b 0 len cap
theorem SlF.isrow (H:SlF f n ty v l c)(h0:l≠[]) : ∃ b,SlB v b:=by
 rcases H with ⟨rfl,rfl,rfl⟩ | ⟨b,cap,junk,rfl,_,_,_,_⟩
 ·exact absurd rfl h0
 ·exact ⟨b,_,_,rfl⟩
theorem ka {i:Int}{x:α}(hg:zx l i=some x) : l≠[]:=by
 rintro rfl
 have:=ym hg
 simp at this
theorem SlF.ia (H:SlF f n ty v l c)(hb:SlB v b){kk:IntKind}{i:Int}{x:α}(hg:zx l i=some x) : xia n v (.int kk i)=some (.ptr b (i.toNat*n)):=by
 obtain ⟨len,cap,rfl⟩:=hb
 obtain ⟨g0,g1,g2⟩:=ym hg
 rcases H with ⟨h0,_,_⟩ | ⟨b',cap',junk,hv,_,_,_,_⟩
 ·cases h0
 ·cases hv
  exact qi5 g0 g1
theorem SlF.ld (H:SlF f n ty v l c)(hS:Sep h lo (c++S))(hb:SlB v b){i:Int}{x:α}(hg:zx l i=some x)(hf:∀ x,(f x).length=n){o:Nat}(ho:o+1≤n) : xld h none (.ptr b (i.toNat*n+o))=(f x)[o]? := by
 obtain ⟨len,cap,rfl⟩:=hb
 obtain ⟨g0,g1,g2⟩:=ym hg
 rcases H with ⟨h0,_,_⟩ | ⟨b',cap',junk,hv,hcp,hj,rfl,hjf⟩
 ·cases h0
 ·cases hv
  rw [jt (Sep.bk _ _ _ hS)]
  have h4:(i.toNat+1)*n≤l.length*n:=a1j n (by omega)
  rw [a2o] at h4
  rw [a0h (by rw [qad hf]; omega),zdn hf g2 (by omega)]
theorem SlF.lds (H:SlF f n ty v l c)(hS:Sep h lo (c++S))(hb:SlB v b){i:Int}{x:α}(hg:zx l i=some x)(hf:∀ x,(f x).length=n){o m:Nat}(ho:o+m≤n) : xld h (some m) (.ptr b (i.toNat*n+o))=some (.agg (((f x).drop o).take m)):=by
 obtain ⟨len,cap,rfl⟩:=hb
 obtain ⟨g0,g1,g2⟩:=ym hg
 rcases H with ⟨h0,_,_⟩ | ⟨b',cap',junk,hv,hcp,hj,rfl,hjf⟩
 ·cases h0
 ·cases hv
  have h4:(i.toNat+1)*n≤l.length*n:=a1j n (by omega)
  rw [a2o] at h4
  have hl:=qad (l:=l) hf
  rw [zr (Sep.bk _ _ _ hS),if_pos (by rw [a0p,hl]; omega),a1w (by rw [hl]; omega),a1i (by rw [a2b,hl]; omega),qp5 hf g2 ho]
theorem x6 {i:Int}{o m:Nat}{u:XV}{x x':α}(H:SlF f n ty v l c)(hS:Sep h lo (c++S))(hw:∀ b,lo b→W b=true)(hb:SlB v b)(hg:zx l i=some x)(hf:∀ x,(f x).length=n)(h1:u.cells.length=m)(h2:u.cells.all XV.one=true)(h3:o+m≤n)(e:j0 (f x) o u.cells=f x')
  (K:∀ c' h',SlF f n ty v (l.set i.toNat x') c'→Sep h' lo (c'++S)→Run E W (.ops r::k) Q (fr.put d .undef) h') : Put2 E W (pst W h m (.ptr b (i.toNat*n+o)) u) d r k Q fr:=by
 obtain ⟨len,cap,rfl⟩:=hb
 obtain ⟨g0,g1,g2⟩:=ym hg
 rcases H with ⟨h0,_,_⟩ | ⟨b',cap',junk,hv,hcp,hj,rfl,hjf⟩
 ·cases h0
 ·cases hv
  have h4:(i.toNat+1)*n≤l.length*n:=a1j n (by omega)
  rw [a2o] at h4
  have hl:=qad (l:=l) hf
  refine qnh (cs':=((l.set i.toNat x').map f).flatten++junk) hS (hw _ (Sep.ge hS)) h1 h2 (by rw [a0p,hl]; omega) ?_ (fun h' hS'=>K [Blk1 b (((l.set i.toNat x').map f).flatten++junk) ty] h' (.inr ⟨b,cap,junk,by rw [a12],by rw [a12]; exact hcp,by rw [a12]; exact hj,rfl,hjf⟩) hS')
  have hu:u.cells.length=m:=h1
  have:=zaa (l:=l) (vs:=u.cells) hf g2 (by omega) e
  rw [←this]
  unfold j0
  rw [a1i (by rw [hl]; omega),a1w (by rw [hl]; omega)]
  simp [a0f]

theorem kf {i:Int}{x x':α}(hg:zx l i=some x) : zx (l.set i.toNat x') i=some x':=by
 obtain ⟨g0,g1,g2⟩:=ym hg
 unfold zx
 rw [if_pos g0,List.getElem?_set_self (by omega)]

def Obj.pf (o:Obj) : Prop:=∀ h n,o.ok h→o.ok (purge n h)
theorem Blk1.pf {b:Nat}{cs:List XV}(hc:cs.all XV.free1=true) : (Blk1 b cs ty).pf:=by
 intro h n hk
 have hk:h[b]? = some ⟨cs,ty,true⟩:=hk
 show (purge n h)[b]? = some ⟨cs,ty,true⟩
 rcases Nat.lt_or_ge b n with hb | hb
 ·rw [qdo hb]; exact hk
 ·rw [qjn hb,hk,Option.map_some]
  unfold qet
  rw [if_pos hc]
theorem q9y (hf:∀ x,(f x).all XV.free1=true) : ((l.map f).flatten).all XV.free1=true:=by
 rw [List.all_flatten,List.all_map,a04]
 intro x _
 exact hf x
theorem SlF.pf (H:SlF f n ty v l c)(hf:∀ x,(f x).all XV.free1=true) : ∀ o∈c,o.pf:=by
 rcases H with ⟨rfl,rfl,rfl⟩ | ⟨b,cap,junk,rfl,hcp,hj,rfl,hjf⟩
 ·intro o ho; simp at ho
 ·intro o ho
  simp only [List.mem_singleton] at ho
  subst ho
  exact Blk1.pf (by rw [a2l,q9y hf,hjf hf]; rfl)
theorem SlF.free1 (H:SlF f n ty v l c) : v.free1=true:=by
 rcases H with ⟨rfl,rfl,rfl⟩ | ⟨b,cap,junk,rfl,hcp,hj,rfl,hjf⟩ <;> rfl
theorem wl:∀ o∈([] : List Obj),o.pf:=fun o ho=>by simp at ho
theorem j9 (h1:∀ o∈c,o.pf)(h2:∀ o∈c2,o.pf) : ∀ o∈c++c2,o.pf:=fun o ho=>by
 rcases a2k.1 ho with ho | ho
 ·exact h1 o ho
 ·exact h2 o ho
theorem Sep.purge {T:List Obj}{h':Heap}(H0:Sep h lo S)(H:Sep h' (geL h.length) T)(hp:∀ o∈T,o.pf)(hk:∀ b,b<h.length→h'[b]? = h[b]?) : Sep (purge h.length h') lo (T++S):=by
 have hlen:h.length≤h'.length:=H.base _ (a0m _)
 refine ⟨fun b hb=>H0.base b (by rw [qdn] at hb; omega),?_,fun b hb=>?_,fun o ho=>?_⟩
 ·rw [a38,List.nodup_append]
  refine ⟨H.nodup,H0.nodup,fun a ha b hb=>?_⟩
  have h1:h.length≤a:=(H.ran a ha).1
  have h2:=(H0.ran b hb).2
  omega
 ·rw [a38,a2k] at hb
  rw [qdn]
  rcases hb with hb | hb
  ·exact ⟨H0.base b (H.ran b hb).1,(H.ran b hb).2⟩
  ·exact ⟨(H0.ran b hb).1,by have:=(H0.ran b hb).2; omega⟩
 ·rcases a2k.1 ho with ho | ho
  ·exact hp o ho h' h.length (H.ok o ho)
  ·exact o.loc h _ (fun b hb=>by
    have hlt:=(H0.ran b (List.mem_flatMap.2 ⟨o,ho,hb⟩)).2
    rw [qdo hlt,hk b hlt]) (H0.ok o ho)
theorem Ret.keep {g:Nat}{args:List XV}{Q:XV→Heap→Prop}(H:Ret E W g args h Q) : Ret E W g args h (fun v h'=>Q v h'∧XKeep W h h'):=by
 obtain ⟨N,v,h',h1,h2⟩:=H
 exact ⟨N,v,h',⟨h1,qmq E N W g args h v h' (h2 N (a0m _))⟩,h2⟩

theorem nle {a b:Nat}(h:Nat.ble a b=true) : a≤b:=Nat.le_of_ble_eq_true h
theorem wc {g:Nat}{caps args:List XV}{R:XV→Heap→Prop}(hm:E.mode g=0)(hc:Ret E W g (args++caps) h R)(hR:∀ v h',R v h'→Run E W (.ops r::k) Q (fr.put d v) h') : CallK E W (.fn g caps) args d r k Q fr h:=zan hm hc hR
theorem qw3 {g hs:Nat}{ld wr:List Nat}{caps args:List XV}{R:XV→Heap→Prop}(hm:E.mode g=0)(hc:Ret E W g (args++caps) h R)(hR:∀ v h',R v h'→Run E W (.draw hs r ld wr::k) Q (fr.put d v) h') : CallD E W (.fn g caps) args d hs r ld wr k Q fr h:=by
 unfold CallD CallW
 dsimp only
 rw [hm]
 exact hc.mono hR
theorem qbx {g:Nat}{caps args as':List XV}{R:XV→Heap→Prop}(hm:E.mode g=2)(hS:Sep h lo S)(hs:args.mapM (snap h E.sz 9)=some as')(hc:Ret E (fun b=>decide (h.length≤b)) g (as'++caps) h R)
  (hR:∀ v h',R v h'→∃ T,v.free=true∧Sep h' (geL h.length) T∧(∀ o∈T,o.pf)∧(∀ h2,Sep h2 lo (T++S)→Run E W (.ops r::k) Q (fr.put d v) h2)) : CallK E W (.fn g caps) args d r k Q fr h:=by
 refine za5 hm hs hc.keep ?_
 rintro v h' ⟨h1,h2⟩
 obtain ⟨T,a1,a2,a3,a4⟩:=hR v h' h1
 exact ⟨a1,a4 _ (hS.purge a2 a3 (fun b hb=>h2.same b hb (by simpa using hb)))⟩
end
end Go.Proofs.Ytohofoampalhoaa.X
namespace Go.Proofs.Ytohofoampalhoaa.X
open Go

abbrev Rep (α:Type):=α→List XV→List Obj→Prop

inductive All3 {α:Type} (R:Rep α) : List α→List (List XV)→List (List Obj)→Prop
 | nil:All3 R [] [] []
 | cons {x:α} {cs:List XV} {os:List Obj} {l css oss} : R x cs os→All3 R l css oss→All3 R (x::l) (cs::css) (os::oss)

structure RepOk {α:Type} (sz:TypeId→Nat) (R:Rep α) (f:α→List XV) (n:Nat) : Prop where
 len:∀ {x cs os},R x cs os→cs.length=n
 flen:∀ x,(f x).length=n
 one:∀ {x cs os},R x cs os→cs.all XV.one=true
 snap:∀ {x cs os h lo S} (m:Nat),R x cs os→Sep h lo (os++S)→cs.mapM (snap h sz (m+2))=some (f x)
 cut:∀ {x cs os h lo n0 keep S} (m:Nat),R x cs os→Sep h lo (os++S)→(∀ b,lo b→n0≤b)→cs.mapM (cut n0 h sz keep (m+2))=some (f x)
 free:∀ {x cs os},R x cs os→cs.all XV.free1=true
 pf:∀ {x cs os},R x cs os→∀ o∈os,o.pf

section
variable {α:Type}{R:Rep α}{f:α→List XV}{n:Nat}{sz:TypeId→Nat}{l l2:List α}{css css2:List (List XV)}{oss oss2:List (List Obj)}

theorem All3.len (H:All3 R l css oss) : css.length=l.length∧oss.length=l.length:=by
 induction H with
 | nil=>exact ⟨rfl,rfl⟩
 | cons _ _ ih=>simp [ih.1,ih.2]
theorem All3.app (H:All3 R l css oss)(H2:All3 R l2 css2 oss2) : All3 R (l++l2) (css++css2) (oss++oss2):=by
 induction H with
 | nil=>exact H2
 | cons h _ ih=>exact .cons h ih
theorem All3.flen (H:All3 R l css oss)(hl:∀ {x cs os},R x cs os→cs.length=n) : css.flatten.length=l.length*n:=by
 induction H with
 | nil=>simp
 | cons h _ ih=>rw [a1c,a0p,ih,hl h,List.length_cons,a2o]; omega
theorem All3.at (H:All3 R l css oss) : ∀ {i:Nat} {x:α},l[i]? = some x→∃ css1 cs css3 oss1 os oss3,css=css1++cs::css3∧oss=oss1++os::oss3∧R x cs os∧All3 R (l.take i) css1 oss1∧All3 R (l.drop (i+1)) css3 oss3:=by
 induction H with
 | nil=>intro i x hx; simp at hx
 | cons h H ih =>
  rename_i x0 cs0 os0 l0 c0 o0
  intro i x hx
  cases i with
  | zero =>
   simp at hx
   subst hx
   exact ⟨[],cs0,c0,[],os0,o0,rfl,rfl,h,.nil,by simpa using H⟩
  | succ i =>
   obtain ⟨c1,cs,c3,o1,os,o3,rfl,rfl,a3,a4,a5⟩:=ih (i:=i) (x:=x) (by simpa using hx)
   exact ⟨cs0::c1,cs,c3,os0::o1,os,o3,rfl,rfl,a3,.cons h a4,by simpa using a5⟩
theorem All3.one (H:All3 R l css oss)(h1:∀ {x cs os},R x cs os→cs.all XV.one=true) : css.flatten.all XV.one=true:=by
 induction H with
 | nil=>rfl
 | cons h _ ih=>rw [a1c,a2l,h1 h,ih]; rfl
theorem All3.free (H:All3 R l css oss)(h1:∀ {x cs os},R x cs os→cs.all XV.free1=true) : css.flatten.all XV.free1=true:=by
 induction H with
 | nil=>rfl
 | cons h _ ih=>rw [a1c,a2l,h1 h,ih]; rfl
theorem All3.pf (H:All3 R l css oss)(h1:∀ {x cs os},R x cs os→∀ o∈os,o.pf) : ∀ o∈oss.flatten,o.pf:=by
 induction H with
 | nil=>intro o ho; simp at ho
 | cons h _ ih =>
  intro o ho
  rw [a1c,a2k] at ho
  rcases ho with ho | ho
  ·exact h1 h o ho
  ·exact ih o ho
theorem qgx {β:Type}{a b:List (List β)}{x:List β} : (a++x::b).flatten=a.flatten++(x++b.flatten):=by simp

def SlN (R:Rep α)(n:Nat)(ty:TypeId)(v:XV)(l:List α)(c:List Obj) : Prop :=
 (v = .nil∧l=[]∧c=[])∨∃ (b cap:Nat) (junk:List XV) (css:List (List XV)) (oss:List (List Obj)),v = .row b 0 l.length cap∧l.length≤cap∧junk.length=(cap - l.length)*n∧junk.all XV.free1=true∧All3 R l css oss∧c.Perm (Blk1 b (css.flatten++junk) ty::oss.flatten)

def SlH (R:Rep α)(n:Nat)(ty:TypeId)(v:XV)(l:List α)(i b:Nat)(A Z:List XV)(rest:List Obj) : Prop :=
 ∃ (cap:Nat) (junk:List XV) (css1 css3:List (List XV)) (oss1 oss3:List (List Obj)),v = .row b 0 l.length cap∧l.length≤cap∧junk.length=(cap - l.length)*n∧junk.all XV.free1=true∧i<l.length∧All3 R (l.take i) css1 oss1∧All3 R (l.drop (i+1)) css3 oss3∧A=css1.flatten∧Z=css3.flatten++junk∧rest=oss1.flatten++oss3.flatten
end

section
variable {E:Env}{W:Nat→Bool}{k:List It}{Q:QE}{fr:Fr}{h:Heap}{lo:Nat→Prop}{n0:Nat}{S:List Obj}{d:Option Nat}{r:List XOper}{b:Nat}{ty:TypeId}{α:Type}{R:Rep α}{f:α→List XV}{l l2 l3:List α}{sz:TypeId→Nat}{n bytes:Nat}{v x:XV}{c c2:List Obj}{i:Nat}{A Z cs:List XV}{os rest:List Obj}{e:α}

theorem SlN.nil:SlN R n ty .nil [] [] := .inl ⟨rfl,rfl,rfl⟩
theorem SlN.len (H:SlN R n ty v l c) : qgg v=some (.int .i64 (t6 l:Int)):=by
 rcases H with ⟨rfl,rfl,rfl⟩ | ⟨b,cap,junk,css,oss,rfl,_⟩ <;> rfl
theorem SlN.perm (H:SlN R n ty v l c)(p:c.Perm c2) : SlN R n ty v l c2:=by
 rcases H with ⟨rfl,rfl,rfl⟩ | ⟨b,cap,junk,css,oss,h1,h2,h3,h4,h5,h6⟩
 ·exact .inl ⟨rfl,rfl,List.nil_perm.1 p⟩
 ·exact .inr ⟨b,cap,junk,css,oss,h1,h2,h3,h4,h5,p.symm.trans h6⟩
theorem SlN.free1 (H:SlN R n ty v l c) : v.free1=true:=by
 rcases H with ⟨rfl,rfl,rfl⟩ | ⟨b,cap,junk,css,oss,rfl,_⟩ <;> rfl
theorem SlN.pf (H:SlN R n ty v l c)(hR:RepOk sz R f n) : ∀ o∈c,o.pf:=by
 rcases H with ⟨rfl,rfl,rfl⟩ | ⟨b,cap,junk,css,oss,h1,h2,h3,h4,h5,h6⟩
 ·intro o ho; simp at ho
 ·intro o ho
  rcases a1l.1 (h6.mem_iff.1 ho) with rfl | ho
  ·exact Blk1.pf (by rw [a2l,h5.free hR.free,h4]; rfl)
  ·exact h5.pf hR.pf o ho

theorem All3.reads {css:List (List XV)}{oss:List (List Obj)}{g:XV→Option XV}(H:All3 R l css oss)(hg:∀ (i:Nat) x cs os,l[i]? = some x→css[i]? = some cs→oss[i]? = some os→R x cs os→cs.mapM g=some (f x)) : ∀ (i:Nat) x,l[i]? = some x→∃ cs,css[i]? = some cs∧cs.mapM g=some (f x):=by
 intro i x hx
 obtain ⟨c1,cs,c3,o1,os,o3,rfl,rfl,a3,a4,a5⟩:=H.at hx
 have hi:i<l.length:=(v6.1 hx).1
 have e1:c1.length=i:=by rw [a4.len.1,a1t]; omega
 have e2:o1.length=i:=by rw [a4.len.2,a1t]; omega
 have e3:(c1++cs::c3)[i]? = some cs:=by rw [a0u (by omega),e1]; simp
 exact ⟨cs,e3,hg i x cs os hx e3 (by rw [a0u (by omega),e2]; simp) a3⟩
theorem qlz {css:List (List XV)}{junk:List XV}(hb:jb h b=some ⟨css.flatten++junk,ty,true⟩)(hl:∀ cs∈css,cs.length=n){i:Nat}{cs:List XV}(hi:css[i]? = some cs) : kg h b (0+i*n) n=some cs:=by
 have key:∀ {css:List (List XV)} {i:Nat},(∀ cs∈css,cs.length=n)→css[i]? = some cs→∃ A Z,css.flatten=A++(cs++Z)∧A.length=i*n:=by
  intro css
  induction css with
  | nil=>intro i _ h; simp at h
  | cons c0 css ih =>
   intro i hl hi
   cases i with
   | zero=>simp at hi; subst hi; exact ⟨[],css.flatten,by simp,by simp⟩
   | succ i =>
    obtain ⟨A,Z,h1,h2⟩:=ih (i:=i) (fun cs hcs=>hl cs (by simp [hcs])) (by simpa using hi)
    exact ⟨c0++A,Z,by rw [a1c,h1,a0f],by rw [a0p,h2,hl c0 (by simp),a2o]; omega⟩
 obtain ⟨A,Z,h1,h2⟩:=key hl hi
 have hn:cs.length=n:=hl cs (List.mem_of_getElem? hi)
 rw [qg1 hb,s9,h1,if_pos (by simp; omega),← h2,a0f,a3r,← hn,a0f,a3e]
theorem All3.lens {css:List (List XV)}{oss:List (List Obj)}(H:All3 R l css oss)(hl:∀ {x cs os},R x cs os→cs.length=n) : ∀ cs∈css,cs.length=n:=by
 induction H with
 | nil=>intro cs hcs; simp at hcs
 | cons h _ ih =>
  intro cs hcs
  rcases a1l.1 hcs with rfl | hcs
  ·exact hl h
  ·exact ih cs hcs
theorem qpf {oss:List (List Obj)}{o1:List Obj} : ∀ {oss:List (List Obj)} {os:List Obj} {i:Nat},oss[i]? = some os→∃ T,(oss.flatten).Perm (os++T):=by
 intro oss
 induction oss with
 | nil=>intro os i h; simp at h
 | cons o oss ih =>
  intro os i hi
  cases i with
  | zero=>simp at hi; subst hi; exact ⟨oss.flatten,by rw [a1c]⟩
  | succ i =>
   obtain ⟨T,p⟩:=ih (i:=i) (by simpa using hi)
   refine ⟨o++T,?_⟩
   rw [a1c]
   exact (p.append_left o).trans zt

theorem SlN.snap (H:SlN R n ty v l c)(m:Nat)(hS:Sep h lo (c++S))(hsz:sz ty=n)(hR:RepOk sz R f n) : snap h sz (m+3) v=some (lst f l):=by
 rcases H with ⟨rfl,rfl,rfl⟩ | ⟨b,cap,junk,css,oss,rfl,h2,h3,h4,h5,h6⟩
 ·rfl
 ·have hS1:Sep h lo ((Blk1 b (css.flatten++junk) ty::oss.flatten)++S):=hS.cperm h6
  have hb:jb h b=some ⟨css.flatten++junk,ty,true⟩:=Sep.blk0 hS1
  have hS2:Sep h lo (oss.flatten++S):=Sep.drop hS1
  have hrd:=h5.reads (f:=f) (g:=X.snap h sz (m+2)) (fun i x cs os _ _ ho hr=>by
   obtain ⟨T,p⟩:=qpf (oss:=oss) (o1:=[]) ho
   exact hR.snap (lo:=lo) (S:=T++S) m hr (by have:=hS2.cperm p; rwa [a0f] at this))
  simp only [X.snap,hb,hsz]
  rw [u0 (f:=f) (l:=l) (fun i x hx=>?_)]
  ·rfl
  ·obtain ⟨cs,g1,g2⟩:=hrd i x hx
   rw [qlz hb (h5.lens hR.len) g1]
   exact g2
theorem SlN.cut {keep:Bool}(H:SlN R n ty v l c)(m:Nat)(hS:Sep h lo (c++S))(hge:∀ b,lo b→n0≤b)(hsz:sz ty=n)(hR:RepOk sz R f n) : cut n0 h sz keep (m+3) v=some (lst f l):=by
 rcases H with ⟨rfl,rfl,rfl⟩ | ⟨b,cap,junk,css,oss,rfl,h2,h3,h4,h5,h6⟩
 ·rfl
 ·have hS1:Sep h lo ((Blk1 b (css.flatten++junk) ty::oss.flatten)++S):=hS.cperm h6
  have hb:jb h b=some ⟨css.flatten++junk,ty,true⟩:=Sep.blk0 hS1
  have hS2:Sep h lo (oss.flatten++S):=Sep.drop hS1
  have hrd:=h5.reads (f:=f) (g:=X.cut n0 h sz keep (m+2)) (fun i x cs os _ _ ho hr=>by
   obtain ⟨T,p⟩:=qpf (oss:=oss) (o1:=[]) ho
   exact hR.cut (lo:=lo) (S:=T++S) m hr (by have:=hS2.cperm p; rwa [a0f] at this) hge)
  simp only [X.cut,hb,hsz]
  rw [if_pos (hge _ (Sep.ge hS1)),u0 (f:=f) (l:=l) (fun i x hx=>?_)]
  ·rfl
  ·obtain ⟨cs,g1,g2⟩:=hrd i x hx
   rw [qlz hb (h5.lens hR.len) g1]
   exact g2

theorem SlN.hole (H:SlN R n ty v l c)(hx:l[i]? = some e)(hS:Sep h lo (c++S)) : ∃ b A Z cs os rest,SlH R n ty v l i b A Z rest∧R e cs os∧Sep h lo ([Blk1 b (A++(cs++Z)) ty]++(os++(rest++S))):=by
 rcases H with ⟨rfl,rfl,rfl⟩ | ⟨b,cap,junk,css,oss,rfl,h2,h3,h4,h5,h6⟩
 ·simp at hx
 ·obtain ⟨c1,cs,c3,o1,os,o3,rfl,rfl,a3,a4,a5⟩:=h5.at hx
  refine ⟨b,c1.flatten,c3.flatten++junk,cs,os,o1.flatten++o3.flatten,⟨cap,junk,c1,c3,o1,o3,rfl,h2,h3,h4,(v6.1 hx).1,a4,a5,rfl,rfl,rfl⟩,a3,?_⟩
  refine hS.perm ?_
  refine (h6.append_right S).trans ?_
  rw [qgx,qgx]
  simp only [a2v,a0f,a0z]
  exact List.Perm.cons _ (zt (a:=o1.flatten) (b:=os))
theorem SlH.fill (H:SlH R n ty v l i b A Z rest)(hr:R e cs os) : SlN R n ty v (l.set i e) ([Blk1 b (A++(cs++Z)) ty]++(os++rest)):=by
 obtain ⟨cap,junk,c1,c3,o1,o3,rfl,h2,h3,h4,hi,a4,a5,rfl,rfl,rfl⟩:=H
 refine .inr ⟨b,cap,junk,c1++cs::c3,o1++os::o3,by rw [a12],by rw [a12]; exact h2,by rw [a12]; exact h3,h4,?_,?_⟩
 ·rw [List.set_eq_take_append_cons_drop,if_pos hi]
  exact a4.app (.cons hr a5)
 ·rw [qgx,qgx]
  simp only [a2v,a0f,a0z]
  exact List.Perm.cons _ (zt (a:=os) (b:=o1.flatten))
theorem SlH.ia (H:SlH R n ty v l i b A Z rest){kk:IntKind}{j:Int}(h0:0≤j)(h1:j.toNat=i) : xia n v (.int kk j)=some (.ptr b (j.toNat*n)):=by
 obtain ⟨cap,junk,c1,c3,o1,o3,rfl,h2,h3,h4,hi,_⟩:=H
 exact qi5 h0 (by omega)
theorem SlN.isrow (H:SlN R n ty v l c)(h0:l≠[]) : ∃ b,SlB v b:=by
 rcases H with ⟨rfl,rfl,rfl⟩ | ⟨b,cap,junk,css,oss,rfl,_⟩
 ·exact absurd rfl h0
 ·exact ⟨b,_,_,rfl⟩
theorem SlN.ia (H:SlN R n ty v l c)(hb:SlB v b){kk:IntKind}{j:Int}{x:α}(hg:zx l j=some x) : xia n v (.int kk j)=some (.ptr b (j.toNat*n)):=by
 obtain ⟨len,cap,rfl⟩:=hb
 obtain ⟨g0,g1,g2⟩:=ym hg
 rcases H with ⟨h0,_,_⟩ | ⟨b',cap',junk,css,oss,hv,_⟩
 ·cases h0
 ·cases hv
  exact qi5 g0 g1
theorem zb2 {o p:Nat}(hb:jb h b=some ⟨A++(cs++Z),ty,true⟩)(ha:A.length=p)(ho:o<cs.length) : xld h none (.ptr b (p+o))=cs[o]? := by
 rw [jt hb,a0u (by omega),ha,Nat.add_sub_cancel_left,a0h ho]
theorem q9i {o p m:Nat}(hb:jb h b=some ⟨A++(cs++Z),ty,true⟩)(ha:A.length=p)(ho:o+m≤cs.length) : xld h (some m) (.ptr b (p+o))=some (.agg ((cs.drop o).take m)):=by
 rw [zr hb,if_pos (by simp; omega),← ha,← a15,a3r,a1w (by omega),a1i (by simp; omega)]
theorem qyr {o p m:Nat}{u:XV}{cs':List XV}(hS:Sep h lo ([Blk1 b (A++(cs++Z)) ty]++S))(hw:∀ b,lo b→W b=true)(ha:A.length=p)(h1:u.cells.length=m)(h2:u.cells.all XV.one=true)(h3:o+m≤cs.length)(e:j0 cs o u.cells=cs')
  (K:∀ h',Sep h' lo ([Blk1 b (A++(cs'++Z)) ty]++S)→Run E W (.ops r::k) Q (fr.put d .undef) h') : Put2 E W (pst W h m (.ptr b (p+o)) u) d r k Q fr:=by
 refine qnh hS (hw _ (Sep.ge hS)) h1 h2 (by simp; omega) ?_ K
 subst e
 unfold j0
 rw [←ha,List.take_append,a1h (by omega),Nat.add_sub_cancel_left,a1i (by omega)]
 rw [show A.length+o+u.cells.length=A.length+(o+u.cells.length) by omega,← a15,a3r,a1w (by omega)]
 simp [a0f]

theorem qqx (hf:∀ x,(f x).length=n){j:Nat}(hj:j≤l.length) : (l.map f).flatten=((l.take j).map f).flatten++((l.drop j).map f).flatten:=by
 rw [←a24,← a4d,List.take_append_drop]
theorem SlF.slc {n1:Nat}{f1:α→List XV}(H:SlF f1 n1 ty v l c){i:Int}(h0:0≤i∧i≤l.length)(hS:Sep h lo (c++S)) : ∃ u,um h ty n1 v (some (.int .i64 i)) none none=some u:=by
 rcases H with ⟨rfl,rfl,rfl⟩ | ⟨b,cap,junk,rfl,hcp,hj,rfl,hjf⟩
 ·have:i=0:=by simp at h0; omega
  subst this
  exact ⟨.nil,rfl⟩
 ·have hb:=Sep.bk _ _ _ hS
  have hblk:(h[b]?).map Blk.ty=some ty:=by
   unfold jb at hb
   split at hb
   ·rename_i kb hk
    rw [hk]
    split at hb
    ·cases hb; rfl
    ·cases hb
   ·cases hb
  refine ⟨.row b (0+i.toNat*n1) (l.length - i.toNat) (cap - i.toNat),?_⟩
  unfold um ye
  simp only [h0.1,if_true,wh,Option.getD_none,Option.getD_some]
  rw [if_pos ⟨by omega,hcp,a0m _,(fun h=>by cases h),hblk⟩]
theorem w3 {W:Nat→Bool}(hS:Sep h lo S)(hW:∀ b,lo b→W b=true)(b:Nat)(hb:h.length≤b) : (W b&&decide (h.length≤b))=true:=by
 rw [hW b (hS.base b hb),decide_eq_true hb]
 rfl

theorem qnt {v:XV}(h:v.free1=true) : v.free2=true:=by cases v <;> first | exact h | (cases h; done)
theorem qim {v:XV}(h:v.free1=true) : v.free=true:=by cases v <;> first | exact h | (cases h; done)
theorem qis {vs:List XV}(h:vs.all XV.free1=true) : (XV.agg vs).free2=true:=h
theorem qdc {vs:List XV}(h:vs.all XV.free1=true) : (XV.agg vs).free=true:=h
theorem qkc {vs:List XV}(h:vs.all XV.free2=true) : (XV.tup vs).free=true:=h
theorem zq {p:XV→Bool} : ([] : List XV).all p=true:=rfl
theorem qj {p:XV→Bool}{a:XV}{l:List XV}(h1:p a=true)(h2:l.all p=true) : (a::l).all p=true:=by rw [List.all_cons,h1,h2]; rfl

theorem jp {z:List XV}(hS:Sep h lo S)(H:∀ b h',Sep h' lo ([Blk1 b z ty]++S)→Run E W (.ops r::k) Q (fr.put d (.ptr b 0)) h') : Put2 E W (qo0 W h ty z) d r k Q fr:=qzb hS H
theorem jm {m:Nat}{u:XV}{cs:List XV}(hS:Sep h lo S)(e:u.cells=cs)(h1:cs.length=m)(h2:cs.all XV.one=true)(H:∀ b h',Sep h' lo ([Blk1 b cs ty]++S)→Run E W (.ops r::k) Q (fr.put d (.ptr b 0)) h') : Put2 E W (qry W h ty m u) d r k Q fr:=qxx hS e h1 h2 H
theorem qp1 {m o:Nat}{u:XV}{cs cs':List XV}(hS:Sep h lo ([Blk1 b cs ty]++S))(hw:∀ b,lo b→W b=true)(h1:u.cells.length=m)(h2:u.cells.all XV.one=true)(h3:o+m≤cs.length)(e:j0 cs o u.cells=cs')
  (H:∀ h',Sep h' lo ([Blk1 b cs' ty]++S)→Run E W (.ops r::k) Q (fr.put d .undef) h') : Put2 E W (pst W h m (.ptr b o) u) d r k Q fr:=qnh hS (hw _ (Sep.ge hS)) h1 h2 h3 e H
theorem jc {t:Nat}{ts:List Nat}{cs:List XV}(hS:Sep h lo ([Blk1 b cs ty]++S))(hw:∀ b,lo b→W b=true)(hf:fr t = .ptr b 0)(H:∀ h',Sep h' lo S→Run E W (.code (.frz ts)::k) Q (fr.put (some t) (.ref cs 0)) h') : Run E W (.code (.frz (t::ts))::k) Q fr h:=qyu hf hS (hw _ (Sep.ge hS)) H

theorem qkh {z:List XV}{ps:List (Nat × Nat × XV)}(hS:Sep h lo (os++S))(e1:fill z ps=some cs)(hr:R e cs os)(hl:cs.length=n)(K:∀ v c h',SlN R n ty v [e] c→Sep h' lo (c++S)→Run E W (.ops r::k) Q (fr.put d v) h') : Put2 E W (xk h ty 1 z ps) d r k Q fr :=
 qlh hS e1 (fun b h' hS'=>K _ ([Blk1 b cs ty]++os) h' (.inr ⟨b,1,[],[cs],[os],rfl,a0m _,by simp,rfl,.cons hr .nil,by simp⟩) (by rw [a0f]; exact hS'))
theorem SlN.first (H:SlN R n ty v l c)(hS:Sep h lo (c++S))(hl:∀ {x cs os},R x cs os→cs.length=n) : ∃ css oss T,yi h n v=some (l.length,css.flatten)∧All3 R l css oss∧c.Perm (T++oss.flatten):=by
 rcases H with ⟨rfl,rfl,rfl⟩ | ⟨b,cap,junk,css,oss,rfl,h2,h3,h4,h5,h6⟩
 ·exact ⟨[],[],[],rfl,.nil,by simp⟩
 ·refine ⟨css,oss,[Blk1 b (css.flatten++junk) ty],?_,h5,h6⟩
  have hb:jb h b=some ⟨css.flatten++junk,ty,true⟩:=Sep.blk0 (hS.cperm h6)
  unfold yi
  dsimp only
  rw [qiw hb (h5.flen hl).symm]
theorem qnx (H:SlN R n ty v l c){ty2:TypeId}(H2:SlN R n ty2 x l2 c2)(hS:Sep h lo (c++(c2++S)))(hw:∀ b,lo b→W b=true)(hl:∀ {x cs os},R x cs os→cs.length=n)(h1:∀ {x cs os},R x cs os→cs.all XV.one=true)(hF:k5 bytes l l2=some l3)
  (K:∀ v' c' h',SlN R n ty v' l3 c'→Sep h' lo (c'++S)→Run E W (.ops r::k) Q (fr.put d v') h') : Put2 E W (qba W h ty n bytes v x) d r k Q fr:=by
 unfold k5 at hF
 split at hF
 case isFalse=>cases hF
 rename_i hs
 cases hF
 obtain ⟨css2,oss2,T,hx,a2,p2⟩:=H2.first hS.dc hl
 have hlen2:=a2.flen hl
 rcases H with ⟨rfl,rfl,rfl⟩ | ⟨b,cap,junk,css,oss,rfl,g2,g3,g4,g5,g6⟩
 ·have hS2:Sep h lo (oss2.flatten++S):=by
   have h3:Sep h lo (c2++S):=hS
   have:=h3.cperm p2
   rw [a0f] at this
   exact this.dc
  have e:qba W h ty n bytes .nil x=if l2.length=0 then some (.nil,h) else if l2.length*bytes≤70368744177664 then some (.row h.length 0 l2.length l2.length,h++[⟨css2.flatten,ty,true⟩]) else none:=by
   unfold qba
   simp only [ze,XO.ev,hx]
  rw [e]
  by_cases h0:l2.length=0
  ·have hl:l2=[]:=a3o.1 h0
   subst hl
   rw [if_pos h0]
   exact K .nil [] h SlN.nil hS2.dc
  ·rw [if_neg h0,if_pos (by simpa using hs)]
   refine K _ ([Blk1 h.length css2.flatten ty]++oss2.flatten) _ (.inr ⟨h.length,l2.length,[],css2,oss2,by simp,by simp,by simp,rfl,by simpa using a2,by simp⟩) ?_
   rw [a0f]
   exact Sep.new hS2 _ ty
 ·have hS1:Sep h lo ([Blk1 b (css.flatten++junk) ty]++((oss.flatten++oss2.flatten)++S)):=by
   have h3:=hS.cperm g6
   have h4:Sep h lo (c2++((Blk1 b (css.flatten++junk) ty::oss.flatten)++S)):=h3.m1
   have h5:=h4.cperm p2
   rw [a0f] at h5
   have h6:Sep h lo (oss2.flatten++((Blk1 b (css.flatten++junk) ty::oss.flatten)++S)):=h5.dc
   have h7:=h6.m1
   refine h7.perm ?_
   simp
  have hb:=Sep.bk _ _ _ hS1
  have hwb:=hw b (Sep.ge hS1)
  have hlen:=g5.flen hl
  unfold qba
  simp only [ze,XO.ev,hx]
  by_cases hle:l.length+l2.length≤cap
  ·rw [if_pos hle]
   have hmul:l2.length*n≤(cap - l.length)*n:=a1j n (by omega)
   have e:j0 (css.flatten++junk) (0+l.length*n) css2.flatten=(css++css2).flatten++junk.drop (l2.length*n):=by
    unfold j0
    rw [s9,← hlen,a3e,List.drop_append,List.drop_of_length_le (by omega),a0z,a24,a0f,a0f]
    congr 3
    rw [hlen2]
    omega
   rw [ql6 hwb hb (by rw [a0p,hlen,hlen2,g3]; omega) (a2.one h1),e]
   refine K _ ([Blk1 b ((css++css2).flatten++junk.drop (l2.length*n)) ty]++(oss.flatten++oss2.flatten)) _ (.inr ⟨b,cap,junk.drop (l2.length*n),css++css2,oss++oss2,?_,?_,?_,?_,g5.app a2,by simp⟩) ?_
   ·rw [a0p]
   ·rw [a0p]; exact hle
   ·rw [a2b,g3,a0p,Nat.sub_add_eq,Nat.sub_mul (cap - l.length)]
   ·rw [a04] at g4 ⊢
    exact fun x hx=>g4 x (List.mem_of_mem_drop hx)
   ·rw [a0f]
    exact Sep.set hS1 _
  ·rw [if_neg hle,hb,qiw hb hlen.symm]
   dsimp only
   rw [if_pos ⟨hwb,rfl,hs,a2.one h1⟩]
   have hh:=(Sep.kill hS1).new (css.flatten++css2.flatten) ty
   rw [kr] at hh
   refine K _ ([Blk1 h.length (css.flatten++css2.flatten) ty]++(oss.flatten++oss2.flatten)) _ (.inr ⟨h.length,l.length+l2.length,[],css++css2,oss++oss2,?_,?_,?_,rfl,g5.app a2,?_⟩) ?_
   ·rw [a0p]
   ·rw [a0p]; exact a0m _
   ·rw [a0p]; simp
   ·simp
   ·rw [a0f]; exact hh
end
end Go.Proofs.Ytohofoampalhoaa.X
namespace Go.Proofs.Ytohofoampalhoaa.X
open Go
variable {E:Env}{W:Nat→Bool}{k:List It}{Q:QE}{fr:Fr}{h:Heap}{lo:Nat→Prop}{n0:Nat}{S:List Obj}{d:Option Nat}{r:List XOper}{b:Nat}{ty:TypeId}{α:Type}{f:α→List XV}{l l2 l3:List α}{sz:TypeId→Nat}{n bytes:Nat}{v x:XV}{c c2:List Obj}{hs:Nat}{ld wr:List Nat}

theorem qds {n:Nat}{x y:XO} : Run E W (.draw hs (⟨d,.st n x y,none,3⟩::r) ld wr::k) Q fr h=Put2D E W (pst W h n (x.ev fr) (y.ev fr)) d hs r ld wr k Q fr:=by
 rw [qwb (fun _ _ e=>by cases e)]; rfl
theorem qf8 {ty esz bytes:Nat}{x y:XO} : Run E W (.draw hs (⟨d,.app ty esz bytes x y,none,3⟩::r) ld wr::k) Q fr h=Put2D E W (qba W h ty esz bytes (x.ev fr) (y.ev fr)) d hs r ld wr k Q fr:=by
 rw [qwb (fun _ _ e=>by cases e)]; rfl
theorem qdb {ty len:Nat}{zero:List XV}{ps:List (Nat × Nat × XO)} : Run E W (.draw hs (⟨d,.buildS ty len zero ps,none,4⟩::r) ld wr::k) Q fr h=Put2D E W (xk h ty len zero (ps.map (evp fr))) d hs r ld wr k Q fr:=by
 rw [qab]
 congr 1
 simp only [ze,xk]
 have e:ps.map (fun p=>(p.1,p.2.1,XO.ev fr p.2.2))=ps.map (evp fr):=rfl
 rw [e]
 cases fill zero (ps.map (evp fr)) <;> rfl
theorem qdy {o:Option (XV × Heap)}{A:XV→Heap→Prop}(H:Put2 E W o (some 0) [] [] (fun _ fr' h'=>A (fr' 0) h') fr)(K:∀ v h',A v h'→Run E W (.draw hs r ld wr::k) Q (fr.put d v) h') : Put2D E W o d hs r ld wr k Q fr:=by
 unfold Put2 at H
 unfold Put2D
 cases o with
 | none=>exact H
 | some p =>
  obtain ⟨v,h'⟩:=p
  simp only [qa,qo] at H
  refine K v h' ?_
  have e:(fr.put (some 0) v) 0=v:=by simp [Fr.put]
  rw [e] at H
  exact H
theorem fr0 {v:XV} : (fr.put (some 0) v) 0=v:=by simp [Fr.put]
theorem qkj {i:Int}{o m:Nat}{u:XV}{x x':α}(H:SlF f n ty v l c)(hS:Sep h lo (c++S))(hw:∀ b,lo b→W b=true)(hb:SlB v b)(hg:zx l i=some x)(hf:∀ x,(f x).length=n)(h1:u.cells.length=m)(h2:u.cells.all XV.one=true)(h3:o+m≤n)(e:j0 (f x) o u.cells=f x')
  (K:∀ c' h',SlF f n ty v (l.set i.toNat x') c'→Sep h' lo (c'++S)→Run E W (.draw hs r ld wr::k) Q (fr.put d .undef) h') : Put2D E W (pst W h m (.ptr b (i.toNat*n+o)) u) d hs r ld wr k Q fr:=by
 refine qdy (A:=fun v' h'=>v' = .undef∧∃ c',SlF f n ty v (l.set i.toNat x') c'∧Sep h' lo (c'++S)) ?_ (fun v' h' ⟨e1,c',a,s⟩=>by rw [e1]; exact K c' h' a s)
 exact x6 H hS hw hb hg hf h1 h2 h3 e (fun c' h' a s=>by rw [qa,qo]; exact ⟨fr0,c',a,s⟩)
theorem qbl (H:SlF f n ty v l c)(hS:Sep h lo (c++S))(hw:∀ b,lo b→W b=true)(hf:∀ x,(f x).length=n)(h1:∀ x,(f x).all XV.one=true)(hx:yi h n x=some (l2.length,(l2.map f).flatten))(hF:k5 bytes l l2=some l3)
  (K:∀ v' c' h',SlF f n ty v' l3 c'→Sep h' lo (c'++S)→Run E W (.draw hs r ld wr::k) Q (fr.put d v') h') : Put2D E W (qba W h ty n bytes v x) d hs r ld wr k Q fr:=by
 refine qdy (A:=fun v' h'=>∃ c',SlF f n ty v' l3 c'∧Sep h' lo (c'++S)) ?_ (fun v' h' ⟨c',a,s⟩=>K v' c' h' a s)
 exact yn H hS hw hf h1 hx hF (fun v' c' h' a s=>by rw [qa,qo,fr0]; exact ⟨c',a,s⟩)
theorem qec {m:Nat}{z:List XV}{ps:List (Nat × Nat × XV)}(l:List α)(hS:Sep h lo S)(e:fill z ps=some (l.map f).flatten)(hm:m=l.length)(K:∀ v c h',SlF f n ty v l c→Sep h' lo (c++S)→Run E W (.draw hs r ld wr::k) Q (fr.put d v) h') : Put2D E W (xk h ty m z ps) d hs r ld wr k Q fr:=by
 refine qdy (A:=fun v' h'=>∃ c',SlF f n ty v' l c'∧Sep h' lo (c'++S)) ?_ (fun v' h' ⟨c',a,s⟩=>K v' c' h' a s)
 exact kx l hS e hm (fun v' c' h' a s=>by rw [qa,qo,fr0]; exact ⟨c',a,s⟩)
theorem qun {m o:Nat}{u:XV}{cs cs':List XV}(hS:Sep h lo ([Blk1 b cs ty]++S))(hw:∀ b,lo b→W b=true)(h1:u.cells.length=m)(h2:u.cells.all XV.one=true)(h3:o+m≤cs.length)(e:j0 cs o u.cells=cs')
  (H:∀ h',Sep h' lo ([Blk1 b cs' ty]++S)→Run E W (.draw hs r ld wr::k) Q (fr.put d .undef) h') : Put2D E W (pst W h m (.ptr b o) u) d hs r ld wr k Q fr:=by
 refine qdy (A:=fun v' h'=>v' = .undef∧Sep h' lo ([Blk1 b cs' ty]++S)) ?_ (fun v' h' ⟨e1,s⟩=>by rw [e1]; exact H h' s)
 exact qp1 hS hw h1 h2 h3 e (fun h' s=>by rw [qa,qo]; exact ⟨fr0,s⟩)
end Go.Proofs.Ytohofoampalhoaa.X
