/- A machine of this claim's own, sound for the model's, and plain theory over it: no condition (1). -/
import Derived.Test.YtddkoiapboeemaaZP
set_option linter.unusedVariables false
set_option linter.unusedSimpArgs false
namespace Go.Proofs.Ytddkoiapboeemaa.X
open Go
section
variable {h:Heap}{lo:Nat→Prop}{S c0 c1 c2 c3 c4 c5 c6 c7 c8 c9:List Obj}
theorem Sep.m1 (H:Sep h lo (c0++(c1++S))) : Sep h lo (c1++(c0++S)):=H.perm (by
 rw [←List.append_assoc,← List.append_assoc]; exact List.perm_append_comm.append_right S)
theorem wi {a b s:List Obj} : (a++(b++s)).Perm (b++(a++s)):=by
 rw [←List.append_assoc,← List.append_assoc]; exact List.perm_append_comm.append_right s
theorem Sep.m2 (H:Sep h lo (c0++(c1++(c2++S)))) : Sep h lo (c2++(c0++(c1++S))):=H.perm ((wi.append_left c0).trans wi)
theorem Sep.m3 (H:Sep h lo (c0++(c1++(c2++(c3++S))))) : Sep h lo (c3++(c0++(c1++(c2++S)))):=H.perm ((((wi.append_left c1).trans wi).append_left c0).trans wi)
theorem Sep.m4 (H:Sep h lo (c0++(c1++(c2++(c3++(c4++S)))))) : Sep h lo (c4++(c0++(c1++(c2++(c3++S))))):=H.perm ((((((wi.append_left c2).trans wi).append_left c1).trans wi).append_left c0).trans wi)
theorem Sep.dc (H:Sep h lo (c0++S)) : Sep h lo S:=by
 induction c0 with
 | nil=>exact H
 | cons a r ih=>exact ih H.drop
theorem Sep.cperm (p:c0.Perm c1)(H:Sep h lo (c0++S)) : Sep h lo (c1++S):=H.perm (p.append_right S)
theorem Sep.bk (b:Nat)(cs:List XV)(ty:TypeId)(H:Sep h lo ([Blk1 b cs ty]++S)) : za h b=some ⟨cs,ty,true⟩:=Sep.blk0 H
end

section
variable {E:Env}{W:Nat→Bool}{k:List It}{Q:QE}{fr:Fr}{h:Heap}{lo:Nat→Prop}{n0:Nat}{S:List Obj}{d:Option Nat}{r:List XOper}{b:Nat}{ty:TypeId}{α:Type}{f:α→List XV}{l l2 l3:List α}{sz:TypeId→Nat}{n bytes:Nat}{v x:XV}{c c2:List Obj}

def SlF (f:α→List XV)(n:Nat)(ty:TypeId)(v:XV)(l:List α)(c:List Obj) : Prop :=
 (v = .nil∧l=[]∧c=[])∨∃ (b cap:Nat) (junk:List XV),v = .row b 0 l.length cap∧l.length≤cap∧junk.length=(cap - l.length)*n∧c=[Blk1 b ((l.map f).flatten++junk) ty]∧((∀ x,(f x).all XV.free1=true)→junk.all XV.free1=true)

theorem SlF.nil:SlF f n ty .nil [] [] := .inl ⟨rfl,rfl,rfl⟩
theorem SlF.row0 {b:Nat} : SlF f n ty (.row b 0 l.length l.length) l [Blk1 b (l.map f).flatten ty] := .inr ⟨b,l.length,[],rfl,Nat.le_refl _,by simp,by simp,fun _=>rfl⟩
theorem SlF.len (H:SlF f n ty v l c) : qdk v=some (.int .i64 l.length):=by
 rcases H with ⟨rfl,rfl,rfl⟩ | ⟨b,cap,junk,rfl,_,_,_,_⟩ <;> rfl
theorem SlF.plen (H:SlF f n ty v l c) : qdk v=some (.int .i64 (List.length l:Int)):=H.len

theorem qfb {cs junk:List XV}{m:Nat}(hb:za h b=some ⟨cs++junk,ty,true⟩)(hm:m=cs.length) : zw h b 0 m=some cs:=by
 rw [qdu hb,if_pos (by simp; omega),List.drop_zero,hm,List.take_left]

theorem SlF.first (H:SlF f n ty v l c)(hS:Sep h lo (c++S))(hf:∀ x,(f x).length=n) : j6 h n v=some (l.length,(l.map f).flatten):=by
 rcases H with ⟨rfl,rfl,rfl⟩ | ⟨b,cap,junk,rfl,hc,hj,rfl,hjf⟩
 ·rfl
 ·unfold j6
  dsimp only
  rw [qfb (Sep.bk _ _ _ hS) (kx hf).symm]

theorem qlh {junk:List XV}(hb:za h b=some ⟨(l.map f).flatten++junk,ty,true⟩)(hsz:sz ty=n)(hf:∀ x,(f x).length=n){i:Nat}{x:α}(hx:l[i]? = some x) : zw h b (0+i*sz ty) (sz ty)=some (f x):=by
 have hi:i<l.length:=(List.getElem?_eq_some_iff.1 hx).1
 have h3:(i+1)*n≤l.length*n:=Nat.mul_le_mul_right n hi
 rw [Nat.succ_mul] at h3
 have hl:=kx (l:=l) hf
 rw [hsz,Nat.zero_add,qdu hb,if_pos (by rw [List.length_append,hl]; omega)]
 have:=qif (f:=f) hf (o:=0) (m:=n) hx (by omega)
 simp only [Nat.add_zero,List.drop_zero] at this
 rw [List.drop_append_of_le_length (by rw [hl]; omega),List.take_append_of_le_length (by rw [List.length_drop,hl]; omega),this,List.take_of_length_le (by rw [hf]; exact Nat.le_refl _)]

theorem SlF.snap {m:Nat}(H:SlF f n ty v l c)(hS:Sep h lo (c++S))(hsz:sz ty=n)(hf:∀ x,(f x).length=n)(hc:∀ x,(f x).mapM (snap h sz m)=some (f x)) : snap h sz (m+1) v=some (lst f l):=by
 rcases H with ⟨rfl,rfl,rfl⟩ | ⟨b,cap,junk,rfl,hcp,hj,rfl,hjf⟩
 ·rfl
 ·have hb:=Sep.bk _ _ _ hS
  simp only [X.snap,hb]
  rw [y2 (f:=f) (l:=l) (fun i x hx=>by rw [qlh hb hsz hf hx]; exact hc x)]
  rfl
theorem SlF.cut {m:Nat}{keep:Bool}(H:SlF f n ty v l c)(hS:Sep h lo (c++S))(hge:∀ b,lo b→n0≤b)(hsz:sz ty=n)(hf:∀ x,(f x).length=n)(hc:∀ x,(f x).mapM (cut n0 h sz keep m)=some (f x)) : cut n0 h sz keep (m+1) v=some (lst f l):=by
 rcases H with ⟨rfl,rfl,rfl⟩ | ⟨b,cap,junk,rfl,hcp,hj,rfl,hjf⟩
 ·rfl
 ·have hb:=Sep.bk _ _ _ hS
  simp only [X.cut,hb]
  rw [if_pos (hge _ (Sep.ge hS)),y2 (f:=f) (l:=l) (fun i x hx=>by rw [qlh hb hsz hf hx]; exact hc x)]
  rfl

theorem yx (H:SlF f n ty v l c)(hS:Sep h lo (c++S))(hw:∀ b,lo b→W b=true)(hf:∀ x,(f x).length=n)(h1:∀ x,(f x).all XV.one=true)(hx:j6 h n x=some (l2.length,(l2.map f).flatten))(hF:ku bytes l l2=some l3)
  (K:∀ v' c' h',SlF f n ty v' l3 c'→Sep h' lo (c'++S)→Run E W (.ops r::k) Q (fr.put d v') h') : Put2 E W (qf4 W h ty n bytes v x) d r k Q fr:=by
 unfold ku at hF
 split at hF
 case isFalse=>cases hF
 rename_i hs
 cases hF
 rcases H with ⟨rfl,rfl,rfl⟩ | ⟨b,cap,junk,rfl,hcp,hj,rfl,hjf⟩
 ·rw [qp2 hx]
  by_cases h0:l2.length=0
  ·have hl:l2=[]:=List.length_eq_zero_iff.1 h0
   subst hl
   rw [if_pos h0]
   exact K .nil [] h SlF.nil hS
  ·rw [if_neg h0,if_pos (by simpa using hs)]
   exact K _ [Blk1 h.length (l2.map f).flatten ty] _ (by rw [List.nil_append]; exact SlF.row0) (Sep.new hS _ ty)
 ·have hb:=Sep.bk _ _ _ hS
  have hwb:=hw b (Sep.ge hS)
  have hl:=kx (l:=l) hf
  have hl2:=kx (l:=l2) hf
  unfold qf4
  simp only [qm,XO.ev,hx]
  by_cases hle:l.length+l2.length≤cap
  ·rw [if_pos hle]
   have hmul:l2.length*n≤(cap - l.length)*n:=Nat.mul_le_mul_right n (by omega)
   have e:jk ((l.map f).flatten++junk) (0+l.length*n) (l2.map f).flatten=(((l++l2).map f).flatten)++junk.drop (l2.length*n):=by
    unfold jk
    rw [Nat.zero_add,← hl,List.take_left,List.drop_append,List.drop_of_length_le (by omega),List.nil_append,List.map_append,List.flatten_append,List.append_assoc,List.append_assoc]
    congr 3
    rw [hl2]
    omega
   rw [qie hwb hb (by rw [List.length_append,hl,hl2,hj]; omega) (qoa h1),e]
   refine K _ _ _ (.inr ⟨b,cap,junk.drop (l2.length*n),?_,?_,?_,rfl,fun hh=>?_⟩) (Sep.set hS _)
   ·rw [List.length_append]
   ·rw [List.length_append]; exact hle
   ·rw [List.length_drop,hj,List.length_append,Nat.sub_add_eq,Nat.sub_mul (cap - l.length)]
   ·have:=hjf hh
    rw [List.all_eq_true] at this ⊢
    exact fun x hx=>this x (List.mem_of_mem_drop hx)
  ·rw [if_neg hle,hb,qfb hb hl.symm]
   dsimp only
   rw [if_pos ⟨hwb,rfl,hs,qoa h1⟩]
   have hh:=(Sep.kill hS).new ((l.map f).flatten++(l2.map f).flatten) ty
   rw [jj] at hh
   refine K _ [Blk1 h.length ((l.map f).flatten++(l2.map f).flatten) ty] _ (.inr ⟨h.length,_,[],?_,Nat.le_refl _,by simp,?_,fun _=>rfl⟩) hh
   ·rw [List.length_append]
   ·simp
theorem qeu {m:Int}{z:α}(hS:Sep h lo S)(hl:mkN bytes m z=some l)(hz:(f z).length=n)
  (K:∀ v c h',SlF f n ty v l c→Sep h' lo (c++S)→Run E W (.ops r::k) Q (fr.put d v) h') : Put2 E W (qih W h ty n bytes (f z) (.int .i64 m) (.int .i64 m)) d r k Q fr :=
 qqf hS hl hz (fun b h' hS'=>K _ _ h' SlF.row0 hS')
theorem j8 {m:Nat}{z:List XV}{ps:List (Nat × Nat × XV)}(l:List α)(hS:Sep h lo S)(e:fill z ps=some (l.map f).flatten)(hm:m=l.length)(K:∀ v c h',SlF f n ty v l c→Sep h' lo (c++S)→Run E W (.ops r::k) Q (fr.put d v) h') : Put2 E W (xy h ty m z ps) d r k Q fr:=by
 subst hm
 exact qjs hS e (fun b h' hS'=>K _ _ h' SlF.row0 hS')

def SlB (v:XV)(b:Nat) : Prop:=∃ len cap,v = .row b 0 len cap
theorem SlF.isrow (H:SlF f n ty v l c)(h0:l≠[]) : ∃ b,SlB v b:=by
 rcases H with ⟨rfl,rfl,rfl⟩ | ⟨b,cap,junk,rfl,_,_,_,_⟩
 ·exact absurd rfl h0
 ·exact ⟨b,_,_,rfl⟩
theorem wx {i:Int}{x:α}(hg:z2 l i=some x) : l≠[]:=by
 rintro rfl
 have:=j5 hg
 simp at this
theorem SlF.ia (H:SlF f n ty v l c)(hb:SlB v b){kk:IntKind}{i:Int}{x:α}(hg:z2 l i=some x) : xia n v (.int kk i)=some (.ptr b (i.toNat*n)):=by
 obtain ⟨len,cap,rfl⟩:=hb
 obtain ⟨g0,g1,g2⟩:=j5 hg
 rcases H with ⟨h0,_,_⟩ | ⟨b',cap',junk,hv,_,_,_,_⟩
 ·cases h0
 ·cases hv
  exact qei g0 g1
theorem SlF.ld (H:SlF f n ty v l c)(hS:Sep h lo (c++S))(hb:SlB v b){i:Int}{x:α}(hg:z2 l i=some x)(hf:∀ x,(f x).length=n){o:Nat}(ho:o+1≤n) : xld h none (.ptr b (i.toNat*n+o))=(f x)[o]? := by
 obtain ⟨len,cap,rfl⟩:=hb
 obtain ⟨g0,g1,g2⟩:=j5 hg
 rcases H with ⟨h0,_,_⟩ | ⟨b',cap',junk,hv,hcp,hj,rfl,hjf⟩
 ·cases h0
 ·cases hv
  rw [kq (Sep.bk _ _ _ hS)]
  have h4:(i.toNat+1)*n≤l.length*n:=Nat.mul_le_mul_right n (by omega)
  rw [Nat.succ_mul] at h4
  rw [List.getElem?_append_left (by rw [kx hf]; omega),qsw hf g2 (by omega)]
theorem SlF.lds (H:SlF f n ty v l c)(hS:Sep h lo (c++S))(hb:SlB v b){i:Int}{x:α}(hg:z2 l i=some x)(hf:∀ x,(f x).length=n){o m:Nat}(ho:o+m≤n) : xld h (some m) (.ptr b (i.toNat*n+o))=some (.agg (((f x).drop o).take m)):=by
 obtain ⟨len,cap,rfl⟩:=hb
 obtain ⟨g0,g1,g2⟩:=j5 hg
 rcases H with ⟨h0,_,_⟩ | ⟨b',cap',junk,hv,hcp,hj,rfl,hjf⟩
 ·cases h0
 ·cases hv
  have h4:(i.toNat+1)*n≤l.length*n:=Nat.mul_le_mul_right n (by omega)
  rw [Nat.succ_mul] at h4
  have hl:=kx (l:=l) hf
  rw [qi4 (Sep.bk _ _ _ hS),if_pos (by rw [List.length_append,hl]; omega),List.drop_append_of_le_length (by rw [hl]; omega),List.take_append_of_le_length (by rw [List.length_drop,hl]; omega),qif hf g2 ho]
theorem qbx {i:Int}{o m:Nat}{u:XV}{x x':α}(H:SlF f n ty v l c)(hS:Sep h lo (c++S))(hw:∀ b,lo b→W b=true)(hb:SlB v b)(hg:z2 l i=some x)(hf:∀ x,(f x).length=n)(h1:u.cells.length=m)(h2:u.cells.all XV.one=true)(h3:o+m≤n)(e:jk (f x) o u.cells=f x')
  (K:∀ c' h',SlF f n ty v (l.set i.toNat x') c'→Sep h' lo (c'++S)→Run E W (.ops r::k) Q (fr.put d .undef) h') : Put2 E W (pst W h m (.ptr b (i.toNat*n+o)) u) d r k Q fr:=by
 obtain ⟨len,cap,rfl⟩:=hb
 obtain ⟨g0,g1,g2⟩:=j5 hg
 rcases H with ⟨h0,_,_⟩ | ⟨b',cap',junk,hv,hcp,hj,rfl,hjf⟩
 ·cases h0
 ·cases hv
  have h4:(i.toNat+1)*n≤l.length*n:=Nat.mul_le_mul_right n (by omega)
  rw [Nat.succ_mul] at h4
  have hl:=kx (l:=l) hf
  refine qha (cs':=((l.set i.toNat x').map f).flatten++junk) hS (hw _ (Sep.ge hS)) h1 h2 (by rw [List.length_append,hl]; omega) ?_ (fun h' hS'=>K [Blk1 b (((l.set i.toNat x').map f).flatten++junk) ty] h' (.inr ⟨b,cap,junk,by rw [List.length_set],by rw [List.length_set]; exact hcp,by rw [List.length_set]; exact hj,rfl,hjf⟩) hS')
  have hu:u.cells.length=m:=h1
  have:=qnq (l:=l) (vs:=u.cells) hf g2 (by omega) e
  rw [←this]
  unfold jk
  rw [List.take_append_of_le_length (by rw [hl]; omega),List.drop_append_of_le_length (by rw [hl]; omega)]
  simp [List.append_assoc]

theorem qa3 {i:Int}{x x':α}(hg:z2 l i=some x) : z2 (l.set i.toNat x') i=some x':=by
 obtain ⟨g0,g1,g2⟩:=j5 hg
 unfold z2
 rw [if_pos g0,List.getElem?_set_self (by omega)]

def Obj.pf (o:Obj) : Prop:=∀ h n,o.ok h→o.ok (purge n h)
theorem Blk1.pf {b:Nat}{cs:List XV}(hc:cs.all XV.free1=true) : (Blk1 b cs ty).pf:=by
 intro h n hk
 have hk:h[b]? = some ⟨cs,ty,true⟩:=hk
 show (purge n h)[b]? = some ⟨cs,ty,true⟩
 rcases Nat.lt_or_ge b n with hb | hb
 ·rw [qad hb]; exact hk
 ·rw [qea hb,hk,Option.map_some]
  unfold qbe
  rw [if_pos hc]
theorem qkc (hf:∀ x,(f x).all XV.free1=true) : ((l.map f).flatten).all XV.free1=true:=by
 rw [List.all_flatten,List.all_map,List.all_eq_true]
 intro x _
 exact hf x
theorem SlF.pf (H:SlF f n ty v l c)(hf:∀ x,(f x).all XV.free1=true) : ∀ o∈c,o.pf:=by
 rcases H with ⟨rfl,rfl,rfl⟩ | ⟨b,cap,junk,rfl,hcp,hj,rfl,hjf⟩
 ·intro o ho; simp at ho
 ·intro o ho
  simp only [List.mem_singleton] at ho
  subst ho
  exact Blk1.pf (by rw [List.all_append,qkc hf,hjf hf]; rfl)
theorem SlF.free1 (H:SlF f n ty v l c) : v.free1=true:=by
 rcases H with ⟨rfl,rfl,rfl⟩ | ⟨b,cap,junk,rfl,hcp,hj,rfl,hjf⟩ <;> rfl
theorem qe3:∀ o∈([] : List Obj),o.pf:=fun o ho=>by simp at ho
theorem qdq (h1:∀ o∈c,o.pf)(h2:∀ o∈c2,o.pf) : ∀ o∈c++c2,o.pf:=fun o ho=>by
 rcases List.mem_append.1 ho with ho | ho
 ·exact h1 o ho
 ·exact h2 o ho
theorem Sep.purge {T:List Obj}{h':Heap}(H0:Sep h lo S)(H:Sep h' (geL h.length) T)(hp:∀ o∈T,o.pf)(hk:∀ b,b<h.length→h'[b]? = h[b]?) : Sep (purge h.length h') lo (T++S):=by
 have hlen:h.length≤h'.length:=H.base _ (Nat.le_refl _)
 refine ⟨fun b hb=>H0.base b (by rw [u6] at hb; omega),?_,fun b hb=>?_,fun o ho=>?_⟩
 ·rw [List.flatMap_append,List.nodup_append]
  refine ⟨H.nodup,H0.nodup,fun a ha b hb=>?_⟩
  have h1:h.length≤a:=(H.ran a ha).1
  have h2:=(H0.ran b hb).2
  omega
 ·rw [List.flatMap_append,List.mem_append] at hb
  rw [u6]
  rcases hb with hb | hb
  ·exact ⟨H0.base b (H.ran b hb).1,(H.ran b hb).2⟩
  ·exact ⟨(H0.ran b hb).1,by have:=(H0.ran b hb).2; omega⟩
 ·rcases List.mem_append.1 ho with ho | ho
  ·exact hp o ho h' h.length (H.ok o ho)
  ·exact o.loc h _ (fun b hb=>by
    have hlt:=(H0.ran b (List.mem_flatMap.2 ⟨o,ho,hb⟩)).2
    rw [qad hlt,hk b hlt]) (H0.ok o ho)
theorem Ret.keep {g:Nat}{args:List XV}{Q:XV→Heap→Prop}(H:Ret E W g args h Q) : Ret E W g args h (fun v h'=>Q v h'∧XKeep W h h'):=by
 obtain ⟨N,v,h',h1,h2⟩:=H
 exact ⟨N,v,h',⟨h1,qgj E N W g args h v h' (h2 N (Nat.le_refl _))⟩,h2⟩

theorem nle {a b:Nat}(h:Nat.ble a b=true) : a≤b:=Nat.le_of_ble_eq_true h
theorem jz {g:Nat}{caps args:List XV}{R:XV→Heap→Prop}(hm:E.mode g=0)(hc:Ret E W g (args++caps) h R)(hR:∀ v h',R v h'→Run E W (.ops r::k) Q (fr.put d v) h') : CallK E W (.fn g caps) args d r k Q fr h:=qxx hm hc hR
theorem qg0 {g:Nat}{caps args as':List XV}{R:XV→Heap→Prop}(hm:E.mode g=2)(hS:Sep h lo S)(hs:args.mapM (snap h E.sz 9)=some as')(hc:Ret E (fun b=>decide (h.length≤b)) g (as'++caps) h R)
  (hR:∀ v h',R v h'→∃ T,v.free=true∧Sep h' (geL h.length) T∧(∀ o∈T,o.pf)∧(∀ h2,Sep h2 lo (T++S)→Run E W (.ops r::k) Q (fr.put d v) h2)) : CallK E W (.fn g caps) args d r k Q fr h:=by
 refine qx8 hm hs hc.keep ?_
 rintro v h' ⟨h1,h2⟩
 obtain ⟨T,a1,a2,a3,a4⟩:=hR v h' h1
 exact ⟨a1,a4 _ (hS.purge a2 a3 (fun b hb=>h2.same b hb (by simpa using hb)))⟩
end
end Go.Proofs.Ytddkoiapboeemaa.X
namespace Go.Proofs.Ytddkoiapboeemaa.X
open Go

abbrev Rep (α:Type):=α→List XV→List Obj→Prop

inductive All3 {α:Type} (R:Rep α) : List α→List (List XV)→List (List Obj)→Prop
 | nil:All3 R [] [] []
 | cons {x:α} {cs:List XV} {os:List Obj} {l css oss} : R x cs os→All3 R l css oss→All3 R (x::l) (cs::css) (os::oss)

structure RepOk {α:Type} (sz:TypeId→Nat) (R:Rep α) (f:α→List XV) (n:Nat) : Prop where
 len:∀ {x cs os},R x cs os→cs.length=n
 flen:∀ x,(f x).length=n
 one:∀ {x cs os},R x cs os→cs.all XV.one=true
 snap:∀ {x cs os h lo S} (m:Nat),R x cs os→Sep h lo (os++S)→cs.mapM (snap h sz (m+2))=some (f x)
 cut:∀ {x cs os h lo n0 keep S} (m:Nat),R x cs os→Sep h lo (os++S)→(∀ b,lo b→n0≤b)→cs.mapM (cut n0 h sz keep (m+2))=some (f x)
 free:∀ {x cs os},R x cs os→cs.all XV.free1=true
 pf:∀ {x cs os},R x cs os→∀ o∈os,o.pf

section
variable {α:Type}{R:Rep α}{f:α→List XV}{n:Nat}{sz:TypeId→Nat}{l l2:List α}{css css2:List (List XV)}{oss oss2:List (List Obj)}

theorem All3.len (H:All3 R l css oss) : css.length=l.length∧oss.length=l.length:=by
 induction H with
 | nil=>exact ⟨rfl,rfl⟩
 | cons _ _ ih=>simp [ih.1,ih.2]
theorem All3.app (H:All3 R l css oss)(H2:All3 R l2 css2 oss2) : All3 R (l++l2) (css++css2) (oss++oss2):=by
 induction H with
 | nil=>exact H2
 | cons h _ ih=>exact .cons h ih
theorem All3.flen (H:All3 R l css oss)(hl:∀ {x cs os},R x cs os→cs.length=n) : css.flatten.length=l.length*n:=by
 induction H with
 | nil=>simp
 | cons h _ ih=>rw [List.flatten_cons,List.length_append,ih,hl h,List.length_cons,Nat.succ_mul]; omega
theorem All3.at (H:All3 R l css oss) : ∀ {i:Nat} {x:α},l[i]? = some x→∃ css1 cs css3 oss1 os oss3,css=css1++cs::css3∧oss=oss1++os::oss3∧R x cs os∧All3 R (l.take i) css1 oss1∧All3 R (l.drop (i+1)) css3 oss3:=by
 induction H with
 | nil=>intro i x hx; simp at hx
 | cons h H ih =>
  rename_i x0 cs0 os0 l0 c0 o0
  intro i x hx
  cases i with
  | zero =>
   simp at hx
   subst hx
   exact ⟨[],cs0,c0,[],os0,o0,rfl,rfl,h,.nil,by simpa using H⟩
  | succ i =>
   obtain ⟨c1,cs,c3,o1,os,o3,rfl,rfl,a3,a4,a5⟩:=ih (i:=i) (x:=x) (by simpa using hx)
   exact ⟨cs0::c1,cs,c3,os0::o1,os,o3,rfl,rfl,a3,.cons h a4,by simpa using a5⟩
theorem All3.one (H:All3 R l css oss)(h1:∀ {x cs os},R x cs os→cs.all XV.one=true) : css.flatten.all XV.one=true:=by
 induction H with
 | nil=>rfl
 | cons h _ ih=>rw [List.flatten_cons,List.all_append,h1 h,ih]; rfl
theorem All3.free (H:All3 R l css oss)(h1:∀ {x cs os},R x cs os→cs.all XV.free1=true) : css.flatten.all XV.free1=true:=by
 induction H with
 | nil=>rfl
 | cons h _ ih=>rw [List.flatten_cons,List.all_append,h1 h,ih]; rfl
theorem All3.pf (H:All3 R l css oss)(h1:∀ {x cs os},R x cs os→∀ o∈os,o.pf) : ∀ o∈oss.flatten,o.pf:=by
 induction H with
 | nil=>intro o ho; simp at ho
 | cons h _ ih =>
  intro o ho
  rw [List.flatten_cons,List.mem_append] at ho
  rcases ho with ho | ho
  ·exact h1 h o ho
  ·exact ih o ho
theorem qck {β:Type}{a b:List (List β)}{x:List β} : (a++x::b).flatten=a.flatten++(x++b.flatten):=by simp

def SlN (R:Rep α)(n:Nat)(ty:TypeId)(v:XV)(l:List α)(c:List Obj) : Prop :=
 (v = .nil∧l=[]∧c=[])∨∃ (b cap:Nat) (junk:List XV) (css:List (List XV)) (oss:List (List Obj)),v = .row b 0 l.length cap∧l.length≤cap∧junk.length=(cap - l.length)*n∧junk.all XV.free1=true∧All3 R l css oss∧c.Perm (Blk1 b (css.flatten++junk) ty::oss.flatten)

def SlH (R:Rep α)(n:Nat)(ty:TypeId)(v:XV)(l:List α)(i b:Nat)(A Z:List XV)(rest:List Obj) : Prop :=
 ∃ (cap:Nat) (junk:List XV) (css1 css3:List (List XV)) (oss1 oss3:List (List Obj)),v = .row b 0 l.length cap∧l.length≤cap∧junk.length=(cap - l.length)*n∧junk.all XV.free1=true∧i<l.length∧All3 R (l.take i) css1 oss1∧All3 R (l.drop (i+1)) css3 oss3∧A=css1.flatten∧Z=css3.flatten++junk∧rest=oss1.flatten++oss3.flatten
end

section
variable {E:Env}{W:Nat→Bool}{k:List It}{Q:QE}{fr:Fr}{h:Heap}{lo:Nat→Prop}{n0:Nat}{S:List Obj}{d:Option Nat}{r:List XOper}{b:Nat}{ty:TypeId}{α:Type}{R:Rep α}{f:α→List XV}{l l2 l3:List α}{sz:TypeId→Nat}{n bytes:Nat}{v x:XV}{c c2:List Obj}{i:Nat}{A Z cs:List XV}{os rest:List Obj}{e:α}

theorem SlN.nil:SlN R n ty .nil [] [] := .inl ⟨rfl,rfl,rfl⟩
theorem SlN.len (H:SlN R n ty v l c) : qdk v=some (.int .i64 (List.length l:Int)):=by
 rcases H with ⟨rfl,rfl,rfl⟩ | ⟨b,cap,junk,css,oss,rfl,_⟩ <;> rfl
theorem SlN.perm (H:SlN R n ty v l c)(p:c.Perm c2) : SlN R n ty v l c2:=by
 rcases H with ⟨rfl,rfl,rfl⟩ | ⟨b,cap,junk,css,oss,h1,h2,h3,h4,h5,h6⟩
 ·exact .inl ⟨rfl,rfl,List.nil_perm.1 p⟩
 ·exact .inr ⟨b,cap,junk,css,oss,h1,h2,h3,h4,h5,p.symm.trans h6⟩
theorem SlN.free1 (H:SlN R n ty v l c) : v.free1=true:=by
 rcases H with ⟨rfl,rfl,rfl⟩ | ⟨b,cap,junk,css,oss,rfl,_⟩ <;> rfl
theorem SlN.pf (H:SlN R n ty v l c)(hR:RepOk sz R f n) : ∀ o∈c,o.pf:=by
 rcases H with ⟨rfl,rfl,rfl⟩ | ⟨b,cap,junk,css,oss,h1,h2,h3,h4,h5,h6⟩
 ·intro o ho; simp at ho
 ·intro o ho
  rcases List.mem_cons.1 (h6.mem_iff.1 ho) with rfl | ho
  ·exact Blk1.pf (by rw [List.all_append,h5.free hR.free,h4]; rfl)
  ·exact h5.pf hR.pf o ho

theorem All3.reads {css:List (List XV)}{oss:List (List Obj)}{g:XV→Option XV}(H:All3 R l css oss)(hg:∀ (i:Nat) x cs os,l[i]? = some x→css[i]? = some cs→oss[i]? = some os→R x cs os→cs.mapM g=some (f x)) : ∀ (i:Nat) x,l[i]? = some x→∃ cs,css[i]? = some cs∧cs.mapM g=some (f x):=by
 intro i x hx
 obtain ⟨c1,cs,c3,o1,os,o3,rfl,rfl,a3,a4,a5⟩:=H.at hx
 have hi:i<l.length:=(List.getElem?_eq_some_iff.1 hx).1
 have e1:c1.length=i:=by rw [a4.len.1,List.length_take]; omega
 have e2:o1.length=i:=by rw [a4.len.2,List.length_take]; omega
 have e3:(c1++cs::c3)[i]? = some cs:=by rw [List.getElem?_append_right (by omega),e1]; simp
 exact ⟨cs,e3,hg i x cs os hx e3 (by rw [List.getElem?_append_right (by omega),e2]; simp) a3⟩
theorem qf8 {css:List (List XV)}{junk:List XV}(hb:za h b=some ⟨css.flatten++junk,ty,true⟩)(hl:∀ cs∈css,cs.length=n){i:Nat}{cs:List XV}(hi:css[i]? = some cs) : zw h b (0+i*n) n=some cs:=by
 have key:∀ {css:List (List XV)} {i:Nat},(∀ cs∈css,cs.length=n)→css[i]? = some cs→∃ A Z,css.flatten=A++(cs++Z)∧A.length=i*n:=by
  intro css
  induction css with
  | nil=>intro i _ h; simp at h
  | cons c0 css ih =>
   intro i hl hi
   cases i with
   | zero=>simp at hi; subst hi; exact ⟨[],css.flatten,by simp,by simp⟩
   | succ i =>
    obtain ⟨A,Z,h1,h2⟩:=ih (i:=i) (fun cs hcs=>hl cs (by simp [hcs])) (by simpa using hi)
    exact ⟨c0++A,Z,by rw [List.flatten_cons,h1,List.append_assoc],by rw [List.length_append,h2,hl c0 (by simp),Nat.succ_mul]; omega⟩
 obtain ⟨A,Z,h1,h2⟩:=key hl hi
 have hn:cs.length=n:=hl cs (List.mem_of_getElem? hi)
 rw [qdu hb,Nat.zero_add,h1,if_pos (by simp; omega),← h2,List.append_assoc,List.drop_left,← hn,List.append_assoc,List.take_left]
theorem All3.lens {css:List (List XV)}{oss:List (List Obj)}(H:All3 R l css oss)(hl:∀ {x cs os},R x cs os→cs.length=n) : ∀ cs∈css,cs.length=n:=by
 induction H with
 | nil=>intro cs hcs; simp at hcs
 | cons h _ ih =>
  intro cs hcs
  rcases List.mem_cons.1 hcs with rfl | hcs
  ·exact hl h
  ·exact ih cs hcs
theorem qir {oss:List (List Obj)}{o1:List Obj} : ∀ {oss:List (List Obj)} {os:List Obj} {i:Nat},oss[i]? = some os→∃ T,(oss.flatten).Perm (os++T):=by
 intro oss
 induction oss with
 | nil=>intro os i h; simp at h
 | cons o oss ih =>
  intro os i hi
  cases i with
  | zero=>simp at hi; subst hi; exact ⟨oss.flatten,by rw [List.flatten_cons]⟩
  | succ i =>
   obtain ⟨T,p⟩:=ih (i:=i) (by simpa using hi)
   refine ⟨o++T,?_⟩
   rw [List.flatten_cons]
   exact (p.append_left o).trans wi

theorem SlN.snap (H:SlN R n ty v l c)(m:Nat)(hS:Sep h lo (c++S))(hsz:sz ty=n)(hR:RepOk sz R f n) : snap h sz (m+3) v=some (lst f l):=by
 rcases H with ⟨rfl,rfl,rfl⟩ | ⟨b,cap,junk,css,oss,rfl,h2,h3,h4,h5,h6⟩
 ·rfl
 ·have hS1:Sep h lo ((Blk1 b (css.flatten++junk) ty::oss.flatten)++S):=hS.cperm h6
  have hb:za h b=some ⟨css.flatten++junk,ty,true⟩:=Sep.blk0 hS1
  have hS2:Sep h lo (oss.flatten++S):=Sep.drop hS1
  have hrd:=h5.reads (f:=f) (g:=X.snap h sz (m+2)) (fun i x cs os _ _ ho hr=>by
   obtain ⟨T,p⟩:=qir (oss:=oss) (o1:=[]) ho
   exact hR.snap (lo:=lo) (S:=T++S) m hr (by have:=hS2.cperm p; rwa [List.append_assoc] at this))
  simp only [X.snap,hb,hsz]
  rw [y2 (f:=f) (l:=l) (fun i x hx=>?_)]
  ·rfl
  ·obtain ⟨cs,g1,g2⟩:=hrd i x hx
   rw [qf8 hb (h5.lens hR.len) g1]
   exact g2
theorem SlN.cut {keep:Bool}(H:SlN R n ty v l c)(m:Nat)(hS:Sep h lo (c++S))(hge:∀ b,lo b→n0≤b)(hsz:sz ty=n)(hR:RepOk sz R f n) : cut n0 h sz keep (m+3) v=some (lst f l):=by
 rcases H with ⟨rfl,rfl,rfl⟩ | ⟨b,cap,junk,css,oss,rfl,h2,h3,h4,h5,h6⟩
 ·rfl
 ·have hS1:Sep h lo ((Blk1 b (css.flatten++junk) ty::oss.flatten)++S):=hS.cperm h6
  have hb:za h b=some ⟨css.flatten++junk,ty,true⟩:=Sep.blk0 hS1
  have hS2:Sep h lo (oss.flatten++S):=Sep.drop hS1
  have hrd:=h5.reads (f:=f) (g:=X.cut n0 h sz keep (m+2)) (fun i x cs os _ _ ho hr=>by
   obtain ⟨T,p⟩:=qir (oss:=oss) (o1:=[]) ho
   exact hR.cut (lo:=lo) (S:=T++S) m hr (by have:=hS2.cperm p; rwa [List.append_assoc] at this) hge)
  simp only [X.cut,hb,hsz]
  rw [if_pos (hge _ (Sep.ge hS1)),y2 (f:=f) (l:=l) (fun i x hx=>?_)]
  ·rfl
  ·obtain ⟨cs,g1,g2⟩:=hrd i x hx
   rw [qf8 hb (h5.lens hR.len) g1]
   exact g2

theorem SlN.hole (H:SlN R n ty v l c)(hx:l[i]? = some e)(hS:Sep h lo (c++S)) : ∃ b A Z cs os rest,SlH R n ty v l i b A Z rest∧R e cs os∧Sep h lo ([Blk1 b (A++(cs++Z)) ty]++(os++(rest++S))):=by
 rcases H with ⟨rfl,rfl,rfl⟩ | ⟨b,cap,junk,css,oss,rfl,h2,h3,h4,h5,h6⟩
 ·simp at hx
 ·obtain ⟨c1,cs,c3,o1,os,o3,rfl,rfl,a3,a4,a5⟩:=h5.at hx
  refine ⟨b,c1.flatten,c3.flatten++junk,cs,os,o1.flatten++o3.flatten,⟨cap,junk,c1,c3,o1,o3,rfl,h2,h3,h4,(List.getElem?_eq_some_iff.1 hx).1,a4,a5,rfl,rfl,rfl⟩,a3,?_⟩
  refine hS.perm ?_
  refine (h6.append_right S).trans ?_
  rw [qck,qck]
  simp only [List.cons_append,List.append_assoc,List.nil_append]
  exact List.Perm.cons _ (wi (a:=o1.flatten) (b:=os))
theorem SlH.fill (H:SlH R n ty v l i b A Z rest)(hr:R e cs os) : SlN R n ty v (l.set i e) ([Blk1 b (A++(cs++Z)) ty]++(os++rest)):=by
 obtain ⟨cap,junk,c1,c3,o1,o3,rfl,h2,h3,h4,hi,a4,a5,rfl,rfl,rfl⟩:=H
 refine .inr ⟨b,cap,junk,c1++cs::c3,o1++os::o3,by rw [List.length_set],by rw [List.length_set]; exact h2,by rw [List.length_set]; exact h3,h4,?_,?_⟩
 ·rw [List.set_eq_take_append_cons_drop,if_pos hi]
  exact a4.app (.cons hr a5)
 ·rw [qck,qck]
  simp only [List.cons_append,List.append_assoc,List.nil_append]
  exact List.Perm.cons _ (wi (a:=os) (b:=o1.flatten))
theorem SlH.ia (H:SlH R n ty v l i b A Z rest){kk:IntKind}{j:Int}(h0:0≤j)(h1:j.toNat=i) : xia n v (.int kk j)=some (.ptr b (j.toNat*n)):=by
 obtain ⟨cap,junk,c1,c3,o1,o3,rfl,h2,h3,h4,hi,_⟩:=H
 exact qei h0 (by omega)
theorem SlN.isrow (H:SlN R n ty v l c)(h0:l≠[]) : ∃ b,SlB v b:=by
 rcases H with ⟨rfl,rfl,rfl⟩ | ⟨b,cap,junk,css,oss,rfl,_⟩
 ·exact absurd rfl h0
 ·exact ⟨b,_,_,rfl⟩
theorem SlN.ia (H:SlN R n ty v l c)(hb:SlB v b){kk:IntKind}{j:Int}{x:α}(hg:z2 l j=some x) : xia n v (.int kk j)=some (.ptr b (j.toNat*n)):=by
 obtain ⟨len,cap,rfl⟩:=hb
 obtain ⟨g0,g1,g2⟩:=j5 hg
 rcases H with ⟨h0,_,_⟩ | ⟨b',cap',junk,css,oss,hv,_⟩
 ·cases h0
 ·cases hv
  exact qei g0 g1
theorem qyc {o p:Nat}(hb:za h b=some ⟨A++(cs++Z),ty,true⟩)(ha:A.length=p)(ho:o<cs.length) : xld h none (.ptr b (p+o))=cs[o]? := by
 rw [kq hb,List.getElem?_append_right (by omega),ha,Nat.add_sub_cancel_left,List.getElem?_append_left ho]
theorem qwx {o p m:Nat}(hb:za h b=some ⟨A++(cs++Z),ty,true⟩)(ha:A.length=p)(ho:o+m≤cs.length) : xld h (some m) (.ptr b (p+o))=some (.agg ((cs.drop o).take m)):=by
 rw [qi4 hb,if_pos (by simp; omega),← ha,← List.drop_drop,List.drop_left,List.drop_append_of_le_length (by omega),List.take_append_of_le_length (by simp; omega)]
theorem qf3 (hf:∀ x,(f x).length=n){j:Nat}(hj:j≤l.length) : (l.map f).flatten=((l.take j).map f).flatten++((l.drop j).map f).flatten:=by
 rw [←List.flatten_append,← List.map_append,List.take_append_drop]
theorem SlF.trunc {n1:Nat}{f1:α→List XV}(H:SlF f1 n1 ty v l c){j:Int}{l2:List α}(hs:sl l 0 j=some l2)(hf:∀ x,(f1 x).length=n1)(hS:Sep h lo (c++S)) : ∃ v',yc h ty n1 v none (some (.int .i64 j)) none=some v'∧SlF f1 n1 ty v' l2 c:=by
 obtain ⟨c1,c2,c3,rfl⟩:=qco hs
 rcases H with ⟨rfl,rfl,rfl⟩ | ⟨b,cap,junk,rfl,hcp,hj,rfl,hjf⟩
 ·have:j=0:=by simp at c3; omega
  subst this
  exact ⟨.nil,rfl,by simpa using SlF.nil⟩
 ·have hl:=kx (l:=l) hf
  have hb:=Sep.bk _ _ _ hS
  have hblk:(h[b]?).map Blk.ty=some ty:=by
   unfold za at hb
   split at hb
   ·rename_i kb hk
    rw [hk]
    split at hb
    ·cases hb; rfl
    ·cases hb
   ·cases hb
  refine ⟨.row b 0 j.toNat cap,?_,.inr ⟨b,cap,((l.drop j.toNat).map f1).flatten++junk,?_,?_,?_,?_,?_⟩⟩
  ·unfold yc jo
   simp only [show (0:Int)≤j by omega,if_true,ky,Option.getD_none,Option.getD_some]
   rw [if_pos ⟨Nat.zero_le _,by omega,Nat.le_refl _,(fun h=>by cases h),hblk⟩]
   simp
  ·rw [show Int.toNat 0=0 from rfl,List.drop_zero,List.length_take]; congr 1; omega
  ·rw [show Int.toNat 0=0 from rfl,List.drop_zero,List.length_take]; omega
  ·rw [List.length_append,hj,kx hf,List.length_drop,show Int.toNat 0=0 from rfl,List.drop_zero,List.length_take,← Nat.add_mul]
   congr 1
   omega
  ·rw [show Int.toNat 0=0 from rfl,List.drop_zero,qf3 hf (j:=j.toNat) (by omega),List.append_assoc]
  ·intro hh
   rw [List.all_append,qkc hh,hjf hh]
   rfl
def qhs {α:Type}(l:List α)(i:Int)(z:α) : Option (List α):=if 0≤i∧i≤l.length then some (l.take i.toNat++List.replicate (l.length - i.toNat) z) else none
theorem qos {n1:Nat}{f1:α→List XV}(H:SlF f1 n1 ty v l c){i:Int}{l2:List α}{z:α}{u:XV}(hu:yc h ty n1 v (some (.int .i64 i)) none none=some u)(hs:qhs l i z=some l2)(hf:∀ x,(f1 x).length=n1)(h1:(f1 z).all XV.one=true)(hS:Sep h lo (c++S))(hw:∀ b,lo b→W b=true)
  (K:∀ c' h',SlF f1 n1 ty v l2 c'→Sep h' lo (c'++S)→Run E W (.ops r::k) Q (fr.put d (.tup [])) h') : Put2 E W (qqn W h ty (f1 z) u) d r k Q fr:=by
 unfold qhs at hs
 split at hs
 case isFalse=>cases hs
 rename_i hc
 obtain ⟨c1,c2⟩:=hc
 cases hs
 rcases H with ⟨rfl,rfl,rfl⟩ | ⟨b,cap,junk,rfl,hcp,hj,rfl,hjf⟩
 ·have hi0:i=0:=by simp at c2; omega
  subst hi0
  have:u = .nil:=by
   have:yc h ty n1 .nil (some (.int .i64 0)) none none=some .nil:=rfl
   rw [this] at hu
   cases hu
   rfl
  subst this
  exact K [] h (by simpa using SlF.nil) hS
 ·have hl:=kx (l:=l) hf
  have hb:=Sep.bk _ _ _ hS
  have hu2:u = .row b (0+i.toNat*n1) (l.length - i.toNat) (cap - i.toNat):=by
   unfold yc jo at hu
   simp only [c1,if_true,ky,Option.getD_none,Option.getD_some] at hu
   split at hu
   ·cases hu; rfl
   ·cases hu
  subst hu2
  have e0:qqn W h ty (f1 z) (.row b (0+i.toNat*n1) (l.length - i.toNat) (cap - i.toNat))=if l.length - i.toNat=0 then some (.tup [],h) else (match setCells W h b (0+i.toNat*n1) (List.replicate (l.length - i.toNat) (f1 z)).flatten with | some h'=>some (.tup [],h') | none=>none):=rfl
  rw [e0]
  have e1:(List.replicate (l.length - i.toNat) (f1 z)).flatten=((List.replicate (l.length - i.toNat) z).map f1).flatten:=by rw [List.map_replicate]
  have hil:i.toNat≤l.length:=by omega
  by_cases h0:l.length - i.toNat=0
  ·rw [if_pos h0]
   refine K [Blk1 b ((l.map f1).flatten++junk) ty] h (.inr ⟨b,cap,junk,?_,?_,?_,?_,hjf⟩) hS
   ·rw [h0]; simp; congr 1; omega
   ·rw [h0]; simp; omega
   ·rw [h0]; simp; rw [hj,show min i.toNat l.length=l.length by omega]
   ·rw [h0]; simp; rw [List.take_of_length_le (by simp; omega)]
  ·rw [if_neg h0]
   have hmul:i.toNat*n1+(l.length - i.toNat)*n1=l.length*n1:=by rw [←Nat.add_mul]; congr 1; omega
   have e2:jk ((l.map f1).flatten++junk) (0+i.toNat*n1) (List.replicate (l.length - i.toNat) (f1 z)).flatten=((l.take i.toNat++List.replicate (l.length - i.toNat) z).map f1).flatten++junk:=by
    unfold jk
    have e4:i.toNat*n1≤((l.map f1).flatten).length:=by rw [hl]; omega
    have e5:((List.replicate (l.length - i.toNat) z).map f1).flatten.length=(l.length - i.toNat)*n1:=by rw [kx hf,List.length_replicate]
    rw [e1,Nat.zero_add,List.take_append_of_le_length e4,qhq hf hil,e5,hmul,← hl,List.drop_left,List.map_append,List.flatten_append]
   have e3:(List.replicate (l.length - i.toNat) (f1 z)).flatten.length=(l.length - i.toNat)*n1:=by rw [e1,kx hf,List.length_replicate]
   rw [qie (hw _ (Sep.ge hS)) hb (by rw [e3,List.length_append,hl]; omega) (by
    rw [List.all_flatten,List.all_eq_true]
    intro x hx
    rw [(List.mem_replicate.1 hx).2]
    exact h1),e2]
   refine K [Blk1 b (((l.take i.toNat++List.replicate (l.length - i.toNat) z).map f1).flatten++junk) ty] _ (.inr ⟨b,cap,junk,?_,?_,?_,rfl,hjf⟩) (Sep.set hS _)
   ·simp; congr 1; omega
   ·simp; omega
   ·simp; rw [hj,show min i.toNat l.length+(l.length - i.toNat)=l.length by omega]
theorem SlF.slc {n1:Nat}{f1:α→List XV}(H:SlF f1 n1 ty v l c){i:Int}(h0:0≤i∧i≤l.length)(hS:Sep h lo (c++S)) : ∃ u,yc h ty n1 v (some (.int .i64 i)) none none=some u:=by
 rcases H with ⟨rfl,rfl,rfl⟩ | ⟨b,cap,junk,rfl,hcp,hj,rfl,hjf⟩
 ·have:i=0:=by simp at h0; omega
  subst this
  exact ⟨.nil,rfl⟩
 ·have hb:=Sep.bk _ _ _ hS
  have hblk:(h[b]?).map Blk.ty=some ty:=by
   unfold za at hb
   split at hb
   ·rename_i kb hk
    rw [hk]
    split at hb
    ·cases hb; rfl
    ·cases hb
   ·cases hb
  refine ⟨.row b (0+i.toNat*n1) (l.length - i.toNat) (cap - i.toNat),?_⟩
  unfold yc jo
  simp only [h0.1,if_true,ky,Option.getD_none,Option.getD_some]
  rw [if_pos ⟨by omega,hcp,Nat.le_refl _,(fun h=>by cases h),hblk⟩]
theorem qlt {i:Int}{l2:List α}{z:α}(hs:qhs l i z=some l2) : 0≤i∧i≤l.length:=by
 unfold qhs at hs
 split at hs
 ·assumption
 ·cases hs

theorem qyl {m g:Nat}{keep:Bool}{cs us:List XV}(e:cs.mapM (X.cut n0 h sz keep m)=some us) : X.cut n0 h sz keep (m+1) (.fn g cs)=some (.fn g us):=by simp only [X.cut,e]
theorem qql {m o:Nat}{cs us:List XV}(e:cs.mapM (X.cut n0 h sz true m)=some us) : X.cut n0 h sz true (m+1) (.ref cs o)=some (.ref us o):=by simp only [X.cut,e,if_true]
theorem w3 {W:Nat→Bool}(hS:Sep h lo S)(hW:∀ b,lo b→W b=true)(b:Nat)(hb:h.length≤b) : (W b&&decide (h.length≤b))=true:=by
 rw [hW b (hS.base b hb),decide_eq_true hb]
 rfl

theorem qcp {v:XV}(h:v.free1=true) : v.free2=true:=by cases v <;> first | exact h | (cases h; done)
theorem qex {vs:List XV}(h:vs.all XV.free2=true) : (XV.tup vs).free=true:=h
theorem qg5 {p:XV→Bool} : ([] : List XV).all p=true:=rfl
theorem qb7 {p:XV→Bool}{a:XV}{l:List XV}(h1:p a=true)(h2:l.all p=true) : (a::l).all p=true:=by rw [List.all_cons,h1,h2]; rfl

theorem qpe {len esz:Nat}{kk:IntKind}{i:Int}(h0:0≤i)(h1:i<len)(K:Run E W (.ops r::k) Q (fr.put d (.ptr b (i.toNat*esz))) h) : Put2 E W (qp7 W h len esz (.ptr b 0) (.int kk i)) d r k Q fr:=by
 have e:qp7 W h len esz (.ptr b 0) (.int kk i)=some (.ptr b (0+i.toNat*esz),h):=if_pos ⟨h0,h1⟩
 rw [e,Nat.zero_add]
 exact K
def qkl (len esz:Nat) : XV→XV→Option XV
 | .ptr b off,.int _ n=>if 0≤n∧n<len then some (.ptr b (off+n.toNat*esz)) else none
 | _,_=>none
theorem qyd {len esz:Nat}{x y:XO}{hs:Nat}{ld wr:List Nat} : Run E W (.draw hs (⟨d,.iaA len esz x y,none,4⟩::r) ld wr::k) Q fr h=Put1D E W (qkl len esz (x.ev fr) (y.ev fr)) d hs r ld wr k Q fr h:=by
 rw [uk,← y3]
 congr 1
 simp only [qm]
 cases x.ev fr <;> try rfl
 cases y.ev fr <;> try rfl
 simp only [qkl]
 split <;> rfl
theorem qxp {len esz:Nat}{kk:IntKind}{i:Int}(h0:0≤i)(h1:i<len) : qkl len esz (.ptr b 0) (.int kk i)=some (.ptr b (i.toNat*esz)):=by
 have:qkl len esz (.ptr b 0) (.int kk i)=some (.ptr b (0+i.toNat*esz)):=if_pos ⟨h0,h1⟩
 rw [this,Nat.zero_add]
theorem qyf {f1:α→List XV}(hb:za h b=some ⟨(l.map f1).flatten,ty,true⟩){i:Int}{x:α}(hg:z2 l i=some x)(hf:∀ x,(f1 x).length=1) : xld h none (.ptr b (i.toNat*1))=(f1 x)[0]? := by
 obtain ⟨g0,g1,g2⟩:=j5 hg
 have:=qsw (f:=f1) (n:=1) hf g2 (o:=0) (by omega)
 rw [kq hb]
 exact this
theorem qkh {f1:α→List XV}{i:Int}{u:XV}{x x':α}(hS:Sep h lo ([Blk1 b (l.map f1).flatten ty]++S))(hw:∀ b,lo b→W b=true)(hg:z2 l i=some x)(hf:∀ x,(f1 x).length=1)(e:u.cells=f1 x')(h2:u.cells.all XV.one=true)
  (K:∀ h',Sep h' lo ([Blk1 b ((l.set i.toNat x').map f1).flatten ty]++S)→Run E W (.ops r::k) Q (fr.put d .undef) h') : Put2 E W (pst W h 1 (.ptr b (i.toNat*1)) u) d r k Q fr:=by
 obtain ⟨g0,g1,g2⟩:=j5 hg
 have hl:=kx (l:=l) hf
 refine qha (o:=i.toNat*1) hS (hw _ (Sep.ge hS)) (by rw [e,hf]) h2 (by rw [hl]; omega) ?_ K
 have:=qnq (l:=l) (f:=f1) (n:=1) (o:=0) (vs:=u.cells) (x':=x') hf g2 (by rw [e,hf]; exact Nat.le_refl _) (by
  rw [e]
  have a1:=hf x
  have a2:=hf x'
  unfold jk
  rw [List.take_zero,List.nil_append,List.drop_of_length_le (by omega),List.append_nil])
 exact this

theorem ki {z:List XV}(hS:Sep h lo S)(H:∀ b h',Sep h' lo ([Blk1 b z ty]++S)→Run E W (.ops r::k) Q (fr.put d (.ptr b 0)) h') : Put2 E W (qqk W h ty z) d r k Q fr:=qp1 hS H
theorem yq {m:Nat}{u:XV}{cs:List XV}(hS:Sep h lo S)(e:u.cells=cs)(h1:cs.length=m)(h2:cs.all XV.one=true)(H:∀ b h',Sep h' lo ([Blk1 b cs ty]++S)→Run E W (.ops r::k) Q (fr.put d (.ptr b 0)) h') : Put2 E W (qkd W h ty m u) d r k Q fr:=qqi hS e h1 h2 H
theorem qi8 {m o:Nat}{u:XV}{cs cs':List XV}(hS:Sep h lo ([Blk1 b cs ty]++S))(hw:∀ b,lo b→W b=true)(h1:u.cells.length=m)(h2:u.cells.all XV.one=true)(h3:o+m≤cs.length)(e:jk cs o u.cells=cs')
  (H:∀ h',Sep h' lo ([Blk1 b cs' ty]++S)→Run E W (.ops r::k) Q (fr.put d .undef) h') : Put2 E W (pst W h m (.ptr b o) u) d r k Q fr:=qha hS (hw _ (Sep.ge hS)) h1 h2 h3 e H
theorem ji {t:Nat}{ts:List Nat}{cs:List XV}(hS:Sep h lo ([Blk1 b cs ty]++S))(hw:∀ b,lo b→W b=true)(hf:fr t = .ptr b 0)(H:∀ h',Sep h' lo S→Run E W (.code (.frz ts)::k) Q (fr.put (some t) (.ref cs 0)) h') : Run E W (.code (.frz (t::ts))::k) Q fr h:=qqo hf hS (hw _ (Sep.ge hS)) H

theorem SlN.first (H:SlN R n ty v l c)(hS:Sep h lo (c++S))(hl:∀ {x cs os},R x cs os→cs.length=n) : ∃ css oss T,j6 h n v=some (l.length,css.flatten)∧All3 R l css oss∧c.Perm (T++oss.flatten):=by
 rcases H with ⟨rfl,rfl,rfl⟩ | ⟨b,cap,junk,css,oss,rfl,h2,h3,h4,h5,h6⟩
 ·exact ⟨[],[],[],rfl,.nil,by simp⟩
 ·refine ⟨css,oss,[Blk1 b (css.flatten++junk) ty],?_,h5,h6⟩
  have hb:za h b=some ⟨css.flatten++junk,ty,true⟩:=Sep.blk0 (hS.cperm h6)
  unfold j6
  dsimp only
  rw [qfb hb (h5.flen hl).symm]
end
end Go.Proofs.Ytddkoiapboeemaa.X
namespace Go.Proofs.Ytddkoiapboeemaa.X
open Go
variable {E:Env}{W:Nat→Bool}{k:List It}{Q:QE}{fr:Fr}{h:Heap}{lo:Nat→Prop}{n0:Nat}{S:List Obj}{d:Option Nat}{r:List XOper}{b:Nat}{ty:TypeId}{α:Type}{f:α→List XV}{l l2 l3:List α}{sz:TypeId→Nat}{n bytes:Nat}{v x:XV}{c c2:List Obj}{hs:Nat}{ld wr:List Nat}

theorem qoo {ty esz bytes:Nat}{x y:XO} : Run E W (.draw hs (⟨d,.app ty esz bytes x y,none,3⟩::r) ld wr::k) Q fr h=Put2D E W (qf4 W h ty esz bytes (x.ev fr) (y.ev fr)) d hs r ld wr k Q fr:=by
 rw [qx5 (fun _ _ e=>by cases e)]; rfl
theorem ql3 {ty len:Nat}{zero:List XV}{ps:List (Nat × Nat × XO)} : Run E W (.draw hs (⟨d,.buildS ty len zero ps,none,4⟩::r) ld wr::k) Q fr h=Put2D E W (xy h ty len zero (ps.map (evp fr))) d hs r ld wr k Q fr:=by
 rw [uk]
 congr 1
 simp only [qm,xy]
 have e:ps.map (fun p=>(p.1,p.2.1,XO.ev fr p.2.2))=ps.map (evp fr):=rfl
 rw [e]
 cases fill zero (ps.map (evp fr)) <;> rfl
theorem qwy {o:Option (XV × Heap)}{A:XV→Heap→Prop}(H:Put2 E W o (some 0) [] [] (fun _ fr' h'=>A (fr' 0) h') fr)(K:∀ v h',A v h'→Run E W (.draw hs r ld wr::k) Q (fr.put d v) h') : Put2D E W o d hs r ld wr k Q fr:=by
 unfold Put2 at H
 unfold Put2D
 cases o with
 | none=>exact H
 | some p =>
  obtain ⟨v,h'⟩:=p
  simp only [qa,qk] at H
  refine K v h' ?_
  have e:(fr.put (some 0) v) 0=v:=by simp [Fr.put]
  rw [e] at H
  exact H
theorem fr0 {v:XV} : (fr.put (some 0) v) 0=v:=by simp [Fr.put]
theorem qgt (H:SlF f n ty v l c)(hS:Sep h lo (c++S))(hw:∀ b,lo b→W b=true)(hf:∀ x,(f x).length=n)(h1:∀ x,(f x).all XV.one=true)(hx:j6 h n x=some (l2.length,(l2.map f).flatten))(hF:ku bytes l l2=some l3)
  (K:∀ v' c' h',SlF f n ty v' l3 c'→Sep h' lo (c'++S)→Run E W (.draw hs r ld wr::k) Q (fr.put d v') h') : Put2D E W (qf4 W h ty n bytes v x) d hs r ld wr k Q fr:=by
 refine qwy (A:=fun v' h'=>∃ c',SlF f n ty v' l3 c'∧Sep h' lo (c'++S)) ?_ (fun v' h' ⟨c',a,s⟩=>K v' c' h' a s)
 exact yx H hS hw hf h1 hx hF (fun v' c' h' a s=>by rw [qa,qk,fr0]; exact ⟨c',a,s⟩)
end Go.Proofs.Ytddkoiapboeemaa.X
