/- Rows of owning elements: an open element taken out; a row that shares. -/
import Derived.Test.YtanblnjomhgphaaZSlW
import Derived.Test.YtanblnjomhgphaaZIns
open Int renaming toNat_natCast→a05
open Go.IntKind renaming wrap→r8
open List renaming append_assoc→t7,cons_append→a2g,flatten_append→a1r,flatten_cons→a0y,getElem?_append_left→a0a,getElem?_append_right→a0i,getElem?_drop→a1j,getElem?_eq_getElem→s8,getElem?_eq_some_iff→r9,getElem?_take_of_lt→a16,length_append→t9,length_drop→a04,length_eq_zero_iff→a3h,length_take→a0f,mem_append→a0w,mem_of_mem_drop→a2t,nil_append→a08,replicate→a0t,take_left→a2x
open Nat renaming add_mul→a2a,le_refl→a0d,min_eq_left→a1u,zero_le→a12
open Option renaming getD_none→a0v,getD_some→a0r,map_none→a02,map_some→a0q
open Go.Proofs.Ytanblnjomhgphaa.X.Sep renaming blk0→a3s
set_option linter.unusedVariables false
set_option linter.unusedSimpArgs false
namespace Go.Proofs.Ytanblnjomhgphaa.X
open Go

def RC (n:Nat) : Rep (List XV):=fun x cs os=>cs=x∧os=[]∧x.length=n∧x.all XV.one=true∧x.all XV.free1=true
theorem RC.len {n:Nat}{x cs:List XV}{os:List Obj}(h:RC n x cs os) : cs.length=n:=by rw [h.1]; exact h.2.2.1
theorem RC.one {n:Nat}{x cs:List XV}{os:List Obj}(h:RC n x cs os) : cs.all XV.one=true:=by rw [h.1]; exact h.2.2.2.1
section
variable {α:Type}{R:Rep α}{f:α→List XV}{n:Nat}{sz:TypeId→Nat}{l l2:List α}{css css2:List (List XV)}{oss oss2:List (List Obj)}{hs:List (Nat × List XV)}
theorem All3.rc (H:All3 R l css oss)(hl:∀ {x cs os},R x cs os→cs.length=n)(h1:∀ {x cs os},R x cs os→cs.all XV.one=true)(hf:∀ {x cs os},R x cs os→cs.all XV.free1=true) : All3 (RC n) css css (a0t css.length []):=by
 induction H with
 | nil=>exact .nil
 | cons h _ ih=>exact .cons ⟨rfl,rfl,hl h,h1 h,hf h⟩ ih
theorem qlc {m:Nat} : (a0t m ([] : List Obj)).flatten=[]:=by
 induction m with
 | zero=>rfl
 | succ m ih=>rw [List.replicate_succ,a0y,ih]; rfl
theorem AllG.parts {i:Nat}{cs:List XV}(H:AllG R n [(i,cs)] l css oss)(hi:i<l.length) : All3 R (l.take i) (css.take i) (oss.take i)∧All3 R (l.drop (i+1)) (css.drop (i+1)) (oss.drop (i+1))∧css[i]? = some cs∧oss[i]? = some []:=by
 have e1:css[i]? = some (css[i]'(by rw [H.len1]; exact hi)):=s8 _
 have e2:oss[i]? = some (oss[i]'(by rw [H.len2]; exact hi)):=s8 _
 have e0:l[i]? = some l[i]:=s8 _
 have h0:=H.at_ i _ _ _ e0 e1 e2
 unfold PH at h0
 rw [qml] at h0
 have l1:=H.len1
 have l2:=H.len2
 refine ⟨AllG.to3 ⟨by rw [a0f,a0f,l1],by rw [a0f,a0f,l2],fun c hc=>H.lens c (List.mem_of_mem_take hc),fun u x c o a1 a2 a3=>?_⟩,AllG.to3 ⟨by rw [a04,a04,l1],by rw [a04,a04,l2],fun c hc=>H.lens c (a2t hc),fun u x c o a1 a2 a3=>?_⟩,by rw [e1,h0.1],by rw [e2,h0.2]⟩
 ·have hu:u<i:=by have:=(r9.1 a1).1; rw [a0f] at this; omega
  rw [a16 hu] at a1 a2 a3
  have:=H.at_ u x c o a1 a2 a3
  unfold PH at this
  rwa [qgl (by omega),zt] at this
 ·rw [a1j] at a1 a2 a3
  have:=H.at_ _ x c o a1 a2 a3
  unfold PH at this
  rwa [qgl (by omega),zt] at this
end
section
variable {E:Env}{W:Nat→Bool}{k:List It}{Q:QE}{fr:Fr}{h:Heap}{lo:Nat→Prop}{n0:Nat}{S:List Obj}{d:Option Nat}{r:List XOper}{b:Nat}{ty:TypeId}{α:Type}{R:Rep α}{f:α→List XV}{l l2 l3:List α}{sz:TypeId→Nat}{n bytes:Nat}{v x:XV}{c c2:List Obj}{i:Nat}{cs:List XV}{os rest:List Obj}{e:α}
theorem qpb {β:Type}{l:List β}{i:Nat}{x:β}(h:l[i]? = some x) : l=l.take i++x::l.drop (i+1):=by
 obtain ⟨hi,e⟩:=r9.1 h
 rw [←e,← List.drop_eq_getElem_cons hi,List.take_append_drop]
theorem SlG.parts (H:SlG R n ty v l [(i,cs)] b c)(hi:i<l.length) : ∃ (cap:Nat) (junk:List XV) (css1 css3:List (List XV)) (oss1 oss3:List (List Obj)),v = .row b 0 l.length cap∧l.length≤cap∧junk.length=(cap - l.length)*n∧junk.all XV.free1=true∧All3 R (l.take i) css1 oss1∧All3 R (l.drop (i+1)) css3 oss3∧cs.length=n∧c.Perm (Blk1 b (css1.flatten++(cs++(css3.flatten++junk))) ty::(oss1.flatten++oss3.flatten)):=by
 obtain ⟨cap,junk,css,oss,rfl,h2,h3,h4,h5,h6⟩:=H
 obtain ⟨a,b',c1,c2⟩:=h5.parts hi
 refine ⟨cap,junk,_,_,_,_,rfl,h2,h3,h4,a,b',h5.lens cs (List.mem_of_getElem? c1),h6.trans ?_⟩
 have e1:css.flatten++junk=(css.take i).flatten++(cs++((css.drop (i+1)).flatten++junk)):=by
  conv=>lhs; rw [qpb c1]
  simp [t7]
 have e2:oss.flatten=(oss.take i).flatten++(oss.drop (i+1)).flatten:=by
  conv=>lhs; rw [qpb c2]
  simp
 rw [e1,e2]
theorem zdd {fid:Nat}{z:List XV}(hf:E.fns fid=some ⟨qke ty n bytes z,33,[.t 6]⟩)(hn:∀ {x cs os},R x cs os→cs.length=n)(h1:∀ {x cs os},R x cs os→cs.all XV.one=true)(hz:z.length=n)(hz1:z.all XV.one=true)(hzf:z.all XV.free1=true)(hW:∀ b,lo b→W b=true){I J:Int}(H:SlG R n ty v l [(I.toNat,cs)] b c)(hJ:J=r8 .i64 (I+1))(hd:qm9 l I J=some l2)(hS:Sep h lo (c++S)) :
  Ret E W fid [v,.int .i64 I,.int .i64 J] h (fun v' h'=>∃ rv rc,v'=rv∧SlN R n ty rv l2 rc∧Sep h' lo (rc++S)):=by
 obtain ⟨I',J',rfl,rfl,hij,hjl,rfl⟩:=qn0 hd
 have hJ':J'=I'+1:=by rw [IntKind.wrap_i64] at hJ; omega
 subst hJ'
 simp only [a05] at H
 obtain ⟨cap,junk,css1,css3,oss1,oss3,rfl,h2,h3,h4,a1,a3,hcs,hp⟩:=H.parts (by omega)
 have hS1:Sep h lo ((Blk1 b (css1.flatten++(cs++(css3.flatten++junk))) ty::(oss1.flatten++oss3.flatten))++S):=hS.cperm hp
 have hb:=a3s hS1
 have g1:=a1.flen hn
 have g3:=a3.flen hn
 rw [a0f] at g1
 rw [a04] at g3
 refine qqy hf hb (hW b (Sep.ge (S:=(oss1.flatten++oss3.flatten)++S) hS1)) hij hjl h2 (by rw [g1]; congr 1; omega) (by rw [hcs]; simp) (by rw [g3]) (a3.one h1) hz hz1 (fun cs1=>?_)
 have hS2:=Sep.set (Sep.set hS1 cs1) (css1.flatten++(css3.flatten++((a0t (I'+1 - I') z).flatten++junk)))
 have hlen:(l.take I'++l.drop (I'+1)).length=I'+(l.length - (I'+1)):=by simp; omega
 refine ⟨_,_,rfl,.inr ⟨b,cap,(a0t (I'+1 - I') z).flatten++junk,css1++css3,oss1++oss3,by rw [hlen],by omega,?_,qqw hzf h4,a1.app a3,List.Perm.refl _⟩,?_⟩
 ·rw [hlen,t9,h3]
  have:(a0t (I'+1 - I') z).flatten.length=(I'+1 - I')*n:=by simp [hz]
  rw [this,← a2a]
  congr 1
  omega
 ·rw [a1r,a1r,t7]
  exact hS2
def SlA (R:Rep α)(n:Nat)(ty:TypeId)(v:XV)(l:List α)(c:List Obj) : Prop :=
 (v = .nil∧l=[]∧c=[])∨∃ (b cap:Nat) (junk:List XV) (css:List (List XV)) (pool:List Obj),v = .row b 0 l.length cap∧css.length=l.length∧(∀ cs∈css,cs.length=n)∧(∀ (i:Nat) e cs,l[i]? = some e→css[i]? = some cs→∃ os rest,R e cs os∧pool.Perm (os++rest))∧c.Perm (Blk1 b (css.flatten++junk) ty::pool)
theorem SlN.toA (H:SlN R n ty v l c)(hl:∀ {x cs os},R x cs os→cs.length=n) : SlA R n ty v l c:=by
 rcases H with H | ⟨b,cap,junk,css,oss,rfl,h2,h3,h4,h5,h6⟩
 ·exact .inl H
 ·refine .inr ⟨b,cap,junk,css,oss.flatten,rfl,h5.len.1,h5.lens hl,fun i e cs he hc=>?_,h6⟩
  obtain ⟨c1,cs2,c3,o1,os,o3,rfl,rfl,g1,g2,g3⟩:=h5.at he
  have hi:i<l.length:=(r9.1 he).1
  have e1:c1.length=i:=by rw [g2.len.1,a0f]; omega
  rw [a0i (by omega),e1] at hc
  simp at hc
  subst hc
  exact ⟨os,o1.flatten++o3.flatten,g1,by rw [qbf]; exact kc⟩
theorem SlA.one (H:SlA R n ty v l c) : XV.one v=true:=by
 rcases H with ⟨rfl,_⟩ | ⟨b,cap,junk,css,pool,rfl,_⟩ <;> rfl
theorem SlA.snap (H:SlA R n ty v l c)(m:Nat)(hS:Sep h lo (c++S))(hsz:sz ty=n)(hR:RepOk sz R f n) : snap h sz (m+3) v=some (lst f l):=by
 rcases H with ⟨rfl,rfl,rfl⟩ | ⟨b,cap,junk,css,pool,rfl,h1,h2,h3,h6⟩
 ·rfl
 ·have hS1:Sep h lo ((Blk1 b (css.flatten++junk) ty::pool)++S):=hS.cperm h6
  have hb:z9 h b=some ⟨css.flatten++junk,ty,true⟩:=a3s hS1
  have hS2:Sep h lo (pool++S):=Sep.drop hS1
  simp only [X.snap,hb,hsz]
  rw [ub (f:=f) (l:=l) (fun i x hx=>?_)]
  ·rfl
  ·have hi:i<l.length:=(r9.1 hx).1
   have hc:css[i]? = some (css[i]'(by omega)):=s8 _
   generalize css[i]'_=cs at hc
   obtain ⟨os,rest,g1,g2⟩:=h3 i x cs hx hc
   rw [qjf hb h2 hc]
   exact hR.snap (lo:=lo) (S:=rest++S) m g1 (by have:=hS2.cperm g2; rwa [t7] at this)
theorem qvp {ty2:TypeId}{c2:List Obj}(H:SlG R n ty v l [(i,cs)] b c)(he:l[i]? = some e)(hr:R e cs os)(H2:SlN (RC n) n ty2 x [cs] c2)(hS:Sep h lo (c++(os++(c2++S))))(hw:∀ b,lo b→W b=true)(hl:∀ {x cs os},R x cs os→cs.length=n)(h1:∀ {x cs os},R x cs os→cs.all XV.one=true)(hfr:∀ {x cs os},R x cs os→cs.all XV.free1=true)(hF:ju bytes l [e]=some l3)
  (K:∀ v' c' h',SlA R n ty v' l3 c'→Sep h' lo (c'++S)→Run E W (.ops r::k) Q (fr.put d v') h') : Put2 E W (xd W h ty n bytes v x) d r k Q fr:=by
 have hi:=(r9.1 he).1
 obtain ⟨cap,junk,css1,css3,oss1,oss3,rfl,h2,h3,h4,a1,a3,hcs,hp⟩:=H.parts hi
 have hl3:l3=l++[e]:=by unfold ju at hF; split at hF <;> cases hF; rfl
 have hcc:(l.length:Nat)=(css1++cs::css3).length:=by
  rw [t9,List.length_cons,a1.len.1,a3.len.1,a0f,a04]
  omega
 have hcs3:All3 (RC n) (css1++cs::css3) (css1++cs::css3) (a0t css1.length []++[]::a0t css3.length []):=(a1.rc hl h1 hfr).app (.cons ⟨rfl,rfl,hcs,h1 hr,hfr hr⟩ (a3.rc hl h1 hfr))
 have HN:SlN (RC n) n ty (.row b 0 l.length cap) (css1++cs::css3) [Blk1 b ((css1++cs::css3).flatten++junk) ty]:=by
  refine .inr ⟨b,cap,junk,_,_,by rw [hcc],by rw [←hcc]; exact h2,by rw [←hcc]; exact h3,h4,hcs3,?_⟩
  simp [qlc]
 have hS1:Sep h lo ([Blk1 b ((css1++cs::css3).flatten++junk) ty]++(c2++(((oss1.flatten++oss3.flatten)++os)++S))):=by
  have:=hS.cperm hp
  refine this.perm ?_
  rw [qbf]
  simp only [t7,a2g,a08]
  refine List.Perm.cons _ ?_
  refine (List.Perm.append_left oss1.flatten (List.Perm.append_left oss3.flatten kc)).trans ?_
  refine (List.Perm.append_left oss1.flatten kc).trans ?_
  exact kc
 refine qa8 (bytes:=bytes) (l3:=(css1++cs::css3)++[cs]) HN H2 hS1 hw RC.len RC.one ?_ (fun v' c' h' hv' hS'=>?_)
 ·unfold ju at hF ⊢
  rw [←hcc]
  split at hF
  ·rename_i q; rw [if_pos (by simpa using q)]
  ·cases hF
 ·rw [hl3] at K
  rcases hv' with ⟨_,q,_⟩ | ⟨b',cap',junk',css',oss',rfl,g2,g3,g4,g5,g6⟩
  ·simp at q
  have hcss':css'=(css1++cs::css3)++[cs]∧oss'.flatten=[]:=by
   have key:∀ {l:List (List XV)} {css oss},All3 (RC n) l css oss→css=l∧oss.flatten=[]:=by
    intro l css oss H
    induction H with
    | nil=>exact ⟨rfl,rfl⟩
    | cons h _ ih=>exact ⟨by rw [h.1,ih.1],by rw [a0y,h.2.1,ih.2]; rfl⟩
   exact key g5
  rw [hcss'.1,hcss'.2] at g6
  have hlen:(l++[e]).length=((css1++cs::css3)++[cs]).length:=by rw [t9,t9,hcc]; rfl
  refine K _ (c'++((oss1.flatten++oss3.flatten)++os)) h' (.inr ⟨b',cap',junk',(css1++cs::css3)++[cs],(oss1.flatten++oss3.flatten)++os,by rw [hlen],hlen.symm,fun q hq=>?_,fun u y q hy hq=>?_,?_⟩) (by rw [t7]; exact hS')
  ·rcases a0w.1 hq with hq | hq
   ·rcases a0w.1 hq with hq | hq
    ·exact a1.lens hl q hq
    ·rcases List.mem_cons.1 hq with rfl | hq
     ·exact hcs
     ·exact a3.lens hl q hq
   ·simp at hq; rw [hq]; exact hcs
  ·have hos:((oss1.flatten++oss3.flatten)++os).Perm (os++(oss1.flatten++oss3.flatten)):=List.perm_append_comm
   have c1l:css1.length=i:=by rw [a1.len.1,a0f]; omega
   by_cases u1:u<l.length
   ·rw [a0a u1] at hy
    rw [a0a (by rw [←hcc]; exact u1)] at hq
    by_cases u2:u<i
    ·rw [a0a (by omega)] at hq
     obtain ⟨p1,p2,p3,o1,o2,o3,rfl,rfl,q1,q2,q3⟩:=a1.at (i:=u) (x:=y) (by rw [a16 u2]; exact hy)
     have e1:p1.length=u:=by rw [q2.len.1,a0f,a0f]; omega
     rw [a0i (by omega),e1] at hq
     simp at hq
     subst hq
     refine ⟨o2,o1.flatten++o3.flatten++(oss3.flatten++os),q1,?_⟩
     rw [qbf]
     simp only [t7]
     exact kc
    ·by_cases u3:u=i
     ·subst u3
      rw [a0i (by omega),c1l] at hq
      simp at hq
      subst hq
      rw [he] at hy
      cases hy
      exact ⟨os,_,hr,hos⟩
     ·have hu:u - css1.length=(u - i - 1)+1:=by omega
      rw [a0i (by omega),hu,List.getElem?_cons_succ] at hq
      obtain ⟨p1,p2,p3,o1,o2,o3,rfl,rfl,q1,q2,q3⟩:=a3.at (i:=u - i - 1) (x:=y) (by rw [a1j,show i+1+(u - i - 1)=u by omega]; exact hy)
      have e1:p1.length=u - i - 1:=by rw [q2.len.1,a0f,a04]; omega
      rw [a0i (by omega),e1] at hq
      simp at hq
      subst hq
      refine ⟨o2,oss1.flatten++(o1.flatten++(o3.flatten++os)),q1,?_⟩
      rw [qbf]
      simp only [t7]
      refine (List.Perm.append_left oss1.flatten kc).trans ?_
      exact kc
   ·rw [a0i (by omega)] at hy
    have h0:u - l.length=0:=by
     have:=(r9.1 hy).1
     simp at this
     omega
    rw [h0] at hy
    simp at hy
    subst hy
    rw [a0i (by omega),← hcc,h0] at hq
    simp at hq
    subst hq
    exact ⟨os,_,hr,hos⟩
  ·refine (g6.append_right _).trans ?_
   simp
theorem zah {n:Int}(h0 : -9223372036854775808≤n)(h1:n≤9223372036854775807) : r8 .i64 n=n:=IntWalk.i64_in _ (by omega)
theorem qpc {z:List XV}{ps:List (Nat × Nat × XV)}(hS:Sep h lo S)(e1:fill z ps=some cs)(hl:cs.length=n)(h1:cs.all XV.one=true)(hf:cs.all XV.free1=true)(K:∀ v c h',SlN (RC n) n ty v [cs] c→Sep h' lo (c++S)→Run E W (.ops r::k) Q (fr.put d v) h') : Put2 E W (xe h ty 1 z ps) d r k Q fr :=
 qgf hS e1 (fun b h' hS'=>K _ [Blk1 b cs ty] h' (.inr ⟨b,1,[],[cs],[[]],rfl,a0d _,by simp,rfl,.cons ⟨rfl,rfl,hl,h1,hf⟩ .nil,by simp⟩) hS')
theorem qnu {css2:List (List XV)}{oss2:List (List Obj)}(H:SlN R n ty v l c)(hx:yd h n x=some (l2.length,css2.flatten))(a2:All3 R l2 css2 oss2)(hS:Sep h lo (c++(oss2.flatten++S)))(hw:∀ b,lo b→W b=true)(hl:∀ {x cs os},R x cs os→cs.length=n)(h1:∀ {x cs os},R x cs os→cs.all XV.one=true)(hF:ju bytes l l2=some l3)
  (K:∀ v' c' h',SlN R n ty v' l3 c'→Sep h' lo (c'++S)→Run E W (.ops r::k) Q (fr.put d v') h') : Put2 E W (xd W h ty n bytes v x) d r k Q fr:=by
 unfold ju at hF
 split at hF
 case isFalse=>cases hF
 rename_i hs
 cases hF
 have hlen2:=a2.flen hl
 rcases H with ⟨rfl,rfl,rfl⟩ | ⟨b,cap,junk,css,oss,rfl,g2,g3,g4,g5,g6⟩
 ·have hS2:Sep h lo (oss2.flatten++S):=hS
  have e:xd W h ty n bytes .nil x=if l2.length=0 then some (.nil,h) else if l2.length*bytes≤70368744177664 then some (.row h.length 0 l2.length l2.length,h++[⟨css2.flatten,ty,true⟩]) else none:=by
   unfold xd
   simp only [ze,XO.ev,hx]
  rw [e]
  by_cases h0:l2.length=0
  ·have hl:l2=[]:=a3h.1 h0
   subst hl
   rw [if_pos h0]
   exact K .nil [] h SlN.nil hS2.dc
  ·rw [if_neg h0,if_pos (by simpa using hs)]
   refine K _ ([Blk1 h.length css2.flatten ty]++oss2.flatten) _ (.inr ⟨h.length,l2.length,[],css2,oss2,by simp,by simp,by simp,rfl,by simpa using a2,by simp⟩) ?_
   rw [t7]
   exact Sep.new hS2 _ ty
 ·have hS1:Sep h lo ([Blk1 b (css.flatten++junk) ty]++((oss.flatten++oss2.flatten)++S)):=by
   have h3:=hS.cperm g6
   refine h3.perm ?_
   simp
  have hb:=Sep.bk _ _ _ hS1
  have hwb:=hw b (Sep.ge hS1)
  have hlen:=g5.flen hl
  unfold xd
  simp only [ze,XO.ev,hx]
  by_cases hle:l.length+l2.length≤cap
  ·rw [if_pos hle]
   have hmul:l2.length*n≤(cap - l.length)*n:=Nat.mul_le_mul_right n (by omega)
   have e:jv (css.flatten++junk) (0+l.length*n) css2.flatten=(css++css2).flatten++junk.drop (l2.length*n):=by
    unfold jv
    rw [Nat.zero_add,← hlen,a2x,List.drop_append,List.drop_of_length_le (by omega),a08,a1r,t7,t7]
    congr 3
    rw [hlen2]
    omega
   rw [qkc hwb hb (by rw [t9,hlen,hlen2,g3]; omega) (a2.one h1),e]
   refine K _ ([Blk1 b ((css++css2).flatten++junk.drop (l2.length*n)) ty]++(oss.flatten++oss2.flatten)) _ (.inr ⟨b,cap,junk.drop (l2.length*n),css++css2,oss++oss2,?_,?_,?_,?_,g5.app a2,by simp⟩) ?_
   ·rw [t9]
   ·rw [t9]; exact hle
   ·rw [a04,g3,t9,Nat.sub_add_eq,Nat.sub_mul (cap - l.length)]
   ·rw [List.all_eq_true] at g4 ⊢
    exact fun x hx=>g4 x (a2t hx)
   ·rw [t7]
    exact Sep.set hS1 _
  ·rw [if_neg hle,hb,qhd hb hlen.symm]
   dsimp only
   rw [if_pos ⟨hwb,rfl,hs,a2.one h1⟩]
   have hh:=(Sep.kill hS1).new (css.flatten++css2.flatten) ty
   rw [ye] at hh
   refine K _ ([Blk1 h.length (css.flatten++css2.flatten) ty]++(oss.flatten++oss2.flatten)) _ (.inr ⟨h.length,l.length+l2.length,[],css++css2,oss++oss2,?_,?_,?_,rfl,g5.app a2,?_⟩) ?_
   ·rw [t9]
   ·rw [t9]; exact a0d _
   ·rw [t9]; simp
   ·simp
   ·rw [t7]; exact hh
def WP (n:Nat)(v w:XV)(I m:Nat) : Prop:=∃ b len cap cap',v = .row b 0 len cap∧w = .row b (I*n) m cap'
theorem SlG.win {hs:List (Nat × List XV)}(lo' hi':Option Int)(H:SlG R n ty v l hs b c)(hs':sl l (lo'.getD 0) (hi'.getD (l.length:Int))=some l2)(hS:Sep h lo (c++S)) : ∃ w,w9 h ty n v (lo'.map (.int .i64)) (hi'.map (.int .i64)) none=some w∧WP n v w (lo'.getD 0).toNat ((hi'.getD (l.length:Int)).toNat - (lo'.getD 0).toNat):=by
 obtain ⟨c1,c2,c3,rfl⟩:=qd4 hs'
 obtain ⟨cap,junk,css,oss,rfl,hcp,hj,hjf,h5,h6⟩:=H
 have hb:z9 h b=some ⟨css.flatten++junk,ty,true⟩:=a3s (hS.cperm h6)
 have hblk:(h[b]?).map Blk.ty=some ty:=by
  unfold z9 at hb
  split at hb
  ·rename_i kb hk
   rw [hk]
   split at hb
   ·cases hb; rfl
   ·cases hb
  ·cases hb
 refine ⟨.row b ((lo'.getD 0).toNat*n) ((hi'.getD (l.length:Int)).toNat - (lo'.getD 0).toNat) (cap - (lo'.getD 0).toNat),?_,b,l.length,cap,_,rfl,rfl⟩
 cases lo' with
 | none =>
  cases hi' with
  | none =>
   simp only [a0v,a02] at *
   unfold w9 yc
   simp only [yy,a0v]
   rw [if_pos ⟨a12 _,hcp,a0d _,(fun h=>by cases h),hblk⟩]
   simp
  | some e =>
   simp only [a0v,a0r,a02,a0q] at *
   unfold w9 yc
   simp only [show (0:Int)≤e by omega,if_true,yy,a0v,a0r]
   rw [if_pos ⟨a12 _,by omega,a0d _,(fun h=>by cases h),hblk⟩]
   simp
 | some a =>
  cases hi' with
  | none =>
   simp only [a0v,a0r,a02,a0q] at *
   unfold w9 yc
   simp only [c1,if_true,yy,a0v,a0r]
   rw [if_pos ⟨by omega,hcp,a0d _,(fun h=>by cases h),hblk⟩]
   simp
  | some e =>
   simp only [a0r,a0q] at *
   unfold w9 yc
   simp only [c1,show (0:Int)≤e by omega,if_true,yy,a0v,a0r]
   rw [if_pos ⟨by omega,by omega,a0d _,(fun h=>by cases h),hblk⟩]
   simp
def Er1 (R:Rep α)(n:Nat)(ty:TypeId)(v:XV)(l:List α)(i:Nat)(cs:List XV)(b:Nat)(c:List Obj)(v1:XV)(c1:List Obj) : Prop :=
 ∃ (cap:Nat) (junk:List XV) (css1 css3:List (List XV)) (oss1 oss3:List (List Obj)),v = .row b 0 l.length cap∧All3 R (l.take i) css1 oss1∧All3 R (l.drop (i+1)) css3 oss3∧cs.length=n∧i<l.length∧c.Perm (Blk1 b (css1.flatten++(cs++(css3.flatten++junk))) ty::(oss1.flatten++oss3.flatten))∧SlN (RC n) n ty v1 css1 c1
theorem RC.all {l:List (List XV)}{css:List (List XV)}{oss:List (List Obj)}(H:All3 (RC n) l css oss) : css=l∧oss.flatten=[]:=by
 induction H with
 | nil=>exact ⟨rfl,rfl⟩
 | cons h _ ih=>exact ⟨by rw [h.1,ih.1],by rw [a0y,h.2.1,ih.2]; rfl⟩
theorem q1n {v0 w:XV}{c0:List Obj}{K0:Int}{e:α}{l1:List α}(H0:SlN R n ty v0 [] c0)(H:SlG R n ty v l [(K0.toNat,cs)] b c)(hg:zy l K0=some e)(hs:sl l 0 K0=some l1)(hW':WP n v w 0 (K0.toNat - 0))(hS:Sep h lo (c0++(c++S)))(hw:∀ b,lo b→W b=true)(hl:∀ {x cs os},R x cs os→cs.length=n)(h1:∀ {x cs os},R x cs os→cs.all XV.one=true)(hfr:∀ {x cs os},R x cs os→cs.all XV.free1=true)(hF:ju bytes ([] : List α) l1=some l2)
  (K:∀ v' c' h',Er1 R n ty v l K0.toNat cs b c v' c'→Sep h' lo (c'++(c++S))→Run E W (.ops r::k) Q (fr.put d v') h') : Put2 E W (xd W h ty n bytes v0 w) d r k Q fr:=by
 obtain ⟨g0,g1,g2⟩:=yn hg
 have hi:K0.toNat<l.length:=(r9.1 g2).1
 obtain ⟨_,_,s3,rfl⟩:=qd4 hs
 obtain ⟨cap,junk,css1,css3,oss1,oss3,rfl,h2,h3,h4,a1,a3,hcs,hp⟩:=H.parts hi
 have hb:z9 h b=some ⟨css1.flatten++(cs++(css3.flatten++junk)),ty,true⟩:=a3s (hS.dc.cperm hp)
 have hln:=a1.flen hl
 have hlt:(l.take K0.toNat).length=K0.toNat:=by rw [a0f]; omega
 have hc1:css1.length=K0.toNat:=by rw [a1.len.1,hlt]
 rw [hlt] at hln
 have hfo:yd h n w=some (css1.length,css1.flatten):=by
  obtain ⟨b',len',cap',cap2,e1,rfl⟩:=hW'
  cases e1
  unfold yd
  dsimp only
  rw [Nat.zero_mul,Nat.sub_zero,qhd hb hln.symm,hc1]
 have H0':SlN (RC n) n ty v0 ([] : List (List XV)) c0:=by
  rcases H0 with ⟨e1,_,e2⟩ | ⟨b0,cap0,junk0,css0,oss0,e1,q2,q3,q4,q5,q6⟩
  ·exact .inl ⟨e1,rfl,e2⟩
  ·cases q5
   exact .inr ⟨b0,cap0,junk0,[],[],e1,q2,q3,q4,.nil,q6⟩
 refine qnu (bytes:=bytes) (l3:=[]++css1) H0' hfo (a1.rc hl h1 hfr) (by rw [qlc]; exact hS) hw RC.len RC.one ?_ (fun v' c' h' hv' hS'=>K v' c' h' ⟨cap,junk,css1,css3,oss1,oss3,rfl,a1,a3,hcs,hi,hp,hv'⟩ hS')
 unfold ju at hF ⊢
 split at hF
 ·rename_i q
  rw [if_pos (by simp at q ⊢; rw [hc1]; rw [a1u (by omega)] at q; exact q)]
 ·cases hF
theorem q1z (hby:0<bytes){v1 w:XV}{c1:List Obj}{K0:Int}{e:α}{l1 l4 l5:List α}(H:Er1 R n ty v l K0.toNat cs b c v1 c1)(hg:zy l K0=some e)(hs1:sl l 0 K0=some l1)(hF1:ju bytes ([] : List α) l1=some l4)(hs:sl l (r8 .i64 (K0+1)) (l.length:Int)=some l2)(hW':WP n v w (r8 .i64 (K0+1)).toNat ((l.length:Int).toNat - (r8 .i64 (K0+1)).toNat))(hS:Sep h lo (c1++(c++S)))(hw:∀ b,lo b→W b=true)(hl:∀ {x cs os},R x cs os→cs.length=n)(h1:∀ {x cs os},R x cs os→cs.all XV.one=true)(hfr:∀ {x cs os},R x cs os→cs.all XV.free1=true)(hF:ju bytes l4 l2=some l5)
  (K:∀ v' c' h',SlN R n ty v' l5 c'→Sep h' lo (c'++S)→Run E W (.ops r::k) Q (fr.put d v') h') : Put2 E W (xd W h ty n bytes v1 w) d r k Q fr:=by
 obtain ⟨g0,g1,g2⟩:=yn hg
 obtain ⟨s1,s2,s3,rfl⟩:=qd4 hs
 obtain ⟨_,_,_,rfl⟩:=qd4 hs1
 obtain ⟨cap,junk,css1,css3,oss1,oss3,rfl,a1,a3,hcs,hi,hp,HN⟩:=H
 have hJ:(r8 .i64 (K0+1)).toNat=K0.toNat+1:=by
  unfold ju at hF1
  split at hF1
  case isFalse=>cases hF1
  rename_i q
  have q2:(l.take K0.toNat).length*1≤(l.take K0.toNat).length*bytes:=Nat.mul_le_mul_left _ hby
  simp at q q2
  have:K0.toNat≤70368744177664:=by
   rw [a1u (by omega)] at q q2
   have:=Nat.le_mul_of_pos_right K0.toNat hby
   omega
  rw [zah (by omega) (by omega)]
  omega
 have el4:l4=l.take K0.toNat:=by unfold ju at hF1; split at hF1 <;> cases hF1; rfl
 have hb:z9 h b=some ⟨css1.flatten++(cs++(css3.flatten++junk)),ty,true⟩:=a3s (hS.dc.cperm hp)
 have hln:=a1.flen hl
 have hln3:=a3.flen hl
 rw [a0f] at hln
 rw [a04] at hln3
 have hc3:css3.length=l.length - (K0.toNat+1):=by rw [a3.len.1,a04]
 have hc1:css1.length=K0.toNat:=by rw [a1.len.1,a0f]; omega
 have el5:l5=l.take K0.toNat++l.drop (K0.toNat+1):=by
  unfold ju at hF
  split at hF <;> cases hF
  rw [el4,hJ,a05,List.take_length]
 have hfo:yd h n w=some (css3.length,css3.flatten):=by
  obtain ⟨b',len',cap',cap2,e1,rfl⟩:=hW'
  cases e1
  unfold yd
  dsimp only
  rw [a05,hJ,qf2 hb]
  have e2:((K0.toNat+1)*n)=(css1.flatten++cs).length:=by rw [t9,hln,hcs,a2a,a1u (by omega)]; omega
  rw [if_pos (by simp only [t9]; rw [hln,hcs,hln3,a1u (by omega),← a2a]; rw [a2a,a2a]; omega),e2,← t7,List.drop_left,← hln3,a2x,hc3]
 refine qnu (bytes:=bytes) (l3:=css1++css3) HN hfo (a3.rc hl h1 hfr) (by rw [qlc]; exact hS) hw RC.len RC.one ?_ (fun v' c' h' hv' hS'=>?_)
 ·unfold ju at hF ⊢
  rw [el4,hJ,a05,List.take_length] at hF
  split at hF
  ·rename_i q
   rw [if_pos (by simp only [a0f,a04] at q; rw [hc1,hc3]; rwa [a1u (by omega)] at q)]
  ·cases hF
 ·rw [el5] at K
  have hlen:(l.take K0.toNat++l.drop (K0.toNat+1)).length=(css1++css3).length:=by simp only [t9,a0f,a04]; rw [hc1,hc3]; omega
  rcases hv' with ⟨e1,q,e3⟩ | ⟨b',cap',junk',css',oss',rfl,g2,g3,g4,g5,g6⟩
  ·refine K _ [] h' (.inl ⟨e1,a3h.1 (by rw [hlen,q]; rfl),rfl⟩) ?_
   exact hS'.dc.dc
  ·obtain ⟨r1,r2⟩:=RC.all g5
   rw [r1,r2] at g6
   refine K _ (c'++(oss1.flatten++oss3.flatten)) h' (.inr ⟨b',cap',junk',css1++css3,oss1++oss3,by rw [hlen],by rw [hlen]; exact g2,by rw [hlen]; exact g3,g4,a1.app a3,?_⟩) ?_
   ·refine (g6.append_right _).trans ?_
    simp
   ·have hS2:Sep h' lo (c++(c'++S)):=hS'.m1
    have hS3:=hS2.cperm hp
    rw [a2g] at hS3
    have hS4:Sep h' lo ([Blk1 b (css1.flatten++(cs++(css3.flatten++junk))) ty]++((oss1.flatten++oss3.flatten)++(c'++S))):=hS3
    have:=hS4.dc.m1
    rw [t7]
    exact this
theorem qs1 {hst:Nat}{ld wr:List Nat}{v0 w:XV}{c0:List Obj}{K0:Int}{e:α}{l1:List α}(H0:SlN R n ty v0 [] c0)(H:SlG R n ty v l [(K0.toNat,cs)] b c)(hg:zy l K0=some e)(hs:sl l 0 K0=some l1)(hW':WP n v w 0 (K0.toNat - 0))(hS:Sep h lo (c0++(c++S)))(hw:∀ b,lo b→W b=true)(hl:∀ {x cs os},R x cs os→cs.length=n)(h1:∀ {x cs os},R x cs os→cs.all XV.one=true)(hfr:∀ {x cs os},R x cs os→cs.all XV.free1=true)(hF:ju bytes ([] : List α) l1=some l2)
  (K:∀ v' c' h',Er1 R n ty v l K0.toNat cs b c v' c'→Sep h' lo (c'++(c++S))→Run E W (.draw hst r ld wr::k) Q (fr.put d v') h') : Put2D E W (xd W h ty n bytes v0 w) d hst r ld wr k Q fr:=by
 refine qa0 (A:=fun v' h'=>∃ c',Er1 R n ty v l K0.toNat cs b c v' c'∧Sep h' lo (c'++(c++S))) ?_ (fun v' h' ⟨c',a,s⟩=>K v' c' h' a s)
 exact q1n H0 H hg hs hW' hS hw hl h1 hfr hF (fun v' c' h' a s=>by rw [qa,qm,fr0]; exact ⟨c',a,s⟩)
theorem qwl (hby:0<bytes){hst:Nat}{ld wr:List Nat}{v1 w:XV}{c1:List Obj}{K0:Int}{e:α}{l1 l4 l5:List α}(H:Er1 R n ty v l K0.toNat cs b c v1 c1)(hg:zy l K0=some e)(hs1:sl l 0 K0=some l1)(hF1:ju bytes ([] : List α) l1=some l4)(hs:sl l (r8 .i64 (K0+1)) (l.length:Int)=some l2)(hW':WP n v w (r8 .i64 (K0+1)).toNat ((l.length:Int).toNat - (r8 .i64 (K0+1)).toNat))(hS:Sep h lo (c1++(c++S)))(hw:∀ b,lo b→W b=true)(hl:∀ {x cs os},R x cs os→cs.length=n)(h1:∀ {x cs os},R x cs os→cs.all XV.one=true)(hfr:∀ {x cs os},R x cs os→cs.all XV.free1=true)(hF:ju bytes l4 l2=some l5)
  (K:∀ v' c' h',SlN R n ty v' l5 c'→Sep h' lo (c'++S)→Run E W (.draw hst r ld wr::k) Q (fr.put d v') h') : Put2D E W (xd W h ty n bytes v1 w) d hst r ld wr k Q fr:=by
 refine qa0 (A:=fun v' h'=>∃ c',SlN R n ty v' l5 c'∧Sep h' lo (c'++S)) ?_ (fun v' h' ⟨c',a,s⟩=>K v' c' h' a s)
 exact q1z hby H hg hs1 hF1 hs hW' hS hw hl h1 hfr hF (fun v' c' h' a s=>by rw [qa,qm,fr0]; exact ⟨c',a,s⟩)
end
end Go.Proofs.Ytanblnjomhgphaa.X
