/- Parts of owned slices, to be read. -/
import Derived.Test.YtjloihcijdcpeaaZSlG
set_option linter.unusedVariables false
set_option linter.unusedSimpArgs false
namespace Go.Proofs.Ytjloihcijdcpeaa.X
open Go
section
variable {E:Env}{W:Nat→Bool}{k:List It}{Q:QE}{fr:Fr}{h:Heap}{lo:Nat→Prop}{n0:Nat}{S:List Obj}{d:Option Nat}{r:List XOper}{b:Nat}{ty:TypeId}{α:Type}{f:α→List XV}{l l2 l3:List α}{sz:TypeId→Nat}{n bytes:Nat}{v w x:XV}{c c2:List Obj}{I:Nat}

def SlW {α:Type}(n:Nat)(v:XV)(l:List α)(w:XV)(I:Nat)(l2:List α) : Prop:=∃ j,I≤j∧j≤l.length∧l2=(l.take j).drop I∧((v = .nil∧w = .nil)∨∃ b len cap,v = .row b 0 len cap∧w = .row b (I*n) (j - I) (cap - I))
theorem qw4 (hf:∀ x,(f x).length=n){i:Nat}(hi:i≤l.length) : (l.map f).flatten.drop (i*n)=((l.drop i).map f).flatten:=by
 have e:(l.map f).flatten=((l.take i).map f).flatten++((l.drop i).map f).flatten:=qne hf hi
 have h1:(((l.take i).map f).flatten).length=i*n:=by rw [qb5 hf,List.length_take]; congr 1; omega
 rw [e,← h1,List.drop_left]
theorem qf2 {j:Nat}(h1:I≤j)(h2:j≤l.length) : ((l.take j).drop I).length=j - I:=by simp; omega
theorem SlW.plen (hW:SlW n v l w I l2)(H:SlF f n ty v l c) : qge w=some (.int .i64 (List.length l2:Int)):=by
 obtain ⟨j,h1,h2,rfl,⟨rfl,rfl⟩ | ⟨b,len,cap,rfl,rfl⟩⟩:=hW
 ·rcases H with ⟨_,rfl,_⟩ | ⟨b',cap',junk,hv,_⟩
  ·simp; rfl
  ·cases hv
 ·rw [qf2 h1 h2]
  rfl
theorem SlW.first (hW:SlW n v l w I l2)(H:SlF f n ty v l c)(hS:Sep h lo (c++S))(hf:∀ x,(f x).length=n) : k9 h n w=some (l2.length,(l2.map f).flatten):=by
 obtain ⟨j,h1,h2,rfl,hw⟩:=hW
 rcases H with ⟨rfl,rfl,rfl⟩ | ⟨b,cap,junk,rfl,hc,hj,rfl,hjf⟩
 ·rcases hw with ⟨_,rfl⟩ | ⟨b,len,cap,h,_⟩
  ·simp; rfl
  ·cases h
 ·rcases hw with ⟨h0,_⟩ | ⟨b',len',cap',hv,rfl⟩
  ·cases h0
  ·cases hv
   have hb:=Sep.bk _ _ _ hS
   have hl:=qb5 (l:=l) hf
   have hm:I*n+(j - I)*n=j*n:=by rw [←Nat.add_mul]; congr 1; omega
   have hm2:j*n≤l.length*n:=Nat.mul_le_mul_right n h2
   unfold k9
   dsimp only
   rw [qg9 hb,if_pos (by rw [List.length_append,hl]; omega),qf2 h1 h2]
   have e1:((l.map f).flatten++junk).drop (I*n)=((l.drop I).map f).flatten++junk:=by
    rw [List.drop_append_of_le_length (by rw [hl]; omega),qw4 hf (by omega)]
   have e2:(((l.drop I).map f).flatten++junk).take ((j - I)*n)=(((l.drop I).take (j - I)).map f).flatten:=by
    have h3:(j - I)*n≤(((l.drop I).map f).flatten).length:=by
     rw [qb5 hf,List.length_drop]; exact Nat.mul_le_mul_right n (by omega)
    rw [List.take_append_of_le_length h3,qnw hf (by rw [List.length_drop]; omega)]
   rw [e1,e2,List.drop_take]
theorem SlW.get (hW:SlW n v l w I l2){i:Int}{x:α}(hg:z9 l2 i=some x) : z9 l ((I:Int)+i)=some x:=by
 obtain ⟨j,h1,h2,rfl,hw⟩:=hW
 obtain ⟨g0,g1,g2⟩:=yp hg
 rw [qf2 h1 h2] at g1
 unfold z9
 rw [if_pos (by omega)]
 rw [List.getElem?_drop,List.getElem?_take_of_lt (by omega)] at g2
 rw [←g2]
 congr 1
 omega
theorem SlW.ia (hW:SlW n v l w I l2)(H:SlF f n ty v l c)(hb:SlB v b){kk:IntKind}{i:Int}{x:α}(hg:z9 l2 i=some x) : xia n w (.int kk i)=some (.ptr b (((I:Int)+i).toNat*n)):=by
 obtain ⟨j,h1,h2,rfl,hw⟩:=hW
 obtain ⟨g0,g1,g2⟩:=yp hg
 rw [qf2 h1 h2] at g1
 obtain ⟨len,cap,rfl⟩:=hb
 rcases hw with ⟨h0,_⟩ | ⟨b',len',cap',hv,rfl⟩
 ·cases h0
 ·cases hv
  have e:xia n (.row b (I*n) (j - I) (cap - I)) (.int kk i)=if 0≤i∧i<(j - I:Nat) then some (.ptr b (I*n+i.toNat*n)) else none:=rfl
  rw [e,if_pos ⟨g0,g1⟩,← Nat.add_mul,show I+i.toNat=((I:Int)+i).toNat by omega]
theorem SlW.snap {m:Nat}(hW:SlW n v l w I l2)(H:SlF f n ty v l c)(hS:Sep h lo (c++S))(hsz:sz ty=n)(hf:∀ x,(f x).length=n)(hc:∀ x,(f x).mapM (snap h sz m)=some (f x)) : snap h sz (m+1) w=some (lst f l2):=by
 have hfst:=hW.first H hS hf
 obtain ⟨j,h1,h2,rfl,hw⟩:=hW
 rcases H with ⟨rfl,rfl,rfl⟩ | ⟨b,cap,junk,rfl,hcp,hj,rfl,hjf⟩
 ·rcases hw with ⟨_,rfl⟩ | ⟨b,len,cap,h,_⟩
  ·simp; rfl
  ·cases h
 ·rcases hw with ⟨h0,_⟩ | ⟨b',len',cap',hv,rfl⟩
  ·cases h0
  ·cases hv
   have hb:=Sep.bk _ _ _ hS
   simp only [X.snap,hb]
   rw [show j - I=((l.take j).drop I).length from (qf2 h1 h2).symm]
   rw [qba (f:=f) (l:=(l.take j).drop I) (fun i x hx=>?_)]
   ·rfl
   ·have hl:l[I+i]? = some x:=by
     have hi:i<j - I:=by have:=(List.getElem?_eq_some_iff.1 hx).1; rwa [qf2 h1 h2] at this
     rw [List.getElem?_drop,List.getElem?_take_of_lt (by omega)] at hx
     exact hx
    have:=qn5 hb hsz hf hl
    rw [hsz] at this ⊢
    rw [Nat.zero_add,Nat.add_mul] at this
    rw [this]
    exact hc x
theorem q8x:yd [b] []=true:=by simp [yd]
theorem Sep.bne {b':Nat}{cs cs':List XV}{ty':TypeId}(H:Sep h lo ([Blk1 b cs ty]++([Blk1 b' cs' ty']++S))) : b≠b':=by
 have:=H.nodup
 simp [Blk1] at this
 exact this.1.1
theorem q8c {kk:IntKind}{a b:Int} : qkg true [.int kk a,.int kk b]=some (.int kk (mxI a b)):=q73
theorem qfi:yd (w9 v) []=true:=by simp [yd]
theorem qik {b':Nat}{ld:List Nat}(hne:∀ x∈w9 v,x≠b')(ht:yd (w9 v) ld=true) : yd (w9 v) (b'::ld)=true:=by
 simp only [yd,List.all_eq_true,Bool.not_eq_true',List.contains_eq_mem,decide_eq_false_iff_not,List.mem_cons,not_or] at ht ⊢
 exact fun x hx=>⟨hne x hx,ht x hx⟩
theorem SlF.rowfp (H:SlF f n ty v l c) : ∀ x∈w9 v,x∈c.flatMap Obj.fp:=by
 rcases H with ⟨rfl,rfl,rfl⟩ | ⟨b,cap,junk,rfl,hc,hj,rfl,hjf⟩
 ·intro x hx; simp [w9] at hx
 ·intro x hx; simpa [w9,Blk1] using hx
theorem SlN.rowfp {R:Rep α}(H:SlN R n ty v l c) : ∀ x∈w9 v,x∈c.flatMap Obj.fp:=by
 rcases H with ⟨rfl,rfl,rfl⟩ | ⟨b,cap,junk,css,oss,rfl,h2,h3,h4,h5,h6⟩
 ·intro x hx; simp [w9] at hx
 ·intro x hx
  have:x=b:=by simpa [w9] using hx
  subst this
  exact ((h6.flatMap_right Obj.fp).mem_iff).2 (by simp [Blk1])
theorem qbn {cs:List XV} : b∈([Blk1 b cs ty] : List Obj).flatMap Obj.fp:=by simp [Blk1]
theorem Sep.dj {b':Nat}(H:Sep h lo (c++(c2++S)))(h2:b'∈c2.flatMap Obj.fp){z:Nat}(h1:z∈c.flatMap Obj.fp) : z≠b':=by
 have:=H.nodup
 rw [List.flatMap_append,List.nodup_append] at this
 exact this.2.2 z h1 b' (by rw [List.flatMap_append,List.mem_append]; exact .inl h2)
theorem qdy {hst:Nat}{ld wr:List Nat}{ty esz bytes:Nat}{x y:XO} : Run E W (.draw hst (⟨d,.app ty esz bytes x y,none,2⟩::r) ld wr::k) Q fr h=QuietD E W (fun W'=>qbt W' h ty esz bytes (x.ev fr) (y.ev fr)) (w9 (x.ev fr)) d hst r ld wr k Q fr:=by
 have e1:∀ W',qbt W' h ty esz bytes (x.ev fr) (y.ev fr)=za W' (XO.ev fr) h (.app ty esz bytes x y):=fun _=>rfl
 simp only [Run,kw,WD,OpD,Put2D,QuietD,ya,e1]
 rw [if_neg (by decide),if_neg (by decide),if_pos trivial]
 simp only [OpW]
 congr 1
theorem qgt {hst:Nat}{ld wr:List Nat}{ty esz bytes:Nat}{u:XV}(hd:yd (w9 v) ld=true)(H:Put2D E W (qbt W h ty esz bytes v u) d hst r ld (w9 v++wr) k Q fr) : QuietD E W (fun W'=>qbt W' h ty esz bytes v u) (w9 v) d hst r ld wr k Q fr:=by
 refine ⟨hd,?_⟩
 show Put2D E W (qbt (uk W hst (w9 v)) h ty esz bytes v u) d hst r ld (w9 v++wr) k Q fr
 rw [qoy]
 exact H
end
end Go.Proofs.Ytjloihcijdcpeaa.X
