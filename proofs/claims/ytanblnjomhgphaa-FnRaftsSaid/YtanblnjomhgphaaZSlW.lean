/- Parts of owned slices, to be read. -/
import Derived.Test.YtanblnjomhgphaaZSlG
open Bool renaming not_eq_true'→a1x
open List renaming flatMap_append→a1z,getElem?_drop→a1j,getElem?_eq_some_iff→r9,getElem?_take_of_lt→a16,length_drop→a04,mem_cons→a13
open Nat renaming add_mul→a2a,le_refl→a0d,mul_le_mul_right→a1d,zero_add→o8,zero_le→a12
open Option renaming getD_none→a0v,getD_some→a0r,map_none→a02,map_some→a0q
open Go.Proofs.Ytanblnjomhgphaa.X.Sep renaming bk→a0g
set_option linter.unusedVariables false
set_option linter.unusedSimpArgs false
namespace Go.Proofs.Ytanblnjomhgphaa.X
open Go
section
variable {E:Env}{W:Nat→Bool}{k:List It}{Q:QE}{fr:Fr}{h:Heap}{lo:Nat→Prop}{n0:Nat}{S:List Obj}{d:Option Nat}{r:List XOper}{b:Nat}{ty:TypeId}{α:Type}{f:α→List XV}{l l2 l3:List α}{sz:TypeId→Nat}{n bytes:Nat}{v w x:XV}{c c2:List Obj}{I:Nat}

def SlW {α:Type}(n:Nat)(v:XV)(l:List α)(w:XV)(I:Nat)(l2:List α) : Prop:=∃ j,I≤j∧j≤l.length∧l2=(l.take j).drop I∧((v = .nil∧w = .nil)∨∃ b len cap,v = .row b 0 len cap∧w = .row b (I*n) (j - I) (cap - I))
theorem q01 (hf:∀ x,(f x).length=n){i:Nat}(hi:i≤l.length) : (l.map f).flatten.drop (i*n)=((l.drop i).map f).flatten:=by
 have e:(l.map f).flatten=((l.take i).map f).flatten++((l.drop i).map f).flatten:=qkv hf hi
 have h1:(((l.take i).map f).flatten).length=i*n:=by rw [qa5 hf,List.length_take]; congr 1; omega
 rw [e,← h1,List.drop_left]
theorem qdb {j:Nat}(h1:I≤j)(h2:j≤l.length) : ((l.take j).drop I).length=j - I:=by simp; omega
theorem SlW.plen (hW:SlW n v l w I l2)(H:SlF f n ty v l c) : qg1 w=some (.int .i64 (List.length l2:Int)):=by
 obtain ⟨j,h1,h2,rfl,⟨rfl,rfl⟩ | ⟨b,len,cap,rfl,rfl⟩⟩:=hW
 ·rcases H with ⟨_,rfl,_⟩ | ⟨b',cap',junk,hv,_⟩
  ·simp; rfl
  ·cases hv
 ·rw [qdb h1 h2]
  rfl
theorem SlF.win (lo' hi':Option Int)(H:SlF f n ty v l c)(hs:sl l (lo'.getD 0) (hi'.getD (l.length:Int))=some l2)(hS:Sep h lo (c++S)) : ∃ w I,w9 h ty n v (lo'.map (.int .i64)) (hi'.map (.int .i64)) none=some w∧SlW n v l w I l2:=by
 obtain ⟨c1,c2,c3,rfl⟩:=qd4 hs
 rcases H with ⟨rfl,rfl,rfl⟩ | ⟨b,cap,junk,rfl,hcp,hj,rfl,hjf⟩
 ·have e0:((([] : List α).length:Nat) : Int)=0:=rfl
  rw [e0] at c2 c3
  have e1:lo'.getD 0=0:=by omega
  have e2:hi'.getD 0=0:=by omega
  refine ⟨.nil,0,?_,0,a0d _,a0d _,by simp,.inl ⟨rfl,rfl⟩⟩
  cases lo' with
  | none=>cases hi' with
   | none=>rfl
   | some b=>simp at e2; subst e2; rfl
  | some a=>simp at e1; subst e1; cases hi' with
   | none=>rfl
   | some b=>simp at e2; subst e2; rfl
 ·have hb:=a0g _ _ _ hS
  have hblk:(h[b]?).map Blk.ty=some ty:=by
   unfold z9 at hb
   split at hb
   ·rename_i kb hk
    rw [hk]
    split at hb
    ·cases hb; rfl
    ·cases hb
   ·cases hb
  refine ⟨.row b ((lo'.getD 0).toNat*n) ((hi'.getD (l.length:Int)).toNat - (lo'.getD 0).toNat) (cap - (lo'.getD 0).toNat),(lo'.getD 0).toNat,?_,(hi'.getD (l.length:Int)).toNat,by omega,by omega,rfl,.inr ⟨b,l.length,cap,rfl,rfl⟩⟩
  cases lo' with
  | none =>
   cases hi' with
   | none =>
    simp only [a0v,a02] at *
    unfold w9 yc
    simp only [yy,a0v]
    rw [if_pos ⟨a12 _,hcp,a0d _,(fun h=>by cases h),hblk⟩]
    simp
   | some e =>
    simp only [a0v,a0r,a02,a0q] at *
    unfold w9 yc
    simp only [show (0:Int)≤e by omega,if_true,yy,a0v,a0r]
    rw [if_pos ⟨a12 _,by omega,a0d _,(fun h=>by cases h),hblk⟩]
    simp
  | some a =>
   cases hi' with
   | none =>
    simp only [a0v,a0r,a02,a0q] at *
    unfold w9 yc
    simp only [c1,if_true,yy,a0v,a0r]
    rw [if_pos ⟨by omega,hcp,a0d _,(fun h=>by cases h),hblk⟩]
    simp
   | some e =>
    simp only [a0r,a0q] at *
    unfold w9 yc
    simp only [c1,show (0:Int)≤e by omega,if_true,yy,a0v,a0r]
    rw [if_pos ⟨by omega,by omega,a0d _,(fun h=>by cases h),hblk⟩]
    simp
theorem SlW.win (lo' hi':Option Int)(hW:SlW n v l w I l2)(H:SlF f n ty v l c)(hs:sl l2 (lo'.getD 0) (hi'.getD (l2.length:Int))=some l3)(hS:Sep h lo (c++S)) : ∃ w2 I2,w9 h ty n w (lo'.map (.int .i64)) (hi'.map (.int .i64)) none=some w2∧SlW n v l w2 I2 l3:=by
 obtain ⟨c1,c2,c3,rfl⟩:=qd4 hs
 obtain ⟨j,g1,g2,rfl,hw⟩:=hW
 rw [qdb g1 g2] at c2 c3
 rcases H with ⟨rfl,rfl,rfl⟩ | ⟨b,cap,junk,rfl,hcp,hj,rfl,hjf⟩
 ·rcases hw with ⟨_,rfl⟩ | ⟨b,len,cap,h,_⟩
  ·have e0:j=0:=by simpa using g2
   subst e0
   have e1:lo'.getD 0=0:=by omega
   have e2:hi'.getD 0=0:=by
    cases hi' with
    | none=>rfl
    | some b=>simp at c2 c3 ⊢; omega
   refine ⟨.nil,0,?_,0,a0d _,a0d _,by simp,.inl ⟨rfl,rfl⟩⟩
   cases lo' with
   | none=>cases hi' with
    | none=>rfl
    | some b=>simp at e2; subst e2; rfl
   | some a=>simp at e1; subst e1; cases hi' with
    | none=>rfl
    | some b=>simp at e2; subst e2; rfl
  ·cases h
 ·rcases hw with ⟨h0,_⟩ | ⟨b',len',cap',hv,rfl⟩
  ·cases h0
  ·cases hv
   have hb:=a0g _ _ _ hS
   have hblk:(h[b]?).map Blk.ty=some ty:=by
    unfold z9 at hb
    split at hb
    ·rename_i kb hk
     rw [hk]
     split at hb
     ·cases hb; rfl
     ·cases hb
    ·cases hb
   have hl2:((l.take j).drop I).length=j - I:=qdb g1 g2
   refine ⟨.row b ((I+(lo'.getD 0).toNat)*n) ((I+(hi'.getD (((l.take j).drop I).length:Int)).toNat) - (I+(lo'.getD 0).toNat)) (cap - (I+(lo'.getD 0).toNat)),I+(lo'.getD 0).toNat,?_,I+(hi'.getD (((l.take j).drop I).length:Int)).toNat,by rw [hl2]; omega,by rw [hl2]; omega,?_,.inr ⟨b,l.length,cap,rfl,rfl⟩⟩
   ·rw [hl2]
    have em:I*n+(lo'.getD 0).toNat*n=(I+(lo'.getD 0).toNat)*n:=by rw [a2a]
    rw [←em]
    cases lo' with
    | none =>
     cases hi' with
     | none =>
      simp only [a0v,a02] at *
      unfold w9 yc
      simp only [yy,a0v]
      rw [if_pos ⟨a12 _,by omega,a0d _,(fun h=>by cases h),hblk⟩]
      simp
     | some e =>
      simp only [a0v,a0r,a02,a0q] at *
      unfold w9 yc
      simp only [show (0:Int)≤e by omega,if_true,yy,a0v,a0r]
      rw [if_pos ⟨a12 _,by omega,a0d _,(fun h=>by cases h),hblk⟩]
      simp
    | some a =>
     cases hi' with
     | none =>
      simp only [a0v,a0r,a02,a0q] at *
      unfold w9 yc
      simp only [c1,if_true,yy,a0v,a0r]
      rw [if_pos ⟨by omega,by omega,a0d _,(fun h=>by cases h),hblk⟩]
      simp
      omega
     | some e =>
      simp only [a0r,a0q] at *
      unfold w9 yc
      simp only [c1,show (0:Int)≤e by omega,if_true,yy,a0v,a0r]
      rw [if_pos ⟨by omega,by omega,a0d _,(fun h=>by cases h),hblk⟩]
      simp
      omega
   ·rw [hl2]
    rw [List.take_drop,List.drop_drop,List.take_take,show min (I+(hi'.getD (((j - I:Nat)) : Int)).toNat) j=I+(hi'.getD (((j - I:Nat)) : Int)).toNat by omega]
theorem SlW.first (hW:SlW n v l w I l2)(H:SlF f n ty v l c)(hS:Sep h lo (c++S))(hf:∀ x,(f x).length=n) : yd h n w=some (l2.length,(l2.map f).flatten):=by
 obtain ⟨j,h1,h2,rfl,hw⟩:=hW
 rcases H with ⟨rfl,rfl,rfl⟩ | ⟨b,cap,junk,rfl,hc,hj,rfl,hjf⟩
 ·rcases hw with ⟨_,rfl⟩ | ⟨b,len,cap,h,_⟩
  ·simp; rfl
  ·cases h
 ·rcases hw with ⟨h0,_⟩ | ⟨b',len',cap',hv,rfl⟩
  ·cases h0
  ·cases hv
   have hb:=a0g _ _ _ hS
   have hl:=qa5 (l:=l) hf
   have hm:I*n+(j - I)*n=j*n:=by rw [←a2a]; congr 1; omega
   have hm2:j*n≤l.length*n:=a1d n h2
   unfold yd
   dsimp only
   rw [qf2 hb,if_pos (by rw [List.length_append,hl]; omega),qdb h1 h2]
   have e1:((l.map f).flatten++junk).drop (I*n)=((l.drop I).map f).flatten++junk:=by
    rw [List.drop_append_of_le_length (by rw [hl]; omega),q01 hf (by omega)]
   have e2:(((l.drop I).map f).flatten++junk).take ((j - I)*n)=(((l.drop I).take (j - I)).map f).flatten:=by
    have h3:(j - I)*n≤(((l.drop I).map f).flatten).length:=by
     rw [qa5 hf,a04]; exact a1d n (by omega)
    rw [List.take_append_of_le_length h3,qqh hf (by rw [a04]; omega)]
   rw [e1,e2,List.drop_take]
theorem SlW.get (hW:SlW n v l w I l2){i:Int}{x:α}(hg:zy l2 i=some x) : zy l ((I:Int)+i)=some x:=by
 obtain ⟨j,h1,h2,rfl,hw⟩:=hW
 obtain ⟨g0,g1,g2⟩:=yn hg
 rw [qdb h1 h2] at g1
 unfold zy
 rw [if_pos (by omega)]
 rw [a1j,a16 (by omega)] at g2
 rw [←g2]
 congr 1
 omega
theorem SlW.ia (hW:SlW n v l w I l2)(H:SlF f n ty v l c)(hb:SlB v b){kk:IntKind}{i:Int}{x:α}(hg:zy l2 i=some x) : xia n w (.int kk i)=some (.ptr b (((I:Int)+i).toNat*n)):=by
 obtain ⟨j,h1,h2,rfl,hw⟩:=hW
 obtain ⟨g0,g1,g2⟩:=yn hg
 rw [qdb h1 h2] at g1
 obtain ⟨len,cap,rfl⟩:=hb
 rcases hw with ⟨h0,_⟩ | ⟨b',len',cap',hv,rfl⟩
 ·cases h0
 ·cases hv
  have e:xia n (.row b (I*n) (j - I) (cap - I)) (.int kk i)=if 0≤i∧i<(j - I:Nat) then some (.ptr b (I*n+i.toNat*n)) else none:=rfl
  rw [e,if_pos ⟨g0,g1⟩,← a2a,show I+i.toNat=((I:Int)+i).toNat by omega]
theorem SlW.snap {m:Nat}(hW:SlW n v l w I l2)(H:SlF f n ty v l c)(hS:Sep h lo (c++S))(hsz:sz ty=n)(hf:∀ x,(f x).length=n)(hc:∀ x,(f x).mapM (snap h sz m)=some (f x)) : snap h sz (m+1) w=some (lst f l2):=by
 have hfst:=hW.first H hS hf
 obtain ⟨j,h1,h2,rfl,hw⟩:=hW
 rcases H with ⟨rfl,rfl,rfl⟩ | ⟨b,cap,junk,rfl,hcp,hj,rfl,hjf⟩
 ·rcases hw with ⟨_,rfl⟩ | ⟨b,len,cap,h,_⟩
  ·simp; rfl
  ·cases h
 ·rcases hw with ⟨h0,_⟩ | ⟨b',len',cap',hv,rfl⟩
  ·cases h0
  ·cases hv
   have hb:=a0g _ _ _ hS
   simp only [X.snap,hb]
   rw [show j - I=((l.take j).drop I).length from (qdb h1 h2).symm]
   rw [ub (f:=f) (l:=(l.take j).drop I) (fun i x hx=>?_)]
   ·rfl
   ·have hl:l[I+i]? = some x:=by
     have hi:i<j - I:=by have:=(r9.1 hx).1; rwa [qdb h1 h2] at this
     rw [a1j,a16 (by omega)] at hx
     exact hx
    have:=qq3 hb hsz hf hl
    rw [hsz] at this ⊢
    rw [o8,a2a] at this
    rw [this]
    exact hc x
theorem zdw:yg [b] []=true:=by simp [yg]
theorem zfa {b':Nat}{ld:List Nat}(hne:b≠b')(ht:yg [b] ld=true) : yg [b] (b'::ld)=true:=by
 simp only [yg,List.all_cons,List.all_nil,Bool.and_true,a1x,List.contains_eq_mem,decide_eq_false_iff_not,a13,not_or] at ht ⊢
 exact ⟨hne,ht⟩
theorem Sep.bne {b':Nat}{cs cs':List XV}{ty':TypeId}(H:Sep h lo ([Blk1 b cs ty]++([Blk1 b' cs' ty']++S))) : b≠b':=by
 have:=H.nodup
 simp [Blk1] at this
 exact this.1.1
theorem qlr {kk:IntKind}{a b:Int} : qhz false [.int kk a,.int kk b]=some (.int kk (mnI a b)):=zd9
theorem qog {kk:IntKind}{a b:Int} : qhz true [.int kk a,.int kk b]=some (.int kk (mxI a b)):=zdy
theorem qtx:yg (xb v) []=true:=by simp [yg]
theorem zby {b':Nat}{ld:List Nat}(hne:∀ x∈xb v,x≠b')(ht:yg (xb v) ld=true) : yg (xb v) (b'::ld)=true:=by
 simp only [yg,List.all_eq_true,a1x,List.contains_eq_mem,decide_eq_false_iff_not,a13,not_or] at ht ⊢
 exact fun x hx=>⟨hne x hx,ht x hx⟩
theorem SlF.rowfp (H:SlF f n ty v l c) : ∀ x∈xb v,x∈c.flatMap Obj.fp:=by
 rcases H with ⟨rfl,rfl,rfl⟩ | ⟨b,cap,junk,rfl,hc,hj,rfl,hjf⟩
 ·intro x hx; simp [xb] at hx
 ·intro x hx; simpa [xb,Blk1] using hx
theorem SlN.rowfp {R:Rep α}(H:SlN R n ty v l c) : ∀ x∈xb v,x∈c.flatMap Obj.fp:=by
 rcases H with ⟨rfl,rfl,rfl⟩ | ⟨b,cap,junk,css,oss,rfl,h2,h3,h4,h5,h6⟩
 ·intro x hx; simp [xb] at hx
 ·intro x hx
  have:x=b:=by simpa [xb] using hx
  subst this
  exact ((h6.flatMap_right Obj.fp).mem_iff).2 (by simp [Blk1])
theorem qlm {cs:List XV} : b∈([Blk1 b cs ty] : List Obj).flatMap Obj.fp:=by simp [Blk1]
theorem Sep.dj {b':Nat}(H:Sep h lo (c++(c2++S)))(h2:b'∈c2.flatMap Obj.fp){z:Nat}(h1:z∈c.flatMap Obj.fp) : z≠b':=by
 have:=H.nodup
 rw [a1z,List.nodup_append] at this
 exact this.2.2 z h1 b' (by rw [a1z,List.mem_append]; exact .inl h2)
theorem qq1 {hst:Nat}{ld wr:List Nat}{ty esz bytes:Nat}{x y:XO} : Run E W (.draw hst (⟨d,.app ty esz bytes x y,none,2⟩::r) ld wr::k) Q fr h=QuietD E W (fun W'=>xd W' h ty esz bytes (x.ev fr) (y.ev fr)) (xb (x.ev fr)) d hst r ld wr k Q fr:=by
 have e1:∀ W',xd W' h ty esz bytes (x.ev fr) (y.ev fr)=ze W' (XO.ev fr) h (.app ty esz bytes x y):=fun _=>rfl
 simp only [Run,wc,WD,OpD,Put2D,QuietD,wt,e1]
 rw [if_neg (by decide),if_neg (by decide),if_pos trivial]
 simp only [OpW]
 congr 1
theorem q4l {hst:Nat}{ld wr:List Nat}{ty esz bytes:Nat}{u:XV}(hd:yg (xb v) ld=true)(H:Put2D E W (xd W h ty esz bytes v u) d hst r ld (xb v++wr) k Q fr) : QuietD E W (fun W'=>xd W' h ty esz bytes v u) (xb v) d hst r ld wr k Q fr:=by
 refine ⟨hd,?_⟩
 show Put2D E W (xd (w7 W hst (xb v)) h ty esz bytes v u) d hst r ld (xb v++wr) k Q fr
 rw [qrq]
 exact H
theorem SlN.win {R:Rep α}(H:SlN R n ty v l c){e:Int}(hs:sl l 0 e=some l2)(hS:Sep h lo (c++S)) : ∃ w I,w9 h ty n v none (some (.int .i64 e)) none=some w∧SlW n v l w I l2:=by
 obtain ⟨c1,c2,c3,rfl⟩:=qd4 hs
 rcases H with ⟨rfl,rfl,rfl⟩ | ⟨b,cap,junk,css,oss,rfl,hcp,hj,hjf,h5,h6⟩
 ·have:e=0:=by simp at c3; omega
  subst this
  exact ⟨.nil,0,rfl,0,a0d _,a0d _,by simp,.inl ⟨rfl,rfl⟩⟩
 ·have hb:z9 h b=some ⟨css.flatten++junk,ty,true⟩:=Sep.blk0 (hS.cperm h6)
  have hblk:(h[b]?).map Blk.ty=some ty:=by
   unfold z9 at hb
   split at hb
   ·rename_i kb hk
    rw [hk]
    split at hb
    ·cases hb; rfl
    ·cases hb
   ·cases hb
  refine ⟨.row b (0*n) (e.toNat - 0) (cap - 0),0,?_,e.toNat,by omega,by omega,rfl,.inr ⟨b,l.length,cap,rfl,rfl⟩⟩
  unfold w9 yc
  simp only [show (0:Int)≤e by omega,if_true,yy,a0v,a0r]
  rw [if_pos ⟨a12 _,by omega,a0d _,(fun h=>by cases h),hblk⟩]
  simp
theorem SlWN.snap {R:Rep α}(hW:SlW n v l w I l2)(H:SlN R n ty v l c)(m:Nat)(hS:Sep h lo (c++S))(hsz:sz ty=n)(hR:RepOk sz R f n) : snap h sz (m+3) w=some (lst f l2):=by
 obtain ⟨j,h1,h2,rfl,hw⟩:=hW
 rcases H with ⟨rfl,rfl,rfl⟩ | ⟨b,cap,junk,css,oss,rfl,g2,g3,g4,h5,h6⟩
 ·rcases hw with ⟨_,rfl⟩ | ⟨b,len,cap,h,_⟩
  ·simp; rfl
  ·cases h
 ·rcases hw with ⟨h0,_⟩ | ⟨b',len',cap',hv,rfl⟩
  ·cases h0
  ·cases hv
   have hS1:Sep h lo ((Blk1 b (css.flatten++junk) ty::oss.flatten)++S):=hS.cperm h6
   have hb:z9 h b=some ⟨css.flatten++junk,ty,true⟩:=Sep.blk0 hS1
   have hS2:Sep h lo (oss.flatten++S):=Sep.drop hS1
   have hrd:=h5.reads (f:=f) (g:=X.snap h sz (m+2)) (fun i x cs os _ _ ho hr=>by
    obtain ⟨T,p⟩:=qo7 (oss:=oss) (o1:=[]) ho
    exact hR.snap (lo:=lo) (S:=T++S) m hr (by have:=hS2.cperm p; rwa [List.append_assoc] at this))
   simp only [X.snap,hb,hsz]
   rw [show j - I=((l.take j).drop I).length from (qdb h1 h2).symm]
   rw [ub (f:=f) (l:=(l.take j).drop I) (fun i x hx=>?_)]
   ·rfl
   ·have hl:l[I+i]? = some x:=by
     have hi:i<j - I:=by have:=(r9.1 hx).1; rwa [qdb h1 h2] at this
     rw [a1j,a16 (by omega)] at hx
     exact hx
    obtain ⟨cs,k1,k2⟩:=hrd _ x hl
    have:=qjf hb (h5.lens hR.len) k1
    rw [a2a,o8] at this
    rw [this]
    exact k2
end
end Go.Proofs.Ytanblnjomhgphaa.X
