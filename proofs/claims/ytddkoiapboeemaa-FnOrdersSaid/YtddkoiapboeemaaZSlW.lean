/- Parts of owned slices, to be read. -/
import Derived.Test.YtddkoiapboeemaaZSlG
set_option linter.unusedVariables false
set_option linter.unusedSimpArgs false
namespace Go.Proofs.Ytddkoiapboeemaa.X
open Go
section
variable {E:Env}{W:Nat→Bool}{k:List It}{Q:QE}{fr:Fr}{h:Heap}{lo:Nat→Prop}{n0:Nat}{S:List Obj}{d:Option Nat}{r:List XOper}{b:Nat}{ty:TypeId}{α:Type}{f:α→List XV}{l l2 l3:List α}{sz:TypeId→Nat}{n bytes:Nat}{v w x:XV}{c c2:List Obj}{I:Nat}

def SlW {α:Type}(n:Nat)(v:XV)(l:List α)(w:XV)(I:Nat)(l2:List α) : Prop:=∃ j,I≤j∧j≤l.length∧l2=(l.take j).drop I∧((v = .nil∧w = .nil)∨∃ b len cap,v = .row b 0 len cap∧w = .row b (I*n) (j - I) (cap - I))
theorem qpw (hf:∀ x,(f x).length=n){i:Nat}(hi:i≤l.length) : (l.map f).flatten.drop (i*n)=((l.drop i).map f).flatten:=by
 have e:(l.map f).flatten=((l.take i).map f).flatten++((l.drop i).map f).flatten:=qf3 hf hi
 have h1:(((l.take i).map f).flatten).length=i*n:=by rw [kx hf,List.length_take]; congr 1; omega
 rw [e,← h1,List.drop_left]
theorem uo {j:Nat}(h1:I≤j)(h2:j≤l.length) : ((l.take j).drop I).length=j - I:=by simp; omega
theorem SlW.plen (hW:SlW n v l w I l2)(H:SlF f n ty v l c) : qdk w=some (.int .i64 (List.length l2:Int)):=by
 obtain ⟨j,h1,h2,rfl,⟨rfl,rfl⟩ | ⟨b,len,cap,rfl,rfl⟩⟩:=hW
 ·rcases H with ⟨_,rfl,_⟩ | ⟨b',cap',junk,hv,_⟩
  ·simp; rfl
  ·cases hv
 ·rw [uo h1 h2]
  rfl
theorem SlF.win (lo' hi':Option Int)(H:SlF f n ty v l c)(hs:sl l (lo'.getD 0) (hi'.getD (l.length:Int))=some l2)(hS:Sep h lo (c++S)) : ∃ w I,yc h ty n v (lo'.map (.int .i64)) (hi'.map (.int .i64)) none=some w∧SlW n v l w I l2:=by
 obtain ⟨c1,c2,c3,rfl⟩:=qco hs
 rcases H with ⟨rfl,rfl,rfl⟩ | ⟨b,cap,junk,rfl,hcp,hj,rfl,hjf⟩
 ·have e0:((([] : List α).length:Nat) : Int)=0:=rfl
  rw [e0] at c2 c3
  have e1:lo'.getD 0=0:=by omega
  have e2:hi'.getD 0=0:=by omega
  refine ⟨.nil,0,?_,0,Nat.le_refl _,Nat.le_refl _,by simp,.inl ⟨rfl,rfl⟩⟩
  cases lo' with
  | none=>cases hi' with
   | none=>rfl
   | some b=>simp at e2; subst e2; rfl
  | some a=>simp at e1; subst e1; cases hi' with
   | none=>rfl
   | some b=>simp at e2; subst e2; rfl
 ·have hb:=Sep.bk _ _ _ hS
  have hblk:(h[b]?).map Blk.ty=some ty:=by
   unfold za at hb
   split at hb
   ·rename_i kb hk
    rw [hk]
    split at hb
    ·cases hb; rfl
    ·cases hb
   ·cases hb
  refine ⟨.row b ((lo'.getD 0).toNat*n) ((hi'.getD (l.length:Int)).toNat - (lo'.getD 0).toNat) (cap - (lo'.getD 0).toNat),(lo'.getD 0).toNat,?_,(hi'.getD (l.length:Int)).toNat,by omega,by omega,rfl,.inr ⟨b,l.length,cap,rfl,rfl⟩⟩
  cases lo' with
  | none =>
   cases hi' with
   | none =>
    simp only [Option.getD_none,Option.map_none] at *
    unfold yc jo
    simp only [ky,Option.getD_none]
    rw [if_pos ⟨Nat.zero_le _,hcp,Nat.le_refl _,(fun h=>by cases h),hblk⟩]
    simp
   | some e =>
    simp only [Option.getD_none,Option.getD_some,Option.map_none,Option.map_some] at *
    unfold yc jo
    simp only [show (0:Int)≤e by omega,if_true,ky,Option.getD_none,Option.getD_some]
    rw [if_pos ⟨Nat.zero_le _,by omega,Nat.le_refl _,(fun h=>by cases h),hblk⟩]
    simp
  | some a =>
   cases hi' with
   | none =>
    simp only [Option.getD_none,Option.getD_some,Option.map_none,Option.map_some] at *
    unfold yc jo
    simp only [c1,if_true,ky,Option.getD_none,Option.getD_some]
    rw [if_pos ⟨by omega,hcp,Nat.le_refl _,(fun h=>by cases h),hblk⟩]
    simp
   | some e =>
    simp only [Option.getD_some,Option.map_some] at *
    unfold yc jo
    simp only [c1,show (0:Int)≤e by omega,if_true,ky,Option.getD_none,Option.getD_some]
    rw [if_pos ⟨by omega,by omega,Nat.le_refl _,(fun h=>by cases h),hblk⟩]
    simp
theorem SlW.win (lo' hi':Option Int)(hW:SlW n v l w I l2)(H:SlF f n ty v l c)(hs:sl l2 (lo'.getD 0) (hi'.getD (l2.length:Int))=some l3)(hS:Sep h lo (c++S)) : ∃ w2 I2,yc h ty n w (lo'.map (.int .i64)) (hi'.map (.int .i64)) none=some w2∧SlW n v l w2 I2 l3:=by
 obtain ⟨c1,c2,c3,rfl⟩:=qco hs
 obtain ⟨j,g1,g2,rfl,hw⟩:=hW
 rw [uo g1 g2] at c2 c3
 rcases H with ⟨rfl,rfl,rfl⟩ | ⟨b,cap,junk,rfl,hcp,hj,rfl,hjf⟩
 ·rcases hw with ⟨_,rfl⟩ | ⟨b,len,cap,h,_⟩
  ·have e0:j=0:=by simpa using g2
   subst e0
   have e1:lo'.getD 0=0:=by omega
   have e2:hi'.getD 0=0:=by
    cases hi' with
    | none=>rfl
    | some b=>simp at c2 c3 ⊢; omega
   refine ⟨.nil,0,?_,0,Nat.le_refl _,Nat.le_refl _,by simp,.inl ⟨rfl,rfl⟩⟩
   cases lo' with
   | none=>cases hi' with
    | none=>rfl
    | some b=>simp at e2; subst e2; rfl
   | some a=>simp at e1; subst e1; cases hi' with
    | none=>rfl
    | some b=>simp at e2; subst e2; rfl
  ·cases h
 ·rcases hw with ⟨h0,_⟩ | ⟨b',len',cap',hv,rfl⟩
  ·cases h0
  ·cases hv
   have hb:=Sep.bk _ _ _ hS
   have hblk:(h[b]?).map Blk.ty=some ty:=by
    unfold za at hb
    split at hb
    ·rename_i kb hk
     rw [hk]
     split at hb
     ·cases hb; rfl
     ·cases hb
    ·cases hb
   have hl2:((l.take j).drop I).length=j - I:=uo g1 g2
   refine ⟨.row b ((I+(lo'.getD 0).toNat)*n) ((I+(hi'.getD (((l.take j).drop I).length:Int)).toNat) - (I+(lo'.getD 0).toNat)) (cap - (I+(lo'.getD 0).toNat)),I+(lo'.getD 0).toNat,?_,I+(hi'.getD (((l.take j).drop I).length:Int)).toNat,by rw [hl2]; omega,by rw [hl2]; omega,?_,.inr ⟨b,l.length,cap,rfl,rfl⟩⟩
   ·rw [hl2]
    have em:I*n+(lo'.getD 0).toNat*n=(I+(lo'.getD 0).toNat)*n:=by rw [Nat.add_mul]
    rw [←em]
    cases lo' with
    | none =>
     cases hi' with
     | none =>
      simp only [Option.getD_none,Option.map_none] at *
      unfold yc jo
      simp only [ky,Option.getD_none]
      rw [if_pos ⟨Nat.zero_le _,by omega,Nat.le_refl _,(fun h=>by cases h),hblk⟩]
      simp
     | some e =>
      simp only [Option.getD_none,Option.getD_some,Option.map_none,Option.map_some] at *
      unfold yc jo
      simp only [show (0:Int)≤e by omega,if_true,ky,Option.getD_none,Option.getD_some]
      rw [if_pos ⟨Nat.zero_le _,by omega,Nat.le_refl _,(fun h=>by cases h),hblk⟩]
      simp
    | some a =>
     cases hi' with
     | none =>
      simp only [Option.getD_none,Option.getD_some,Option.map_none,Option.map_some] at *
      unfold yc jo
      simp only [c1,if_true,ky,Option.getD_none,Option.getD_some]
      rw [if_pos ⟨by omega,by omega,Nat.le_refl _,(fun h=>by cases h),hblk⟩]
      simp
      omega
     | some e =>
      simp only [Option.getD_some,Option.map_some] at *
      unfold yc jo
      simp only [c1,show (0:Int)≤e by omega,if_true,ky,Option.getD_none,Option.getD_some]
      rw [if_pos ⟨by omega,by omega,Nat.le_refl _,(fun h=>by cases h),hblk⟩]
      simp
      omega
   ·rw [hl2]
    rw [List.take_drop,List.drop_drop,List.take_take,show min (I+(hi'.getD (((j - I:Nat)) : Int)).toNat) j=I+(hi'.getD (((j - I:Nat)) : Int)).toNat by omega]
theorem SlW.first (hW:SlW n v l w I l2)(H:SlF f n ty v l c)(hS:Sep h lo (c++S))(hf:∀ x,(f x).length=n) : j6 h n w=some (l2.length,(l2.map f).flatten):=by
 obtain ⟨j,h1,h2,rfl,hw⟩:=hW
 rcases H with ⟨rfl,rfl,rfl⟩ | ⟨b,cap,junk,rfl,hc,hj,rfl,hjf⟩
 ·rcases hw with ⟨_,rfl⟩ | ⟨b,len,cap,h,_⟩
  ·simp; rfl
  ·cases h
 ·rcases hw with ⟨h0,_⟩ | ⟨b',len',cap',hv,rfl⟩
  ·cases h0
  ·cases hv
   have hb:=Sep.bk _ _ _ hS
   have hl:=kx (l:=l) hf
   have hm:I*n+(j - I)*n=j*n:=by rw [←Nat.add_mul]; congr 1; omega
   have hm2:j*n≤l.length*n:=Nat.mul_le_mul_right n h2
   unfold j6
   dsimp only
   rw [qdu hb,if_pos (by rw [List.length_append,hl]; omega),uo h1 h2]
   have e1:((l.map f).flatten++junk).drop (I*n)=((l.drop I).map f).flatten++junk:=by
    rw [List.drop_append_of_le_length (by rw [hl]; omega),qpw hf (by omega)]
   have e2:(((l.drop I).map f).flatten++junk).take ((j - I)*n)=(((l.drop I).take (j - I)).map f).flatten:=by
    have h3:(j - I)*n≤(((l.drop I).map f).flatten).length:=by
     rw [kx hf,List.length_drop]; exact Nat.mul_le_mul_right n (by omega)
    rw [List.take_append_of_le_length h3,qhq hf (by rw [List.length_drop]; omega)]
   rw [e1,e2,List.drop_take]
theorem SlW.get (hW:SlW n v l w I l2){i:Int}{x:α}(hg:z2 l2 i=some x) : z2 l ((I:Int)+i)=some x:=by
 obtain ⟨j,h1,h2,rfl,hw⟩:=hW
 obtain ⟨g0,g1,g2⟩:=j5 hg
 rw [uo h1 h2] at g1
 unfold z2
 rw [if_pos (by omega)]
 rw [List.getElem?_drop,List.getElem?_take_of_lt (by omega)] at g2
 rw [←g2]
 congr 1
 omega
theorem SlW.ia (hW:SlW n v l w I l2)(H:SlF f n ty v l c)(hb:SlB v b){kk:IntKind}{i:Int}{x:α}(hg:z2 l2 i=some x) : xia n w (.int kk i)=some (.ptr b (((I:Int)+i).toNat*n)):=by
 obtain ⟨j,h1,h2,rfl,hw⟩:=hW
 obtain ⟨g0,g1,g2⟩:=j5 hg
 rw [uo h1 h2] at g1
 obtain ⟨len,cap,rfl⟩:=hb
 rcases hw with ⟨h0,_⟩ | ⟨b',len',cap',hv,rfl⟩
 ·cases h0
 ·cases hv
  have e:xia n (.row b (I*n) (j - I) (cap - I)) (.int kk i)=if 0≤i∧i<(j - I:Nat) then some (.ptr b (I*n+i.toNat*n)) else none:=rfl
  rw [e,if_pos ⟨g0,g1⟩,← Nat.add_mul,show I+i.toNat=((I:Int)+i).toNat by omega]
theorem SlW.snap {m:Nat}(hW:SlW n v l w I l2)(H:SlF f n ty v l c)(hS:Sep h lo (c++S))(hsz:sz ty=n)(hf:∀ x,(f x).length=n)(hc:∀ x,(f x).mapM (snap h sz m)=some (f x)) : snap h sz (m+1) w=some (lst f l2):=by
 have hfst:=hW.first H hS hf
 obtain ⟨j,h1,h2,rfl,hw⟩:=hW
 rcases H with ⟨rfl,rfl,rfl⟩ | ⟨b,cap,junk,rfl,hcp,hj,rfl,hjf⟩
 ·rcases hw with ⟨_,rfl⟩ | ⟨b,len,cap,h,_⟩
  ·simp; rfl
  ·cases h
 ·rcases hw with ⟨h0,_⟩ | ⟨b',len',cap',hv,rfl⟩
  ·cases h0
  ·cases hv
   have hb:=Sep.bk _ _ _ hS
   simp only [X.snap,hb]
   rw [show j - I=((l.take j).drop I).length from (uo h1 h2).symm]
   rw [y2 (f:=f) (l:=(l.take j).drop I) (fun i x hx=>?_)]
   ·rfl
   ·have hl:l[I+i]? = some x:=by
     have hi:i<j - I:=by have:=(List.getElem?_eq_some_iff.1 hx).1; rwa [uo h1 h2] at this
     rw [List.getElem?_drop,List.getElem?_take_of_lt (by omega)] at hx
     exact hx
    have:=qlh hb hsz hf hl
    rw [hsz] at this ⊢
    rw [Nat.zero_add,Nat.add_mul] at this
    rw [this]
    exact hc x
theorem Sep.bne {b':Nat}{cs cs':List XV}{ty':TypeId}(H:Sep h lo ([Blk1 b cs ty]++([Blk1 b' cs' ty']++S))) : b≠b':=by
 have:=H.nodup
 simp [Blk1] at this
 exact this.1.1
theorem SlN.win {R:Rep α}(H:SlN R n ty v l c){e:Int}(hs:sl l 0 e=some l2)(hS:Sep h lo (c++S)) : ∃ w I,yc h ty n v none (some (.int .i64 e)) none=some w∧SlW n v l w I l2:=by
 obtain ⟨c1,c2,c3,rfl⟩:=qco hs
 rcases H with ⟨rfl,rfl,rfl⟩ | ⟨b,cap,junk,css,oss,rfl,hcp,hj,hjf,h5,h6⟩
 ·have:e=0:=by simp at c3; omega
  subst this
  exact ⟨.nil,0,rfl,0,Nat.le_refl _,Nat.le_refl _,by simp,.inl ⟨rfl,rfl⟩⟩
 ·have hb:za h b=some ⟨css.flatten++junk,ty,true⟩:=Sep.blk0 (hS.cperm h6)
  have hblk:(h[b]?).map Blk.ty=some ty:=by
   unfold za at hb
   split at hb
   ·rename_i kb hk
    rw [hk]
    split at hb
    ·cases hb; rfl
    ·cases hb
   ·cases hb
  refine ⟨.row b (0*n) (e.toNat - 0) (cap - 0),0,?_,e.toNat,by omega,by omega,rfl,.inr ⟨b,l.length,cap,rfl,rfl⟩⟩
  unfold yc jo
  simp only [show (0:Int)≤e by omega,if_true,ky,Option.getD_none,Option.getD_some]
  rw [if_pos ⟨Nat.zero_le _,by omega,Nat.le_refl _,(fun h=>by cases h),hblk⟩]
  simp
theorem SlWN.snap {R:Rep α}(hW:SlW n v l w I l2)(H:SlN R n ty v l c)(m:Nat)(hS:Sep h lo (c++S))(hsz:sz ty=n)(hR:RepOk sz R f n) : snap h sz (m+3) w=some (lst f l2):=by
 obtain ⟨j,h1,h2,rfl,hw⟩:=hW
 rcases H with ⟨rfl,rfl,rfl⟩ | ⟨b,cap,junk,css,oss,rfl,g2,g3,g4,h5,h6⟩
 ·rcases hw with ⟨_,rfl⟩ | ⟨b,len,cap,h,_⟩
  ·simp; rfl
  ·cases h
 ·rcases hw with ⟨h0,_⟩ | ⟨b',len',cap',hv,rfl⟩
  ·cases h0
  ·cases hv
   have hS1:Sep h lo ((Blk1 b (css.flatten++junk) ty::oss.flatten)++S):=hS.cperm h6
   have hb:za h b=some ⟨css.flatten++junk,ty,true⟩:=Sep.blk0 hS1
   have hS2:Sep h lo (oss.flatten++S):=Sep.drop hS1
   have hrd:=h5.reads (f:=f) (g:=X.snap h sz (m+2)) (fun i x cs os _ _ ho hr=>by
    obtain ⟨T,p⟩:=qir (oss:=oss) (o1:=[]) ho
    exact hR.snap (lo:=lo) (S:=T++S) m hr (by have:=hS2.cperm p; rwa [List.append_assoc] at this))
   simp only [X.snap,hb,hsz]
   rw [show j - I=((l.take j).drop I).length from (uo h1 h2).symm]
   rw [y2 (f:=f) (l:=(l.take j).drop I) (fun i x hx=>?_)]
   ·rfl
   ·have hl:l[I+i]? = some x:=by
     have hi:i<j - I:=by have:=(List.getElem?_eq_some_iff.1 hx).1; rwa [uo h1 h2] at this
     rw [List.getElem?_drop,List.getElem?_take_of_lt (by omega)] at hx
     exact hx
    obtain ⟨cs,k1,k2⟩:=hrd _ x hl
    have:=qf8 hb (h5.lens hR.len) k1
    rw [Nat.add_mul,Nat.zero_add] at this
    rw [this]
    exact k2
end
end Go.Proofs.Ytddkoiapboeemaa.X
