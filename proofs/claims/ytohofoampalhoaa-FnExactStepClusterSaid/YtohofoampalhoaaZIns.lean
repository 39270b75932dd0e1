/- slices.Delete of owned rows, by its code; slices.Insert of owned rows of numbers, by what it answers. -/
import Derived.Test.YtohofoampalhoaaZSlW
open Int renaming natCast_nonneg→a18,toNat_natCast→a0v
open List renaming all_eq_true→v5,all_flatten→a24,append_assoc→l5,drop_drop→a06,drop_left→a2n,length_append→p9,length_drop→a1c,length_take→a02,replicate→r8,take_append_drop→a1s,take_left→a2a
open Nat renaming add_mul→a1o,le_refl→m0,reduceEqDiff→a9,zero_add→d9
open Option renaming getD_none→a0f,getD_some→a0a,map_none→a0m,map_some→t8
open Go.Proofs.Ytohofoampalhoaa.X.Sep renaming bk→o9
set_option linter.unusedVariables false
set_option linter.unusedSimpArgs false
namespace Go.Proofs.Ytohofoampalhoaa.X
open Go
def qmr (ty n bytes:Nat)(z:List XV) : XCode:=(.seq (.reg false [⟨(some 6),(.mv (.c .nil)),none,0⟩]) (.seq (.reg false [⟨(some 8),(.mv (.t 0)),none,0⟩,⟨(some 9),(.mv (.t 1)),none,0⟩,⟨(some 10),(.mv (.t 2)),none,0⟩,⟨(some 11),(.mv (.t 0)),none,0⟩,⟨(some 12),(.len (.t 11)),none,0⟩,⟨(some 13),(.slc ty n (.t 8) (some (.t 9)) (some (.t 10)) (some (.t 12))),none,0⟩]) (.seq (.seq (.reg false [⟨(some 14),(.mv (.t 1)),none,0⟩,⟨(some 15),(.mv (.t 2)),none,0⟩,⟨(some 16),(.bin .eql (.t 14) (.t 15)),none,0⟩]) (.cond (.t 16) (.seq (.reg false [⟨(some 17),(.mv (.t 0)),none,0⟩,⟨(some 6),(.mv (.t 17)),none,0⟩]) .ret) .skip)) (.seq (.reg false [⟨(some 18),(.mv (.t 0)),none,0⟩,⟨(some 19),(.len (.t 18)),none,0⟩,⟨(some 7),(.mv (.t 19)),none,0⟩]) (.seq (.reg true [⟨(some 20),(.mv (.t 0)),none,4⟩,⟨(some 21),(.mv (.t 1)),none,4⟩,⟨(some 22),(.slc ty n (.t 20) none (some (.t 21)) none),none,4⟩,⟨(some 23),(.mv (.t 0)),none,4⟩,⟨(some 24),(.mv (.t 2)),none,4⟩,⟨(some 25),(.slc ty n (.t 23) (some (.t 24)) none none),none,4⟩,⟨(some 26),(.app ty n bytes (.t 22) (.t 25)),none,3⟩,⟨(some 0),(.mv (.t 26)),none,4⟩]) (.seq (.reg false [⟨(some 27),(.mv (.t 0)),none,0⟩,⟨(some 28),(.mv (.t 0)),none,0⟩,⟨(some 29),(.len (.t 28)),none,0⟩,⟨(some 30),(.mv (.t 7)),none,0⟩,⟨(some 31),(.slc ty n (.t 27) (some (.t 29)) (some (.t 30)) none),none,0⟩,⟨none,(.clr ty z (.t 31)),none,0⟩]) (.seq (.reg false [⟨(some 32),(.mv (.t 0)),none,0⟩,⟨(some 6),(.mv (.t 32)),none,0⟩]) .ret)))))))
def qng {α:Type}(l:List α)(i j:Int) : Option (List α):=if 0≤i∧i<j∧j≤l.length then some (l.take i.toNat++l.drop j.toNat) else none
def qm5 (l:List Int)(i:Int)(l2:List Int) : Option (List Int × List Int):=if 0≤i∧i≤l.length∧0<l2.length∧(l.length+l2.length)*8≤70368744177664 then some (l.take i.toNat++l2++l.drop i.toNat,l2) else none
section
variable {E:Env}{W:Nat→Bool}{k:List It}{Q:XV→Heap→Prop}{h:Heap}{lo:Nat→Prop}{S:List Obj}{b:Nat}{ty:TypeId}{α:Type}{R:Rep α}{f:α→List XV}{l l2 l3:List α}{sz:TypeId→Nat}{n bytes:Nat}{v x:XV}{c c2:List Obj}{z cs:List XV}

theorem qry {A B C J Z:List XV}(hz:Z.length=B.length) : j5 (j5 (A++(B++(C++J))) A.length C) (A.length+C.length) Z=A++(C++(Z++J)):=by
 have e1:j5 (A++(B++(C++J))) A.length C=A++(C++(A++(B++(C++J))).drop (A.length+C.length)):=by
  unfold j5; rw [a2a,l5]
 rw [e1]
 generalize hD:(A++(B++(C++J))).drop (A.length+C.length)=D
 have e2:j5 (A++(C++D)) (A.length+C.length) Z=A++(C++(Z++D.drop Z.length)):=by
  unfold j5
  rw [←l5 A C D,← p9,a2a,← a06,a2n]
  simp
 rw [e2,← hD,a06,hz,show A.length+C.length+B.length=(A++(B++C)).length by simp; omega,show A++(B++(C++J))=(A++(B++C))++J by simp,a2n]

theorem qmj (hb:jg h b=some ⟨cs,ty,true⟩) : (h[b]?).map Blk.ty=some ty:=by
 unfold jg at hb
 split at hb
 ·rename_i kb hk
  rw [hk]
  split at hb
  ·cases hb; rfl
  ·cases hb
 ·cases hb
theorem qr1 {cs':List XV}(hb:jg h b=some ⟨cs,ty,true⟩) : jg (h.set b ⟨cs',ty,true⟩) b=some ⟨cs',ty,true⟩:=by
 have hlt:b<h.length:=(qbf hb).2.2
 simp [jg,List.getElem?_set,hlt]
theorem qs4 {E:Env}{W:Nat→Bool}{k:List It}{Q:QE}{fr:Fr}{d:Option Nat}{r:List XOper}{v:XV}{h:Heap} : Put2 E W (some (v,h)) d r k Q fr=Run E W (.ops r::k) Q (fr.put d v) h:=(rfl)
theorem qrr {E:Env}{W:Nat→Bool}{k:List It}{Q:QE}{fr:Fr}{d:Option Nat}{r:List XOper}{v:XV}{h:Heap}{hs:Nat}{ld wr:List Nat} : Put2D E W (some (v,h)) d hs r ld wr k Q fr=Run E W (.draw hs r ld wr::k) Q (fr.put d v) h:=(rfl)

theorem q82 {fid:Nat}(hf:E.fns fid=some ⟨qmr ty n bytes z,33,[.t 6]⟩){len cap i j:Nat}{A B C J:List XV}(hb:jg h b=some ⟨A++(B++(C++J)),ty,true⟩)(hWb:W b=true)(hij:i<j)(hjl:j≤len)(hlc:len≤cap)
  (hA:A.length=i*n) (hB:B.length=(j - i)*n) (hC:C.length=(len - j)*n) (h1:C.all XV.one=true) (hz:z.length=n) (hz1:z.all XV.one=true)
  (K:∀ cs1,Q (.row b 0 (i+(len - j)) cap) ((h.set b ⟨cs1,ty,true⟩).set b ⟨A++(C++((r8 (j - i) z).flatten++J)),ty,true⟩)) : Ret E W fid [.row b 0 len cap,.int .i64 (i:Int),.int .i64 (j:Int)] h Q:=by
 have hAB:(A++B).length=j*n:=by rw [p9,hA,hB,← a1o]; congr 1; omega
 have hZ:(r8 (j - i) z).flatten.length=(j - i)*n:=by simp [hz]
 refine Ret.of hf (Run.of ?_)
 have zf0:zb [.row b 0 len cap,.int .i64 (i:Int),.int .i64 (j:Int)] 0 = .row b 0 len cap:=rfl
 have zf1:zb [.row b 0 len cap,.int .i64 (i:Int),.int .i64 (j:Int)] 1 = .int .i64 (i:Int):=rfl
 have zf2:zb [.row b 0 len cap,.int .i64 (i:Int),.int .i64 (j:Int)] 2 = .int .i64 (j:Int):=rfl
 generalize zb [.row b 0 len cap,.int .i64 (i:Int),.int .i64 (j:Int)]=fr0 at zf0 zf1 zf2 ⊢
 simp only [qmr,qc,qd,qa,qf,zy,qb,qk6,qej,zf0,zf1,zf2,t8,a0m,B0,reduceIte,a9]
 refine qh (v := .row b (0+i*n) (j - i) (len - i)) ?_ ?_
 ·simp only [uf,k9,a18,if_true,a0v,wa,a0a]
  rw [if_pos ⟨by omega,hjl,hlc,fun _=>rfl,qmj hb⟩]
 simp only [qa,qc,qd,qf,qz,zf0,zf1,zf2,B0,reduceIte,a9]
 refine qh (v := .bool false) ?_ ?_
 ·simp only [uh,if_true]
  rw [show ((i:Int) == (j:Int))=false by simp; omega]
 simp only [qa,qc,qd,q9,qb6,zh,qf,zy,qb,qk6,js,zr,ql,qlx,zf0,zf1,zf2,t8,a0m,B0,reduceIte,a9]
 refine qu (v := .row b 0 i cap) ?_ ?_
 ·simp only [uf,k9,a18,if_true,a0v,wa,a0a,a0f]
  rw [if_pos ⟨Nat.zero_le _,by omega,m0 _,(fun h=>by cases h),qmj hb⟩]
  simp
 simp only [zr,ql,qlx,zf0,zf1,zf2,t8,a0m,B0,reduceIte,a9]
 refine qu (v := .row b (0+j*n) (len - j) (cap - j)) ?_ ?_
 ·simp only [uf,k9,a18,if_true,a0v,wa,a0a,a0f]
  rw [if_pos ⟨hjl,hlc,m0 _,(fun h=>by cases h),qmj hb⟩]
 simp only [qh9,B0,reduceIte,a9]
 have e1:qaw W h ty n bytes (.row b 0 i cap) (.row b (0+j*n) (len - j) (cap - j))=some (.row b 0 (i+(len - j)) cap,h.set b ⟨j5 (A++(B++(C++J))) (0+i*n) C,ty,true⟩):=by
  have hfo:yf h n (.row b (0+j*n) (len - j) (cap - j))=some (len - j,C):=by
   unfold yf
   dsimp only
   rw [qgk hb,if_pos (by simp only [p9] at hAB ⊢; omega),d9,← hAB,← l5 A B,a2n,← hC,a2a]
  unfold qaw
  simp only [zf,XO.ev,hfo]
  rw [if_pos (by omega),qmn hWb hb (by simp only [p9] at hAB ⊢; omega) h1]
 rw [e1,qrr]
 simp only [zr,ql,za,qc,qd,qf,zy,qb,qk6,qej,t8,a0m,B0,reduceIte,a9]
 have hb1:=qr1 (cs':=j5 (A++(B++(C++J))) (0+i*n) C) hb
 refine qh (v := .row b (0+(i+(len - j))*n) (len - (i+(len - j))) (cap - (i+(len - j)))) ?_ ?_
 ·simp only [uf,k9,a18,if_true,a0v,wa,a0a,a0f]
  rw [if_pos ⟨by omega,hlc,m0 _,(fun h=>by cases h),qmj hb1⟩]
 simp only [q9r,B0,reduceIte,a9]
 have hsl:(j5 (A++(B++(C++J))) (0+i*n) C).length=(A++(B++(C++J))).length:=qd7 _ _ _ (by simp only [p9] at hAB ⊢; omega)
 have e2:qxm W (h.set b ⟨j5 (A++(B++(C++J))) (0+i*n) C,ty,true⟩) ty z (.row b (0+(i+(len - j))*n) (len - (i+(len - j))) (cap - (i+(len - j))))=some (.tup [],(h.set b ⟨j5 (A++(B++(C++J))) (0+i*n) C,ty,true⟩).set b ⟨A++(C++((r8 (j - i) z).flatten++J)),ty,true⟩):=by
  have e0:qxm W (h.set b ⟨j5 (A++(B++(C++J))) (0+i*n) C,ty,true⟩) ty z (.row b (0+(i+(len - j))*n) (len - (i+(len - j))) (cap - (i+(len - j))))=if len - (i+(len - j))=0 then some (.tup [],h.set b ⟨j5 (A++(B++(C++J))) (0+i*n) C,ty,true⟩) else (match setCells W (h.set b ⟨j5 (A++(B++(C++J))) (0+i*n) C,ty,true⟩) b (0+(i+(len - j))*n) (r8 (len - (i+(len - j))) z).flatten with | some h'=>some (.tup [],h') | none=>none):=rfl
  have e3:len - (i+(len - j))=j - i:=by omega
  have e4:(i+(len - j))*n=A.length+C.length:=by rw [a1o,hA,hC]
  rw [e0,if_neg (by omega),e3,qmn hWb hb1 (by rw [hsl,hZ,e4]; simp only [p9] at hAB ⊢; omega) (by
   rw [a24,v5]
   intro x hx
   rw [(List.mem_replicate.1 hx).2]
   exact hz1),d9,d9,e4,← hA,qry (by rw [hZ,hB])]
 rw [e2,qs4]
 simp only [qa,qc,qd,qf,qx,q8,B0,reduceIte,a9]
 exact K _
theorem SlF.toB (H:SlF f n ty v l c)(h0:l≠[]) : ∃ b cap junk,v = .row b 0 l.length cap∧l.length≤cap∧junk.length=(cap - l.length)*n∧c=[Blk1 b ((l.map f).flatten++junk) ty]∧((∀ x,(f x).all XV.free1=true)→junk.all XV.free1=true):=by
 rcases H with ⟨_,rfl,_⟩ | ⟨b,cap,junk,h1⟩
 ·exact absurd rfl h0
 ·exact ⟨b,cap,junk,h1⟩
theorem qtg {i j:Int}(h:qng l i j=some l2) : ∃ I J:Nat,i=I∧j=J∧I<J∧J≤l.length∧l2=l.take I++l.drop J:=by
 unfold qng at h
 split at h
 case isFalse=>cases h
 rename_i hc
 cases h
 exact ⟨i.toNat,j.toNat,by omega,by omega,by omega,by omega,rfl⟩
theorem q9l (hz:z.all XV.free1=true){m:Nat}{J:List XV}(hJ:J.all XV.free1=true) : ((r8 m z).flatten++J).all XV.free1=true:=by
 rw [List.all_append,hJ,Bool.and_true,a24,v5]
 intro x hx
 rw [(List.mem_replicate.1 hx).2]
 exact hz
theorem zad {fid:Nat}(hf:E.fns fid=some ⟨qmr ty n bytes z,33,[.t 6]⟩)(hn:∀ x,(f x).length=n)(h1:∀ x,(f x).all XV.one=true)(hz:z.length=n)(hz1:z.all XV.one=true)(hzf:z.all XV.free1=true)(hW:∀ b,lo b→W b=true)(H:SlF f n ty v l c){i j:Int}(hd:qng l i j=some l2)(hS:Sep h lo (c++S)) :
  Ret E W fid [v,.int .i64 i,.int .i64 j] h (fun v' h'=>∃ rv rc,v'=rv∧SlF f n ty rv l2 rc∧Sep h' lo (rc++S)):=by
 obtain ⟨I,J,rfl,rfl,hij,hjl,rfl⟩:=qtg hd
 obtain ⟨b,cap,junk,rfl,hcp,hj,rfl,hjf⟩:=H.toB (by rintro rfl; simp at hjl; omega)
 have hb:=o9 _ _ _ hS
 have e1:(l.map f).flatten++junk=((l.take I).map f).flatten++((((l.take J).drop I).map f).flatten++(((l.drop J).map f).flatten++junk)):=by
  have h1:l.take I=(l.take J).take I:=by rw [List.take_take,Nat.min_eq_left (by omega)]
  have h0:l=l.take I++((l.take J).drop I++l.drop J):=by rw [←l5,h1,a1s,a1s]
  conv=>lhs; rw [h0]
  simp only [List.map_append,List.flatten_append,l5]
 rw [e1] at hb
 refine q82 hf hb (hW b (Sep.ge hS)) hij hjl hcp (by rw [u0 hn,a02]; congr 1; omega) (by rw [u0 hn,a1c,a02]; congr 1; omega) (by rw [u0 hn,a1c]) (qo4 h1) hz hz1 (fun cs1=>?_)
 have hS2:=Sep.set (Sep.set hS cs1) (((l.take I).map f).flatten++(((l.drop J).map f).flatten++((r8 (J - I) z).flatten++junk)))
 have hlen:(l.take I++l.drop J).length=I+(l.length - J):=by simp; omega
 refine ⟨_,[Blk1 b (((l.take I).map f).flatten++(((l.drop J).map f).flatten++((r8 (J - I) z).flatten++junk))) ty],rfl,.inr ⟨b,cap,(r8 (J - I) z).flatten++junk,by rw [hlen],by omega,?_,?_,fun hh=>q9l hzf (hjf hh)⟩,hS2⟩
 ·rw [hlen,p9,hj]
  have:(r8 (J - I) z).flatten.length=(J - I)*n:=by simp [hz]
  rw [this,← a1o]
  congr 1
  omega
 ·simp
theorem All3.take {css:List (List XV)}{oss:List (List Obj)}(H:All3 R l css oss) : ∀ i,All3 R (l.take i) (css.take i) (oss.take i):=by
 induction H with
 | nil=>intro i; simpa using .nil
 | cons h H ih =>
  intro i
  cases i with
  | zero=>exact .nil
  | succ i=>exact .cons h (ih i)
theorem All3.drop {css:List (List XV)}{oss:List (List Obj)}(H:All3 R l css oss) : ∀ i,All3 R (l.drop i) (css.drop i) (oss.drop i):=by
 induction H with
 | nil=>intro i; simpa using .nil
 | cons h H ih =>
  intro i
  cases i with
  | zero=>exact .cons h H
  | succ i=>exact ih i
end
section
variable {E:Env}{W:Nat→Bool}{h:Heap}{lo:Nat→Prop}{S:List Obj}{ty:TypeId}{l l2:List Int}{v x:XV}{c c2:List Obj}
theorem qlj:((l.map cI).flatten).all qkn=true:=by
 rw [a24,List.all_map,v5]
 intro a _
 rfl
theorem qpl:∀ a:Int,(cI a).length=1:=fun _=>rfl
theorem qq7 {cs junk:List XV}{b:Nat}{m:Nat}(hb:jg h b=some ⟨cs++junk,ty,true⟩)(hm:cs.length=m) : kf h b 0 m=some cs:=qh6 hb hm.symm
theorem qpn:((l.map cI).flatten).length=l.length:=by rw [u0 qpl,Nat.mul_one]
theorem qto {i:Int}{r:List Int × List Int}(h:qm5 l i l2=some r) : ∃ I:Nat,i=I∧I≤l.length∧0<l2.length∧(l.length+l2.length)*8≤70368744177664∧r=(l.take I++l2++l.drop I,l2):=by
 unfold qm5 at h
 split at h
 case isFalse=>cases h
 rename_i hc
 cases h
 exact ⟨i.toNat,by omega,by omega,by omega,by omega,rfl⟩
theorem zbu {fid:Nat}(hf:E.fns fid=none)(ho:E.orc fid=some (.ins ty))(hW:∀ b,lo b→W b=true)(H:SlF cI 1 ty v l c){i:Int}(H2:SlF cI 1 ty x l2 c2){r:List Int × List Int}(hr:qm5 l i l2=some r)(hS:Sep h lo (c++(c2++S))) :
  Ret E W fid [v,.int .i64 i,x] h (fun v' h'=>∃ rv rc ic,v'=rv∧SlF cI 1 ty rv r.1 rc∧SlF cI 1 ty x r.2 ic∧Sep h' lo (rc++(ic++S))):=by
 obtain ⟨I,rfl,hIl,hm,hb,rfl⟩:=qto hr
 obtain ⟨bx,capx,jx,rfl,hcx,hjx,rfl,hjfx⟩:=H2.toB (by rintro rfl; simp at hm)
 have hbx:=o9 _ _ _ (Sep.m1 hS)
 have key:∀ {v' h'},qho W [v,.int .i64 (I:Int),.row bx 0 l2.length capx] h (.ins ty)=some (v',h')→∀ {P:XV→Heap→Prop},P v' h'→Ret E W fid [v,.int .i64 (I:Int),.row bx 0 l2.length capx] h P:=by
  intro v' h' e P hP
  refine ⟨1,v',h',hP,fun n hn=>?_⟩
  obtain ⟨n,rfl⟩ : ∃ m,n=m+1:=⟨n - 1,by omega⟩
  simp only [wt,hf,ho]
  exact e
 have hgx:kf h bx 0 l2.length=some (l2.map cI).flatten:=qq7 hbx qpn
 rcases H with ⟨rfl,rfl,rfl⟩ | ⟨b,cap,junk,rfl,hcp,hj,rfl,hjf⟩
 ·have hI0:I=0:=by simpa using hIl
  subst hI0
  refine key (v' := .row h.length 0 l2.length l2.length) (h':=h++[⟨(l2.map cI).flatten,ty,true⟩]) ?_ ⟨_,[Blk1 h.length (l2.map cI).flatten ty],[Blk1 bx ((l2.map cI).flatten++jx) ty],rfl,?_,.inr ⟨bx,capx,jx,rfl,hcx,hjx,rfl,hjfx⟩,Sep.new hS _ ty⟩
  ·simp only [qho,hgx]
   rw [if_pos ⟨hm,a18 _,qlj⟩,if_pos ⟨rfl,by simpa using hb⟩]
  ·simpa using SlF.row0 (f:=cI) (n:=1) (ty:=ty) (l:=l2) (b:=h.length)
 ·have hbk:=o9 _ _ _ hS
  have hwb:=hW b (Sep.ge hS)
  have hne:b≠bx:=Sep.bne hS
  have hgo:kf h b 0 l.length=some (l.map cI).flatten:=qq7 hbk qpn
  have hk:=(Sep.kill hS).new ((l.map cI).flatten.take I++(l2.map cI).flatten++(l.map cI).flatten.drop I) ty
  rw [kt] at hk
  have e1:(l.map cI).flatten.take I++(l2.map cI).flatten++(l.map cI).flatten.drop I=((l.take I++l2++l.drop I).map cI).flatten:=by
   have a1:=qnk (f:=cI) (l:=l) qpl hIl
   have a2:=qpa (f:=cI) (l:=l) qpl hIl
   rw [Nat.mul_one] at a1 a2
   rw [a1,a2]
   simp
  have hl3:(l.take I++l2++l.drop I).length=l.length+l2.length:=by simp; omega
  refine key (v' := .row h.length 0 (l.length+l2.length) (l.length+l2.length)) (h':=kill h b++[⟨(l.map cI).flatten.take I++(l2.map cI).flatten++(l.map cI).flatten.drop I,ty,true⟩]) ?_ ⟨_,[Blk1 h.length ((l.take I++l2++l.drop I).map cI).flatten ty],[Blk1 bx ((l2.map cI).flatten++jx) ty],rfl,?_,.inr ⟨bx,capx,jx,rfl,hcx,hjx,rfl,hjfx⟩,?_⟩
  ·simp only [qho,hgx,hbk,hgo]
   rw [if_pos ⟨hm,a18 _,qlj⟩,if_pos ⟨by omega,hwb,trivial,hne,qlj,hb⟩,a0v]
  ·rw [←hl3]
   exact SlF.row0
  ·rw [←e1]
   exact hk
end
end Go.Proofs.Ytohofoampalhoaa.X
