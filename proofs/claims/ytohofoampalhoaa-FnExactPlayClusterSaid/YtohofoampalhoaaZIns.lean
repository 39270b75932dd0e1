/- slices.Delete of owned rows, by its code; slices.Insert of owned rows of numbers, by what it answers. -/
import Derived.Test.YtohofoampalhoaaZSlW
open Int renaming natCast_nonneg→a29,toNat_natCast→a1o
open List renaming all_eq_true→a04,all_flatten→a33,append_assoc→a0f,drop_drop→a15,drop_left→a3r,length_append→a0p,length_drop→a2b,length_take→a1t,replicate→a0y,take_append_drop→a2h,take_left→a3e
open Nat renaming add_mul→a2q,le_refl→a0m,reduceEqDiff→a9,zero_add→s9
open Option renaming getD_none→a1d,getD_some→a07,map_none→a1k,map_some→a02
set_option linter.unusedVariables false
set_option linter.unusedSimpArgs false
namespace Go.Proofs.Ytohofoampalhoaa.X
open Go
def qne (ty n bytes:Nat)(z:List XV) : XCode:=(.seq (.reg false [⟨(some 6),(.mv (.c .nil)),none,0⟩]) (.seq (.reg false [⟨(some 8),(.mv (.t 0)),none,0⟩,⟨(some 9),(.mv (.t 1)),none,0⟩,⟨(some 10),(.mv (.t 2)),none,0⟩,⟨(some 11),(.mv (.t 0)),none,0⟩,⟨(some 12),(.len (.t 11)),none,0⟩,⟨(some 13),(.slc ty n (.t 8) (some (.t 9)) (some (.t 10)) (some (.t 12))),none,0⟩]) (.seq (.seq (.reg false [⟨(some 14),(.mv (.t 1)),none,0⟩,⟨(some 15),(.mv (.t 2)),none,0⟩,⟨(some 16),(.bin .eql (.t 14) (.t 15)),none,0⟩]) (.cond (.t 16) (.seq (.reg false [⟨(some 17),(.mv (.t 0)),none,0⟩,⟨(some 6),(.mv (.t 17)),none,0⟩]) .ret) .skip)) (.seq (.reg false [⟨(some 18),(.mv (.t 0)),none,0⟩,⟨(some 19),(.len (.t 18)),none,0⟩,⟨(some 7),(.mv (.t 19)),none,0⟩]) (.seq (.reg true [⟨(some 20),(.mv (.t 0)),none,4⟩,⟨(some 21),(.mv (.t 1)),none,4⟩,⟨(some 22),(.slc ty n (.t 20) none (some (.t 21)) none),none,4⟩,⟨(some 23),(.mv (.t 0)),none,4⟩,⟨(some 24),(.mv (.t 2)),none,4⟩,⟨(some 25),(.slc ty n (.t 23) (some (.t 24)) none none),none,4⟩,⟨(some 26),(.app ty n bytes (.t 22) (.t 25)),none,3⟩,⟨(some 0),(.mv (.t 26)),none,4⟩]) (.seq (.reg false [⟨(some 27),(.mv (.t 0)),none,0⟩,⟨(some 28),(.mv (.t 0)),none,0⟩,⟨(some 29),(.len (.t 28)),none,0⟩,⟨(some 30),(.mv (.t 7)),none,0⟩,⟨(some 31),(.slc ty n (.t 27) (some (.t 29)) (some (.t 30)) none),none,0⟩,⟨none,(.clr ty z (.t 31)),none,0⟩]) (.seq (.reg false [⟨(some 32),(.mv (.t 0)),none,0⟩,⟨(some 6),(.mv (.t 32)),none,0⟩]) .ret)))))))
def qm8 {α:Type}(l:List α)(i j:Int) : Option (List α):=if 0≤i∧i<j∧j≤l.length then some (l.take i.toNat++l.drop j.toNat) else none
def qnb (l:List Int)(i:Int)(l2:List Int) : Option (List Int × List Int):=if 0≤i∧i≤l.length∧0<l2.length∧(l.length+l2.length)*8≤70368744177664 then some (l.take i.toNat++l2++l.drop i.toNat,l2) else none
section
variable {E:Env}{W:Nat→Bool}{k:List It}{Q:XV→Heap→Prop}{h:Heap}{lo:Nat→Prop}{S:List Obj}{b:Nat}{ty:TypeId}{α:Type}{R:Rep α}{f:α→List XV}{l l2 l3:List α}{sz:TypeId→Nat}{n bytes:Nat}{v x:XV}{c c2:List Obj}{z cs:List XV}

theorem qsb {A B C J Z:List XV}(hz:Z.length=B.length) : j0 (j0 (A++(B++(C++J))) A.length C) (A.length+C.length) Z=A++(C++(Z++J)):=by
 have e1:j0 (A++(B++(C++J))) A.length C=A++(C++(A++(B++(C++J))).drop (A.length+C.length)):=by
  unfold j0; rw [a3e,a0f]
 rw [e1]
 generalize hD:(A++(B++(C++J))).drop (A.length+C.length)=D
 have e2:j0 (A++(C++D)) (A.length+C.length) Z=A++(C++(Z++D.drop Z.length)):=by
  unfold j0
  rw [←a0f A C D,← a0p,a3e,← a15,a3r]
  simp
 rw [e2,← hD,a15,hz,show A.length+C.length+B.length=(A++(B++C)).length by simp; omega,show A++(B++(C++J))=(A++(B++C))++J by simp,a3r]

theorem qmu (hb:jb h b=some ⟨cs,ty,true⟩) : (h[b]?).map Blk.ty=some ty:=by
 unfold jb at hb
 split at hb
 ·rename_i kb hk
  rw [hk]
  split at hb
  ·cases hb; rfl
  ·cases hb
 ·cases hb
theorem qsg {cs':List XV}(hb:jb h b=some ⟨cs,ty,true⟩) : jb (h.set b ⟨cs',ty,true⟩) b=some ⟨cs',ty,true⟩:=by
 have hlt:b<h.length:=(qbt hb).2.2
 simp [jb,List.getElem?_set,hlt]
theorem qt7 {E:Env}{W:Nat→Bool}{k:List It}{Q:QE}{fr:Fr}{d:Option Nat}{r:List XOper}{v:XV}{h:Heap} : Put2 E W (some (v,h)) d r k Q fr=Run E W (.ops r::k) Q (fr.put d v) h:=(rfl)
theorem qsp {E:Env}{W:Nat→Bool}{k:List It}{Q:QE}{fr:Fr}{d:Option Nat}{r:List XOper}{v:XV}{h:Heap}{hs:Nat}{ld wr:List Nat} : Put2D E W (some (v,h)) d hs r ld wr k Q fr=Run E W (.draw hs r ld wr::k) Q (fr.put d v) h:=(rfl)

theorem q9k {fid:Nat}(hf:E.fns fid=some ⟨qne ty n bytes z,33,[.t 6]⟩){len cap i j:Nat}{A B C J:List XV}(hb:jb h b=some ⟨A++(B++(C++J)),ty,true⟩)(hWb:W b=true)(hij:i<j)(hjl:j≤len)(hlc:len≤cap)
  (hA:A.length=i*n) (hB:B.length=(j - i)*n) (hC:C.length=(len - j)*n) (h1:C.all XV.one=true) (hz:z.length=n) (hz1:z.all XV.one=true)
  (K:∀ cs1,Q (.row b 0 (i+(len - j)) cap) ((h.set b ⟨cs1,ty,true⟩).set b ⟨A++(C++((a0y (j - i) z).flatten++J)),ty,true⟩)) : Ret E W fid [.row b 0 len cap,.int .i64 (i:Int),.int .i64 (j:Int)] h Q:=by
 have hAB:(A++B).length=j*n:=by rw [a0p,hA,hB,← a2q]; congr 1; omega
 have hZ:(a0y (j - i) z).flatten.length=(j - i)*n:=by simp [hz]
 refine Ret.of hf (Run.of ?_)
 have zf0:zb [.row b 0 len cap,.int .i64 (i:Int),.int .i64 (j:Int)] 0 = .row b 0 len cap:=rfl
 have zf1:zb [.row b 0 len cap,.int .i64 (i:Int),.int .i64 (j:Int)] 1 = .int .i64 (i:Int):=rfl
 have zf2:zb [.row b 0 len cap,.int .i64 (i:Int),.int .i64 (j:Int)] 2 = .int .i64 (j:Int):=rfl
 generalize zb [.row b 0 len cap,.int .i64 (i:Int),.int .i64 (j:Int)]=fr0 at zf0 zf1 zf2 ⊢
 simp only [qne,qe,qc,qa,qd,zy,qb,qln,qes,zf0,zf1,zf2,a02,a1k,B0,reduceIte,a9]
 refine qg (v := .row b (0+i*n) (j - i) (len - i)) ?_ ?_
 ·simp only [um,ye,a29,if_true,a1o,wh,a07]
  rw [if_pos ⟨by omega,hjl,hlc,fun _=>rfl,qmu hb⟩]
 simp only [qa,qe,qc,qd,qv,zf0,zf1,zf2,B0,reduceIte,a9]
 refine qg (v := .bool false) ?_ ?_
 ·simp only [xp,if_true]
  rw [show ((i:Int) == (j:Int))=false by simp; omega]
 simp only [qa,qe,qc,qy,qcl,zf,qd,zy,qb,qln,js,zv,qk,qm3,zf0,zf1,zf2,a02,a1k,B0,reduceIte,a9]
 refine qt (v := .row b 0 i cap) ?_ ?_
 ·simp only [um,ye,a29,if_true,a1o,wh,a07,a1d]
  rw [if_pos ⟨Nat.zero_le _,by omega,a0m _,(fun h=>by cases h),qmu hb⟩]
  simp
 simp only [zv,qk,qm3,zf0,zf1,zf2,a02,a1k,B0,reduceIte,a9]
 refine qt (v := .row b (0+j*n) (len - j) (cap - j)) ?_ ?_
 ·simp only [um,ye,a29,if_true,a1o,wh,a07,a1d]
  rw [if_pos ⟨hjl,hlc,a0m _,(fun h=>by cases h),qmu hb⟩]
 simp only [qf8,B0,reduceIte,a9]
 have e1:qba W h ty n bytes (.row b 0 i cap) (.row b (0+j*n) (len - j) (cap - j))=some (.row b 0 (i+(len - j)) cap,h.set b ⟨j0 (A++(B++(C++J))) (0+i*n) C,ty,true⟩):=by
  have hfo:yi h n (.row b (0+j*n) (len - j) (cap - j))=some (len - j,C):=by
   unfold yi
   dsimp only
   rw [qg1 hb,if_pos (by simp only [a0p] at hAB ⊢; omega),s9,← hAB,← a0f A B,a3r,← hC,a3e]
  unfold qba
  simp only [ze,XO.ev,hfo]
  rw [if_pos (by omega),ql6 hWb hb (by simp only [a0p] at hAB ⊢; omega) h1]
 rw [e1,qsp]
 simp only [zv,qk,zc,qe,qc,qd,zy,qb,qln,qes,a02,a1k,B0,reduceIte,a9]
 have hb1:=qsg (cs':=j0 (A++(B++(C++J))) (0+i*n) C) hb
 refine qg (v := .row b (0+(i+(len - j))*n) (len - (i+(len - j))) (cap - (i+(len - j)))) ?_ ?_
 ·simp only [um,ye,a29,if_true,a1o,wh,a07,a1d]
  rw [if_pos ⟨by omega,hlc,a0m _,(fun h=>by cases h),qmu hb1⟩]
 simp only [q9p,B0,reduceIte,a9]
 have hsl:(j0 (A++(B++(C++J))) (0+i*n) C).length=(A++(B++(C++J))).length:=qeh _ _ _ (by simp only [a0p] at hAB ⊢; omega)
 have e2:qyt W (h.set b ⟨j0 (A++(B++(C++J))) (0+i*n) C,ty,true⟩) ty z (.row b (0+(i+(len - j))*n) (len - (i+(len - j))) (cap - (i+(len - j))))=some (.tup [],(h.set b ⟨j0 (A++(B++(C++J))) (0+i*n) C,ty,true⟩).set b ⟨A++(C++((a0y (j - i) z).flatten++J)),ty,true⟩):=by
  have e0:qyt W (h.set b ⟨j0 (A++(B++(C++J))) (0+i*n) C,ty,true⟩) ty z (.row b (0+(i+(len - j))*n) (len - (i+(len - j))) (cap - (i+(len - j))))=if len - (i+(len - j))=0 then some (.tup [],h.set b ⟨j0 (A++(B++(C++J))) (0+i*n) C,ty,true⟩) else (match setCells W (h.set b ⟨j0 (A++(B++(C++J))) (0+i*n) C,ty,true⟩) b (0+(i+(len - j))*n) (a0y (len - (i+(len - j))) z).flatten with | some h'=>some (.tup [],h') | none=>none):=rfl
  have e3:len - (i+(len - j))=j - i:=by omega
  have e4:(i+(len - j))*n=A.length+C.length:=by rw [a2q,hA,hC]
  rw [e0,if_neg (by omega),e3,ql6 hWb hb1 (by rw [hsl,hZ,e4]; simp only [a0p] at hAB ⊢; omega) (by
   rw [a33,a04]
   intro x hx
   rw [(List.mem_replicate.1 hx).2]
   exact hz1),s9,s9,e4,← hA,qsb (by rw [hZ,hB])]
 rw [e2,qt7]
 simp only [qa,qe,qc,qd,qw,q9,B0,reduceIte,a9]
 exact K _
theorem SlF.toB (H:SlF f n ty v l c)(h0:l≠[]) : ∃ b cap junk,v = .row b 0 l.length cap∧l.length≤cap∧junk.length=(cap - l.length)*n∧c=[Blk1 b ((l.map f).flatten++junk) ty]∧((∀ x,(f x).all XV.free1=true)→junk.all XV.free1=true):=by
 rcases H with ⟨_,rfl,_⟩ | ⟨b,cap,junk,h1⟩
 ·exact absurd rfl h0
 ·exact ⟨b,cap,junk,h1⟩
theorem qwu {i j:Int}(h:qm8 l i j=some l2) : ∃ I J:Nat,i=I∧j=J∧I<J∧J≤l.length∧l2=l.take I++l.drop J:=by
 unfold qm8 at h
 split at h
 case isFalse=>cases h
 rename_i hc
 cases h
 exact ⟨i.toNat,j.toNat,by omega,by omega,by omega,by omega,rfl⟩
theorem q9v (hz:z.all XV.free1=true){m:Nat}{J:List XV}(hJ:J.all XV.free1=true) : ((a0y m z).flatten++J).all XV.free1=true:=by
 rw [List.all_append,hJ,Bool.and_true,a33,a04]
 intro x hx
 rw [(List.mem_replicate.1 hx).2]
 exact hz
theorem zac {fid:Nat}(hf:E.fns fid=some ⟨qne ty n bytes z,33,[.t 6]⟩)(hn:∀ x,(f x).length=n)(h1:∀ x,(f x).all XV.one=true)(hz:z.length=n)(hz1:z.all XV.one=true)(hzf:z.all XV.free1=true)(hW:∀ b,lo b→W b=true)(H:SlF f n ty v l c){i j:Int}(hd:qm8 l i j=some l2)(hS:Sep h lo (c++S)) :
  Ret E W fid [v,.int .i64 i,.int .i64 j] h (fun v' h'=>∃ rv rc,v'=rv∧SlF f n ty rv l2 rc∧Sep h' lo (rc++S)):=by
 obtain ⟨I,J,rfl,rfl,hij,hjl,rfl⟩:=qwu hd
 obtain ⟨b,cap,junk,rfl,hcp,hj,rfl,hjf⟩:=H.toB (by rintro rfl; simp at hjl; omega)
 have hb:=Sep.bk _ _ _ hS
 have e1:(l.map f).flatten++junk=((l.take I).map f).flatten++((((l.take J).drop I).map f).flatten++(((l.drop J).map f).flatten++junk)):=by
  have h1:l.take I=(l.take J).take I:=by rw [List.take_take,Nat.min_eq_left (by omega)]
  have h0:l=l.take I++((l.take J).drop I++l.drop J):=by rw [←a0f,h1,a2h,a2h]
  conv=>lhs; rw [h0]
  simp only [List.map_append,List.flatten_append,a0f]
 rw [e1] at hb
 refine q9k hf hb (hW b (Sep.ge hS)) hij hjl hcp (by rw [qad hn,a1t]; congr 1; omega) (by rw [qad hn,a2b,a1t]; congr 1; omega) (by rw [qad hn,a2b]) (qp2 h1) hz hz1 (fun cs1=>?_)
 have hS2:=Sep.set (Sep.set hS cs1) (((l.take I).map f).flatten++(((l.drop J).map f).flatten++((a0y (J - I) z).flatten++junk)))
 have hlen:(l.take I++l.drop J).length=I+(l.length - J):=by simp; omega
 refine ⟨_,[Blk1 b (((l.take I).map f).flatten++(((l.drop J).map f).flatten++((a0y (J - I) z).flatten++junk))) ty],rfl,.inr ⟨b,cap,(a0y (J - I) z).flatten++junk,by rw [hlen],by omega,?_,?_,fun hh=>q9v hzf (hjf hh)⟩,hS2⟩
 ·rw [hlen,a0p,hj]
  have:(a0y (J - I) z).flatten.length=(J - I)*n:=by simp [hz]
  rw [this,← a2q]
  congr 1
  omega
 ·simp
theorem All3.take {css:List (List XV)}{oss:List (List Obj)}(H:All3 R l css oss) : ∀ i,All3 R (l.take i) (css.take i) (oss.take i):=by
 induction H with
 | nil=>intro i; simpa using .nil
 | cons h H ih =>
  intro i
  cases i with
  | zero=>exact .nil
  | succ i=>exact .cons h (ih i)
theorem All3.drop {css:List (List XV)}{oss:List (List Obj)}(H:All3 R l css oss) : ∀ i,All3 R (l.drop i) (css.drop i) (oss.drop i):=by
 induction H with
 | nil=>intro i; simpa using .nil
 | cons h H ih =>
  intro i
  cases i with
  | zero=>exact .cons h H
  | succ i=>exact ih i
end
section
variable {E:Env}{W:Nat→Bool}{h:Heap}{lo:Nat→Prop}{S:List Obj}{ty:TypeId}{l l2:List Int}{v x:XV}{c c2:List Obj}
theorem qlw:((l.map cI).flatten).all qkw=true:=by
 rw [a33,List.all_map,a04]
 intro a _
 rfl
theorem qpi:∀ a:Int,(cI a).length=1:=fun _=>rfl
theorem qrj {cs junk:List XV}{b:Nat}{m:Nat}(hb:jb h b=some ⟨cs++junk,ty,true⟩)(hm:cs.length=m) : kg h b 0 m=some cs:=qiw hb hm.symm
theorem qpn:((l.map cI).flatten).length=l.length:=by rw [qad qpi,Nat.mul_one]
theorem qty {i:Int}{r:List Int × List Int}(h:qnb l i l2=some r) : ∃ I:Nat,i=I∧I≤l.length∧0<l2.length∧(l.length+l2.length)*8≤70368744177664∧r=(l.take I++l2++l.drop I,l2):=by
 unfold qnb at h
 split at h
 case isFalse=>cases h
 rename_i hc
 cases h
 exact ⟨i.toNat,by omega,by omega,by omega,by omega,rfl⟩
theorem zdc {fid:Nat}(hf:E.fns fid=none)(ho:E.orc fid=some (.ins ty))(hW:∀ b,lo b→W b=true)(H:SlF cI 1 ty v l c){i:Int}(H2:SlF cI 1 ty x l2 c2){r:List Int × List Int}(hr:qnb l i l2=some r)(hS:Sep h lo (c++(c2++S))) :
  Ret E W fid [v,.int .i64 i,x] h (fun v' h'=>∃ rv rc ic,v'=rv∧SlF cI 1 ty rv r.1 rc∧SlF cI 1 ty x r.2 ic∧Sep h' lo (rc++(ic++S))):=by
 obtain ⟨I,rfl,hIl,hm,hb,rfl⟩:=qty hr
 obtain ⟨bx,capx,jx,rfl,hcx,hjx,rfl,hjfx⟩:=H2.toB (by rintro rfl; simp at hm)
 have hbx:=Sep.bk _ _ _ (Sep.m1 hS)
 have key:∀ {v' h'},qie W [v,.int .i64 (I:Int),.row bx 0 l2.length capx] h (.ins ty)=some (v',h')→∀ {P:XV→Heap→Prop},P v' h'→Ret E W fid [v,.int .i64 (I:Int),.row bx 0 l2.length capx] h P:=by
  intro v' h' e P hP
  refine ⟨1,v',h',hP,fun n hn=>?_⟩
  obtain ⟨n,rfl⟩ : ∃ m,n=m+1:=⟨n - 1,by omega⟩
  simp only [wz,hf,ho]
  exact e
 have hgx:kg h bx 0 l2.length=some (l2.map cI).flatten:=qrj hbx qpn
 rcases H with ⟨rfl,rfl,rfl⟩ | ⟨b,cap,junk,rfl,hcp,hj,rfl,hjf⟩
 ·have hI0:I=0:=by simpa using hIl
  subst hI0
  refine key (v' := .row h.length 0 l2.length l2.length) (h':=h++[⟨(l2.map cI).flatten,ty,true⟩]) ?_ ⟨_,[Blk1 h.length (l2.map cI).flatten ty],[Blk1 bx ((l2.map cI).flatten++jx) ty],rfl,?_,.inr ⟨bx,capx,jx,rfl,hcx,hjx,rfl,hjfx⟩,Sep.new hS _ ty⟩
  ·simp only [qie,hgx]
   rw [if_pos ⟨hm,a29 _,qlw⟩,if_pos ⟨rfl,by simpa using hb⟩]
  ·simpa using SlF.row0 (f:=cI) (n:=1) (ty:=ty) (l:=l2) (b:=h.length)
 ·have hbk:=Sep.bk _ _ _ hS
  have hwb:=hW b (Sep.ge hS)
  have hne:b≠bx:=Sep.bne hS
  have hgo:kg h b 0 l.length=some (l.map cI).flatten:=qrj hbk qpn
  have hk:=(Sep.kill hS).new ((l.map cI).flatten.take I++(l2.map cI).flatten++(l.map cI).flatten.drop I) ty
  rw [kr] at hk
  have e1:(l.map cI).flatten.take I++(l2.map cI).flatten++(l.map cI).flatten.drop I=((l.take I++l2++l.drop I).map cI).flatten:=by
   have a1:=qnj (f:=cI) (l:=l) qpi hIl
   have a2:=qpq (f:=cI) (l:=l) qpi hIl
   rw [Nat.mul_one] at a1 a2
   rw [a1,a2]
   simp
  have hl3:(l.take I++l2++l.drop I).length=l.length+l2.length:=by simp; omega
  refine key (v' := .row h.length 0 (l.length+l2.length) (l.length+l2.length)) (h':=kill h b++[⟨(l.map cI).flatten.take I++(l2.map cI).flatten++(l.map cI).flatten.drop I,ty,true⟩]) ?_ ⟨_,[Blk1 h.length ((l.take I++l2++l.drop I).map cI).flatten ty],[Blk1 bx ((l2.map cI).flatten++jx) ty],rfl,?_,.inr ⟨bx,capx,jx,rfl,hcx,hjx,rfl,hjfx⟩,?_⟩
  ·simp only [qie,hgx,hbk,hgo]
   rw [if_pos ⟨hm,a29 _,qlw⟩,if_pos ⟨by omega,hwb,trivial,hne,qlw,hb⟩,a1o]
  ·rw [←hl3]
   exact SlF.row0
  ·rw [←e1]
   exact hk
end
end Go.Proofs.Ytohofoampalhoaa.X
