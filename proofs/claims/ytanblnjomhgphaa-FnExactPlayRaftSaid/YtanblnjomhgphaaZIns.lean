/- slices.Delete of owned rows, by its code; slices.Insert of owned rows of numbers, by what it answers. -/
import Derived.Test.YtanblnjomhgphaaZSlW
open Int renaming natCast_nonneg→a32,toNat_natCast→a0w
open List renaming all_eq_true→a0r,append_assoc→r9,drop_drop→a2h,drop_left→a22,flatten_append→a1j,length_append→t4,length_drop→a0v,length_take→a0f,mem_of_mem_drop→a2q,mem_of_mem_take→a26,perm_append_comm→a3j,replicate→a0l,take_append_drop→a11,take_left→a2u,take_take→a1v
open Nat renaming add_mul→a12,le_refl→t9,min_eq_left→a1q,reduceEqDiff→a8,zero_add→n8
open Option renaming getD_none→a0n,getD_some→a0m,map_none→a1e,map_some→a0p
set_option linter.unusedVariables false
set_option linter.unusedSimpArgs false
namespace Go.Proofs.Ytanblnjomhgphaa.X
open Go
def qj1 (ty n bytes:Nat)(z:List XV) : XCode:=(.seq (.reg false [⟨(some 6),(.mv (.c .nil)),none,0⟩]) (.seq (.reg false [⟨(some 8),(.mv (.t 0)),none,0⟩,⟨(some 9),(.mv (.t 1)),none,0⟩,⟨(some 10),(.mv (.t 2)),none,0⟩,⟨(some 11),(.mv (.t 0)),none,0⟩,⟨(some 12),(.len (.t 11)),none,0⟩,⟨(some 13),(.slc ty n (.t 8) (some (.t 9)) (some (.t 10)) (some (.t 12))),none,0⟩]) (.seq (.seq (.reg false [⟨(some 14),(.mv (.t 1)),none,0⟩,⟨(some 15),(.mv (.t 2)),none,0⟩,⟨(some 16),(.bin .eql (.t 14) (.t 15)),none,0⟩]) (.cond (.t 16) (.seq (.reg false [⟨(some 17),(.mv (.t 0)),none,0⟩,⟨(some 6),(.mv (.t 17)),none,0⟩]) .ret) .skip)) (.seq (.reg false [⟨(some 18),(.mv (.t 0)),none,0⟩,⟨(some 19),(.len (.t 18)),none,0⟩,⟨(some 7),(.mv (.t 19)),none,0⟩]) (.seq (.reg true [⟨(some 20),(.mv (.t 0)),none,4⟩,⟨(some 21),(.mv (.t 1)),none,4⟩,⟨(some 22),(.slc ty n (.t 20) none (some (.t 21)) none),none,4⟩,⟨(some 23),(.mv (.t 0)),none,4⟩,⟨(some 24),(.mv (.t 2)),none,4⟩,⟨(some 25),(.slc ty n (.t 23) (some (.t 24)) none none),none,4⟩,⟨(some 26),(.app ty n bytes (.t 22) (.t 25)),none,3⟩,⟨(some 0),(.mv (.t 26)),none,4⟩]) (.seq (.reg false [⟨(some 27),(.mv (.t 0)),none,0⟩,⟨(some 28),(.mv (.t 0)),none,0⟩,⟨(some 29),(.len (.t 28)),none,0⟩,⟨(some 30),(.mv (.t 7)),none,0⟩,⟨(some 31),(.slc ty n (.t 27) (some (.t 29)) (some (.t 30)) none),none,0⟩,⟨none,(.clr ty z (.t 31)),none,0⟩]) (.seq (.reg false [⟨(some 32),(.mv (.t 0)),none,0⟩,⟨(some 6),(.mv (.t 32)),none,0⟩]) .ret)))))))
def qm6 {α:Type}(l:List α)(i j:Int) : Option (List α):=if 0≤i∧i<j∧j≤l.length then some (l.take i.toNat++l.drop j.toNat) else none
section
variable {E:Env}{W:Nat→Bool}{k:List It}{Q:XV→Heap→Prop}{h:Heap}{lo:Nat→Prop}{S:List Obj}{b:Nat}{ty:TypeId}{α:Type}{R:Rep α}{f:α→List XV}{l l2 l3:List α}{sz:TypeId→Nat}{n bytes:Nat}{v x:XV}{c c2:List Obj}{z cs:List XV}

theorem qq3 {A B C J Z:List XV}(hz:Z.length=B.length) : jr (jr (A++(B++(C++J))) A.length C) (A.length+C.length) Z=A++(C++(Z++J)):=by
 have e1:jr (A++(B++(C++J))) A.length C=A++(C++(A++(B++(C++J))).drop (A.length+C.length)):=by
  unfold jr; rw [a2u,r9]
 rw [e1]
 generalize hD:(A++(B++(C++J))).drop (A.length+C.length)=D
 have e2:jr (A++(C++D)) (A.length+C.length) Z=A++(C++(Z++D.drop Z.length)):=by
  unfold jr
  rw [←r9 A C D,← t4,a2u,← a2h,a22]
  simp
 rw [e2,← hD,a2h,hz,show A.length+C.length+B.length=(A++(B++C)).length by simp; omega,show A++(B++(C++J))=(A++(B++C))++J by simp,a22]

theorem qlf (hb:zy h b=some ⟨cs,ty,true⟩) : (h[b]?).map Blk.ty=some ty:=by
 unfold zy at hb
 split at hb
 ·rename_i kb hk
  rw [hk]
  split at hb
  ·cases hb; rfl
  ·cases hb
 ·cases hb
theorem qqx {cs':List XV}(hb:zy h b=some ⟨cs,ty,true⟩) : zy (h.set b ⟨cs',ty,true⟩) b=some ⟨cs',ty,true⟩:=by
 have hlt:b<h.length:=(qbe hb).2.2
 simp [zy,List.getElem?_set,hlt]
theorem qzi {E:Env}{W:Nat→Bool}{k:List It}{Q:QE}{fr:Fr}{d:Option Nat}{r:List XOper}{v:XV}{h:Heap} : Put2 E W (some (v,h)) d r k Q fr=Run E W (.ops r::k) Q (fr.put d v) h:=(rfl)
theorem qrj {E:Env}{W:Nat→Bool}{k:List It}{Q:QE}{fr:Fr}{d:Option Nat}{r:List XOper}{v:XV}{h:Heap}{hs:Nat}{ld wr:List Nat} : Put2D E W (some (v,h)) d hs r ld wr k Q fr=Run E W (.draw hs r ld wr::k) Q (fr.put d v) h:=(rfl)

theorem qqf {fid:Nat}(hf:E.fns fid=some ⟨qj1 ty n bytes z,33,[.t 6]⟩){len cap i j:Nat}{A B C J:List XV}(hb:zy h b=some ⟨A++(B++(C++J)),ty,true⟩)(hWb:W b=true)(hij:i<j)(hjl:j≤len)(hlc:len≤cap)
  (hA:A.length=i*n) (hB:B.length=(j - i)*n) (hC:C.length=(len - j)*n) (h1:C.all XV.one=true) (hz:z.length=n) (hz1:z.all XV.one=true)
  (K:∀ cs1,Q (.row b 0 (i+(len - j)) cap) ((h.set b ⟨cs1,ty,true⟩).set b ⟨A++(C++((a0l (j - i) z).flatten++J)),ty,true⟩)) : Ret E W fid [.row b 0 len cap,.int .i64 (i:Int),.int .i64 (j:Int)] h Q:=by
 have hAB:(A++B).length=j*n:=by rw [t4,hA,hB,← a12]; congr 1; omega
 have hZ:(a0l (j - i) z).flatten.length=(j - i)*n:=by simp [hz]
 refine Ret.of hf (Run.of ?_)
 have zf0:zf [.row b 0 len cap,.int .i64 (i:Int),.int .i64 (j:Int)] 0 = .row b 0 len cap:=rfl
 have zf1:zf [.row b 0 len cap,.int .i64 (i:Int),.int .i64 (j:Int)] 1 = .int .i64 (i:Int):=rfl
 have zf2:zf [.row b 0 len cap,.int .i64 (i:Int),.int .i64 (j:Int)] 2 = .int .i64 (j:Int):=rfl
 generalize zf [.row b 0 len cap,.int .i64 (i:Int),.int .i64 (j:Int)]=fr0 at zf0 zf1 zf2 ⊢
 simp only [qj1,qd,qc,qa,qe,zr,qb,qkz,qmi,zf0,zf1,zf2,a0p,a1e,B0,reduceIte,a8]
 refine qf (v := .row b (0+i*n) (j - i) (len - i)) ?_ ?_
 ·simp only [ww,ky,a32,if_true,a0w,yy,a0m]
  rw [if_pos ⟨by omega,hjl,hlc,fun _=>rfl,qlf hb⟩]
 simp only [qa,qd,qc,qe,qq,zf0,zf1,zf2,B0,reduceIte,a8]
 refine qf (v := .bool false) ?_ ?_
 ·simp only [wj,if_true]
  rw [show ((i:Int) == (j:Int))=false by simp; omega]
 simp only [qa,qd,qc,qv,qit,qw,qe,zr,qb,qkz,z9,zx,qh,qlp,zf0,zf1,zf2,a0p,a1e,B0,reduceIte,a8]
 refine qo (v := .row b 0 i cap) ?_ ?_
 ·simp only [ww,ky,a32,if_true,a0w,yy,a0m,a0n]
  rw [if_pos ⟨Nat.zero_le _,by omega,t9 _,(fun h=>by cases h),qlf hb⟩]
  simp
 simp only [zx,qh,qlp,zf0,zf1,zf2,a0p,a1e,B0,reduceIte,a8]
 refine qo (v := .row b (0+j*n) (len - j) (cap - j)) ?_ ?_
 ·simp only [ww,ky,a32,if_true,a0w,yy,a0m,a0n]
  rw [if_pos ⟨hjl,hlc,t9 _,(fun h=>by cases h),qlf hb⟩]
 simp only [qfz,B0,reduceIte,a8]
 have e1:wx W h ty n bytes (.row b 0 i cap) (.row b (0+j*n) (len - j) (cap - j))=some (.row b 0 (i+(len - j)) cap,h.set b ⟨jr (A++(B++(C++J))) (0+i*n) C,ty,true⟩):=by
  have hfo:k8 h n (.row b (0+j*n) (len - j) (cap - j))=some (len - j,C):=by
   unfold k8
   dsimp only
   rw [qfe hb,if_pos (by simp only [t4] at hAB ⊢; omega),n8,← hAB,← r9 A B,a22,← hC,a2u]
  unfold wx
  simp only [q8,XO.ev,hfo]
  rw [if_pos (by omega),qj4 hWb hb (by simp only [t4] at hAB ⊢; omega) h1]
 rw [e1,qrj]
 simp only [zx,qh,za,qd,qc,qe,zr,qb,qkz,qmi,a0p,a1e,B0,reduceIte,a8]
 have hb1:=qqx (cs':=jr (A++(B++(C++J))) (0+i*n) C) hb
 refine qf (v := .row b (0+(i+(len - j))*n) (len - (i+(len - j))) (cap - (i+(len - j)))) ?_ ?_
 ·simp only [ww,ky,a32,if_true,a0w,yy,a0m,a0n]
  rw [if_pos ⟨by omega,hlc,t9 _,(fun h=>by cases h),qlf hb1⟩]
 simp only [zal,B0,reduceIte,a8]
 have hsl:(jr (A++(B++(C++J))) (0+i*n) C).length=(A++(B++(C++J))).length:=qd0 _ _ _ (by simp only [t4] at hAB ⊢; omega)
 have e2:q1a W (h.set b ⟨jr (A++(B++(C++J))) (0+i*n) C,ty,true⟩) ty z (.row b (0+(i+(len - j))*n) (len - (i+(len - j))) (cap - (i+(len - j))))=some (.tup [],(h.set b ⟨jr (A++(B++(C++J))) (0+i*n) C,ty,true⟩).set b ⟨A++(C++((a0l (j - i) z).flatten++J)),ty,true⟩):=by
  have e0:q1a W (h.set b ⟨jr (A++(B++(C++J))) (0+i*n) C,ty,true⟩) ty z (.row b (0+(i+(len - j))*n) (len - (i+(len - j))) (cap - (i+(len - j))))=if len - (i+(len - j))=0 then some (.tup [],h.set b ⟨jr (A++(B++(C++J))) (0+i*n) C,ty,true⟩) else (match setCells W (h.set b ⟨jr (A++(B++(C++J))) (0+i*n) C,ty,true⟩) b (0+(i+(len - j))*n) (a0l (len - (i+(len - j))) z).flatten with | some h'=>some (.tup [],h') | none=>none):=rfl
  have e3:len - (i+(len - j))=j - i:=by omega
  have e4:(i+(len - j))*n=A.length+C.length:=by rw [a12,hA,hC]
  rw [e0,if_neg (by omega),e3,qj4 hWb hb1 (by rw [hsl,hZ,e4]; simp only [t4] at hAB ⊢; omega) (by
   rw [List.all_flatten,a0r]
   intro x hx
   rw [(List.mem_replicate.1 hx).2]
   exact hz1),n8,n8,e4,← hA,qq3 (by rw [hZ,hB])]
 rw [e2,qzi]
 simp only [qa,qd,qc,qe,qx,q9,B0,reduceIte,a8]
 exact K _
theorem qm9 {i j:Int}(h:qm6 l i j=some l2) : ∃ I J:Nat,i=I∧j=J∧I<J∧J≤l.length∧l2=l.take I++l.drop J:=by
 unfold qm6 at h
 split at h
 case isFalse=>cases h
 rename_i hc
 cases h
 exact ⟨i.toNat,j.toNat,by omega,by omega,by omega,by omega,rfl⟩
theorem qqm (hz:z.all XV.free1=true){m:Nat}{J:List XV}(hJ:J.all XV.free1=true) : ((a0l m z).flatten++J).all XV.free1=true:=by
 rw [List.all_append,hJ,Bool.and_true,List.all_flatten,a0r]
 intro x hx
 rw [(List.mem_replicate.1 hx).2]
 exact hz
theorem All3.take {css:List (List XV)}{oss:List (List Obj)}(H:All3 R l css oss) : ∀ i,All3 R (l.take i) (css.take i) (oss.take i):=by
 induction H with
 | nil=>intro i; simpa using .nil
 | cons h H ih =>
  intro i
  cases i with
  | zero=>exact .nil
  | succ i=>exact .cons h (ih i)
theorem All3.drop {css:List (List XV)}{oss:List (List Obj)}(H:All3 R l css oss) : ∀ i,All3 R (l.drop i) (css.drop i) (oss.drop i):=by
 induction H with
 | nil=>intro i; simpa using .nil
 | cons h H ih =>
  intro i
  cases i with
  | zero=>exact .cons h H
  | succ i=>exact ih i
theorem qt6 {css:List (List XV)}(h:∀ cs∈css,cs.length=n) : css.flatten.length=css.length*n:=by
 induction css with
 | nil=>simp
 | cons a r ih=>rw [List.flatten_cons,t4,ih (fun cs hcs=>h cs (by simp [hcs])),h a (by simp),List.length_cons,Nat.succ_mul]; omega
theorem zdl {fid:Nat}(hf:E.fns fid=some ⟨qj1 ty n bytes z,33,[.t 6]⟩)(hn:∀ {x cs os},R x cs os→cs.length=n)(h1:∀ {x cs os},R x cs os→cs.all XV.one=true)(hz:z.length=n)(hz1:z.all XV.one=true)(hzf:z.all XV.free1=true)(hW:∀ b,lo b→W b=true)(H:SlN R n ty v l c){i j:Int}(hd:qm6 l i j=some l2)(hS:Sep h lo (c++S)) :
  Ret E W fid [v,.int .i64 i,.int .i64 j] h (fun v' h'=>∃ rv rc,v'=rv∧SlN R n ty rv l2 rc∧Sep h' lo (rc++S)):=by
 obtain ⟨I,J,rfl,rfl,hij,hjl,rfl⟩:=qm9 hd
 rcases H with ⟨_,rfl,_⟩ | ⟨b,cap,junk,css,oss,rfl,hcp,hj,hjf,H3,hp⟩
 ·simp at hjl; omega
 have hS1:Sep h lo ((Blk1 b (css.flatten++junk) ty::oss.flatten)++S):=hS.cperm hp
 have hb:=Sep.blk0 hS1
 have hl:=H3.lens hn
 have hcl:=H3.len.1
 have hls:∀ {css':List (List XV)},(∀ c∈css',c∈css)→css'.flatten.length=css'.length*n:=fun hs=>qt6 (fun c hc=>hl c (hs c hc))
 have e1:css.flatten++junk=(css.take I).flatten++(((css.take J).drop I).flatten++((css.drop J).flatten++junk)):=by
  have h1:css.take I=(css.take J).take I:=by rw [a1v,a1q (by omega)]
  have h0:css=css.take I++((css.take J).drop I++css.drop J):=by rw [←r9,h1,a11,a11]
  conv=>lhs; rw [h0]
  simp only [a1j,r9]
 rw [e1] at hb
 refine qqf hf hb (hW b (Sep.ge (S:=oss.flatten++S) hS1)) hij hjl hcp (by rw [hls (fun c hc=>a26 hc),a0f]; congr 1; omega) (by rw [hls (fun c hc=>a26 (a2q hc)),a0v,a0f]; congr 1; omega) (by rw [hls (fun c hc=>a2q hc),a0v]; congr 1; omega) ?_ hz hz1 (fun cs1=>?_)
 ·exact (H3.drop J).one h1
 have hS2:=Sep.set (Sep.set hS1 cs1) ((css.take I).flatten++((css.drop J).flatten++((a0l (J - I) z).flatten++junk)))
 have hlen:(l.take I++l.drop J).length=I+(l.length - J):=by simp; omega
 have hos:(oss.flatten).Perm ((oss.take I++oss.drop J).flatten++((oss.take J).drop I).flatten):=by
  have h1:oss=(oss.take I++(oss.take J).drop I)++oss.drop J:=by
   have h1:oss.take I=(oss.take J).take I:=by rw [a1v,a1q (by omega)]
   rw [h1,a11,a11]
  conv=>lhs; rw [h1]
  rw [a1j,a1j,a1j,r9,r9]
  exact List.Perm.append_left _ a3j
 have hS3:∀ {h':Heap},Sep h' lo (Blk1 b ((css.take I).flatten++((css.drop J).flatten++((a0l (J - I) z).flatten++junk))) ty::(oss.flatten++S))→Sep h' lo ((Blk1 b ((css.take I++css.drop J).flatten++((a0l (J - I) z).flatten++junk)) ty::(oss.take I++oss.drop J).flatten)++S):=by
  intro h' hS2
  refine Sep.dc (c0:=((oss.take J).drop I).flatten) (hS2.perm ?_)
  rw [a1j (L₁:=css.take I),r9]
  rw [List.cons_append]
  refine List.Perm.trans ?_ List.perm_middle.symm
  refine List.Perm.cons _ ?_
  rw [←r9]
  exact (hos.trans a3j).append_right S
 refine ⟨_,_,rfl,.inr ⟨b,cap,(a0l (J - I) z).flatten++junk,css.take I++css.drop J,oss.take I++oss.drop J,by rw [hlen],by omega,?_,qqm hzf hjf,(H3.take I).app (H3.drop J),List.Perm.refl _⟩,hS3 hS2⟩
 rw [hlen,t4,hj]
 have:(a0l (J - I) z).flatten.length=(J - I)*n:=by simp [hz]
 rw [this,← a12]
 congr 1
 omega
end
section
variable {E:Env}{W:Nat→Bool}{h:Heap}{lo:Nat→Prop}{S:List Obj}{ty:TypeId}{l l2:List Int}{v x:XV}{c c2:List Obj}
end
end Go.Proofs.Ytanblnjomhgphaa.X
