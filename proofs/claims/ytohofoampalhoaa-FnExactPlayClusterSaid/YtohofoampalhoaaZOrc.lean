/- slices.Insert at rows of numbers answers as X has it: by the library's own contract. -/
import Derived.Test.YtohofoampalhoaaZM2
import Derived.Shelf.Spec.SlicesInsertGrow
open Array renaming getElem?_append_left→a2c,getElem?_eq_getElem→a01,getElem?_modify→a27,getElem?_push→a3l,size_append→a3g
open List renaming append_assoc→a0f,getElem?_append_left→a0h,getElem?_append_right→a0u,getElem?_drop→a1f,getElem?_eq_getElem→a0b,getElem?_eq_some_iff→v6,getElem?_map→a2f,getElem?_range→a3m,getElem?_take→a1z,length_drop→a2b
open Nat renaming add_assoc→a3k,le_refl→a0m
set_option linter.unusedVariables false
set_option linter.unusedSimpArgs false
namespace Go.Proofs.Ytohofoampalhoaa.X
open Go
section
variable {P:Program}{sz:TypeId→Nat}{φ φ':Phi}{L:Nat}{W:Nat→Bool}{w w':World}{h h':Heap}{b o n:Nat}

theorem qv6 {v:XV}(e:qkw v=true) : XV.one v=true:=by
 cases v <;> first | rfl | (cases e; done)
theorem qre {vs:List XV}(e:vs.all qkw=true) : vs.all XV.one=true:=by
 rw [List.all_eq_true] at e ⊢
 exact fun v hv=>qv6 (e v hv)

theorem qs6 (R:Rel sz φ L h w){vs:List XV}(hn:φ b ≠ .none)(e:kg h b o n=some vs) :
  ∃ cb δ cvs,φ b = .at cb δ∧vs.length=n∧cvs.length=n∧LRel sz φ L w vs cvs∧∀ (j:Nat) v,cvs[j]? = some v→w.cell? ⟨cb,o+δ+j,none⟩=some v:=by
 obtain ⟨cb,δ,f,h1,h2,h3,h4⟩:=qhh R hn e
 refine ⟨cb,δ,(List.range n).map f,h1,h2,by simp,⟨by simp [h2],fun i a c ha hc=>?_⟩,fun j v hv=>?_⟩
 ·have hi:i<n:=by rw [←h2]; exact (v6.1 ha).1
  rw [a2f,a3m hi] at hc
  cases hc
  exact h4 i a ha
 ·have hj:j<n:=by simpa using (v6.1 hv).1
  rw [a2f,a3m hj] at hv
  cases hv
  have:=h3 j hj
  rwa [ua] at this

theorem LRel.take {vs:List XV}{cvs:List Value}(H:LRel sz φ L w vs cvs)(i:Nat) : LRel sz φ L w (vs.take i) (cvs.take i):=by
 refine ⟨by simp [H.len],fun j a c ha hc=>?_⟩
 rw [a1z] at ha hc
 split at ha
 ·rename_i hj
  rw [if_pos hj] at hc
  exact H.at_ j a c ha hc
 ·cases ha
theorem LRel.drop {vs:List XV}{cvs:List Value}(H:LRel sz φ L w vs cvs)(i:Nat) : LRel sz φ L w (vs.drop i) (cvs.drop i):=by
 refine ⟨by simp [H.len],fun j a c ha hc=>?_⟩
 rw [a1f] at ha hc
 exact H.at_ _ a c ha hc

def qfp (cc:Array Value) : Nat→List Value→Array Value
 | _,[]=>cc
 | o,v::r=>qfp (cc.setIfInBounds o v) (o+1) r
theorem qdl:∀ (vs:List Value) (cc:Array Value) (o:Nat),(qfp cc o vs).size=cc.size:=by
 intro vs
 induction vs with
 | nil=>intro cc o; rfl
 | cons v r ih=>intro cc o; rw [qfp,ih]; simp
theorem qod {v:Value}{cc:Array Value}{ty:TypeId}{fz:Nat × Nat}(e:w.heap[b]? = some (.cells cc ty fz)) : (w.setCell ⟨b,o,none⟩ v).heap[b]? = some (.cells (cc.setIfInBounds o v) ty fz):=by
 simp [World.setCell,a27,e]
theorem qn7 {v:Value}{k:Nat}(hk:k≠b) : (w.setCell ⟨b,o,none⟩ v).heap[k]? = w.heap[k]? := by
 simp only [World.setCell,a27]
 rw [if_neg (Ne.symm hk)]
theorem qdt:∀ (vs:List Value) (w:World) (o:Nat) {cc:Array Value} {ty:TypeId} {fz:Nat × Nat},w.heap[b]? = some (.cells cc ty fz)→(w.setCells b o vs).heap[b]? = some (.cells (qfp cc o vs) ty fz):=by
 intro vs
 induction vs with
 | nil=>intro w o cc ty fz e; exact e
 | cons v r ih=>intro w o cc ty fz e; exact ih _ _ (qod e)
theorem qgf:∀ (vs:List Value) (w:World) (o:Nat),(w.setCells b o vs).os=w.os∧(w.setCells b o vs).tape=w.tape∧(w.setCells b o vs).output=w.output∧(w.setCells b o vs).drawn=w.drawn∧(w.setCells b o vs).heap.size=w.heap.size∧∀ k,k≠b→(w.setCells b o vs).heap[k]? = w.heap[k]? := by
 intro vs
 induction vs with
 | nil=>intro w o; exact ⟨rfl,rfl,rfl,rfl,rfl,fun _ _=>rfl⟩
 | cons v r ih =>
  intro w o
  obtain ⟨h1,h2,h3,h4,h5,h6⟩:=ih (w.setCell ⟨b,o,none⟩ v) (o+1)
  exact ⟨h1,h2,h3,h4,h5.trans (by simp [World.setCell]),fun k hk=>(h6 k hk).trans (qn7 hk)⟩
theorem qn5 (w:World)(ty:TypeId) : ∀ (vs:List Value) (o:Nat) (cc:Array Value),(w.alloc (.cells cc ty)).setCells w.heap.size o vs=w.alloc (.cells (qfp cc o vs) ty):=by
 intro vs
 induction vs with
 | nil=>intro o cc; rfl
 | cons v r ih =>
  intro o cc
  rw [World.setCells,qfp,← ih]
  congr 1
  simp only [World.setCell,World.alloc]
  congr 1
  apply Array.ext_getElem?
  intro k
  rw [a27,a3l,a3l]
  by_cases hk:k=w.heap.size
  ·subst hk
   simp
  ·have:¬ w.heap.size=k:=fun e=>hk e.symm
   simp [hk,this]

theorem qoy (R:Rel sz φ L h w)(hW:∀ b,W b=true→L≤b)(hWb:W b=true){k:Blk}(hk:jb h b=some k){cb δ off len c d:Nat}(hφ:φ b = .at cb δ){cc:Array Value}(hcc:w.heap[cb]? = some (.cells cc k.ty (0,0)))(hsz:sz k.ty=1)(hfit:off+δ+c≤cc.size)(hc63:c≤9223372036854775807)
  (a1:w'.os=w.os) (a2:w'.tape=w.tape) (a3:w'.output=w.output) (a4:w'.drawn=d) (a5:w'.heap.size=w.heap.size) (a6:∀ k,k≠cb→w'.heap[k]? = w.heap[k]?) {cc':Array Value} (a7:w'.heap[cb]? = some (.cells cc' k.ty (0,0))) (a8:cc'.size=cc.size)
  {vs:List XV} {cvs:List Value} (hv:LRel sz φ L w vs cvs) (hl:vs.length=len) (hlc:len≤c) (hc0:0<c) (hcell:∀ (j:Nat) v,cvs[j]? = some v→w'.cell? ⟨cb,off+δ+j,none⟩=some v) :
  ∃ φ',Sim sz φ L W h w (.row h.length 0 len len) (kill h b++[⟨vs,k.ty,true⟩]) φ' w' (.slice (some ⟨cb,off+δ,none⟩) len c):=by
 have hlv:cvs.length=len:=by rw [←hv.len,hl]
 have hcc2:∀ (j:Nat) v,cvs[j]? = some v→cc'[off+δ+j]? = some v:=fun j v e=>by
  have:=hcell j v e
  simpa [World.cell?,a7] using this
 have hp:∃ ll,Put { w with drawn:=d } w' cb 0 ll:=by
  refine ⟨cc'.toList,a1,a2,a3,a5,a6,fun c0 ty fz e=>?_⟩
  have e:w.heap[cb]? = some (.cells c0 ty fz):=e
  rw [hcc] at e
  injection e with e
  injection e with e1 e2 e3
  subst e1 e2 e3
  exact ⟨cc',a7,a8,fun j hj=>by rw [if_pos (by simp; omega)]; simp⟩
 obtain ⟨ll,hp⟩:=hp
 have R1:=R.drawn d
 have hE1:=Ext.drawn L W φ w d
 have hn:φ b ≠ .none:=by rw [hφ]; exact fun e=>by cases e
 obtain ⟨S1,S2⟩:=qpz R1 hW hWb hk hφ hp (vs:=vs) (cc':=cc') (δ':=off+δ) a7 (by rw [a8]; omega) (fun j u hu=>by
  obtain ⟨cu,r1,r2⟩:=(hv.ext hE1 hW).get hu
  exact ⟨cu,hcc2 j cu r1,r2⟩)
 refine ⟨_,Sim.drawn R hW (d:=d) ⟨S1,S2,?_,fun x e=>?_,fun x hx e=>?_,by simp [kr]⟩⟩
 ·refine .row _ _ _ _ _ _ (a0m _) ⟨hlc,hc63⟩ (fun _=>rfl) (by simp [ud]) (fun cb' δ' e3=>?_)
  simp only [ud,if_true,Loc.at.injEq] at e3
  obtain ⟨rfl,rfl⟩:=e3
  refine ⟨fun _=>by congr 2; omega,cc',k.ty,(0,0),a7,?_⟩
  rw [a8,hsz]
  omega
 ·by_cases hb:x=h.length
  ·exact .inr (by omega)
  ·left
   intro e2
   apply e
   have hxb:x≠b:=fun e3=>hn (e3▸e2)
   simp [ud,hb,hxb,e2]
 ·have hxb:x≠b:=by
   rintro rfl
   rcases e with e | e
   ·exact hn e
   ·rw [hWb] at e; cases e
  rw [a0h (by rw [kr]; exact hx),qa0,if_neg hxb]

theorem qos (R:Rel sz φ L h w)(hW:∀ b,W b=true→L≤b)(hWb:W b=true){k:Blk}(hk:jb h b=some k)(hn:φ b ≠ .none){c d len:Nat}{ty:TypeId}(hsz:sz ty=1){cc:Array Value}{vs:List XV}{cvs:List Value}(hv:LRel sz φ L w vs cvs)(hl:vs.length=len)(hlc:len≤c∧c≤9223372036854775807)(hs:cc.size=c)(hcell:∀ (j:Nat) v,cvs[j]? = some v→cc[j]? = some v) :
  ∃ φ',Sim sz φ L W h w (.row h.length 0 len len) (kill h b++[⟨vs,ty,true⟩]) φ' { w with drawn:=d,heap:=w.heap.push (.cells cc ty) } (.slice (some ⟨w.heap.size,0,none⟩) len c):=by
 obtain ⟨φ',S⟩:=qoo (x := .row h.length 0 len len) (cx := .slice (some ⟨w.heap.size,0,none⟩) len c) (R.drawn d) hW hk hWb hn ty (vs:=vs) (cc:=cc) (by omega) (fun j u hu=>by
   obtain ⟨cu,r1,r2⟩:=(hv.ext (Ext.drawn L W φ w d) hW).get hu
   exact ⟨cu,hcell j cu r1,r2⟩)
  (fun φ' w' e1 e2 => .row _ _ _ _ _ _ (a0m _) hlc (fun _=>rfl) (by rw [e1]; exact fun e=>by cases e) (fun cb δ e3=>by
   rw [e1] at e3
   cases e3
   exact ⟨fun _=>rfl,_,ty,(0,0),e2,by rw [hsz]; omega⟩))
 exact ⟨φ',S.drawn R hW⟩
theorem q9x (R:Rel sz φ L h w)(hW:∀ b,W b=true→L≤b){c d len:Nat}{ty:TypeId}(hsz:sz ty=1){cc:Array Value}{vs:List XV}{cvs:List Value}(hv:LRel sz φ L w vs cvs)(hl:vs.length=len)(hlc:len≤c∧c≤9223372036854775807)(hs:cc.size=c)(hcell:∀ (j:Nat) v,cvs[j]? = some v→cc[j]? = some v) :
  ∃ φ',Sim sz φ L W h w (.row h.length 0 len len) (h++[⟨vs,ty,true⟩]) φ' { w with drawn:=d,heap:=w.heap.push (.cells cc ty) } (.slice (some ⟨w.heap.size,0,none⟩) len c):=by
 have hE1:=Ext.drawn L W φ w d
 obtain ⟨g1,g2⟩:=qk0 (R.drawn d) hW ty (vs:=vs) (cc:=cc) (by omega) (fun j u hu=>by
  obtain ⟨cu,r1,r2⟩:=(hv.ext hE1 hW).get hu
  exact ⟨cu,hcell j cu r1,r2⟩)
 refine ⟨_,hE1.trans g1,g2,.row _ _ _ _ _ _ (a0m _) hlc (fun _=>rfl) (by simp [yb]) (fun cb δ e3=>?_),fun x e=>?_,fun x hx _=>by rw [a0h hx],by simp⟩
 ·simp only [yb,if_true,Loc.at.injEq] at e3
  obtain ⟨rfl,rfl⟩:=e3
  exact ⟨fun _=>rfl,cc,ty,(0,0),by simp,by rw [hsz]; omega⟩
 ·by_cases hb:x=h.length
  ·exact .inr (by omega)
  ·left
   intro e2
   exact e (by simp [yb,hb,e2])
theorem qnq (w:World){need old:Nat}{e:TypeId}(h:need*8≤70368744177664) : need≤grownCap w need old e∧grownCap w need old e≤9223372036854775807:=by
 have h1:=grownCap_le_maxLen w need old e (by unfold maxLen; omega)
 unfold maxLen at h1
 exact ⟨grownCap_ge _ _ _ _,h1⟩
theorem zci {n:Nat} : (Builtin.zeroCells (Value.int .i64 0).cells n).size=n:=by simp [Builtin.zeroCells,Value.cells]

theorem qmw {cb off:Nat}{cc:Array Value}{ty:TypeId}(e:w.heap[cb]? = some (.cells cc ty (0,0))) : w.frozen? ⟨cb,off,none⟩=false:=by simp [World.frozen?,e]
theorem qil {cb off:Nat}{cc:Array Value}{ty:TypeId}{fz:Nat × Nat}(e:w.heap[cb]? = some (.cells cc ty fz)) : w.cell? ⟨cb,off,none⟩=cc[off]? := by simp [World.cell?,e]
theorem qo2 {cb:Nat}{cc:Array Value}{ty:TypeId}{fz:Nat × Nat}(e:w.heap[cb]? = some (.cells cc ty fz)) : w.shape? cb=some (ty,cc.size):=by simp [World.shape?,e]

theorem zbp {ρ:Go.Shelf.Ren}(LL:Lays2.n21 P ρ)(hsz:sz (ρ.t 3)=1) : OrcOk P sz (ρ.f 21) (.ins (ρ.t 3)):=by
 intro W args h v h' e φ L w cargs hW R ha
 refine ⟨⟨_,LL.f21,by show ("slices.Insert[[]int,int]" : String)≠_; decide,rfl⟩,?_⟩
 unfold qie at e
 dsimp only at e
 split at e
 case h_2=>cases e
 rename_i s i vb vo m vcap
 split at e
 case h_2=>cases e
 rename_i xs hxs
 split at e
 case isFalse=>cases e
 rename_i hc0
 obtain ⟨hm,hi0,hxi⟩:=hc0
 obtain ⟨l⟩:=cargs
 obtain ⟨hlen,hat⟩:=ha
 match l,hlen,hat with
 | [],hlen,_=>simp at hlen
 | [_],hlen,_=>simp at hlen
 | [_,_],hlen,_=>simp at hlen
 | _::_::_::_::_,hlen,_=>simp at hlen
 | [vs,vi,vv],_,hat =>
 have r0:=hat 0 _ _ rfl rfl
 have r1:=hat 1 _ _ rfl rfl
 have r2:=hat 2 _ _ rfl rfl
 clear hat
 cases r1
 cases r2 with
 | row vb vo m vcap va vc hvl hvc hva hvn hvp =>
 obtain ⟨cvb,δv,cxs,q1,q2,q3,q4,q5⟩:=qs6 R hvn hxs
 obtain ⟨kv,hkv,_⟩:=w4 hxs
 obtain ⟨cvb',δv',ccv,q6,q7,_,_⟩:=qdv R hvn hkv
 rw [q1] at q6
 cases q6
 have hva2:=(hvp _ _ q1).1 (by omega)
 subst hva2
 have hx1:∀ u∈cxs,u.oneCell'=true:=q4.one (qre hxi)
 obtain ⟨I,rfl⟩ : ∃ I:Nat,i=I:=⟨i.toNat,by omega⟩
 simp only [Int.toNat_natCast] at e
 split at e
 ·-- nil
  cases r0
  split at e
  case isFalse=>cases e
  rename_i hc
  obtain ⟨hI,hb⟩:=hc
  obtain rfl:I=0:=by omega
  cases e
  refine (Any2.slices_Insert_int_end_grow LL none 0 0 cvb (vo+δv) m vc [] cxs w hm (a0m _) (by omega) (by omega) rfl q3 (fun _=>rfl) (fun a h=>by cases h) q5 hx1).mono ?_
  rintro e w' ⟨rfl,rfl⟩
  have hg:=qnq w (need:=m) (old:=0) (e:=ρ.t 3) (by omega)
  simp only [Nat.zero_add]
  obtain ⟨φ',S⟩:=q9x (d:=w.drawn+1) R hW hsz (cc:=([]++cxs).toArray++Builtin.zeroCells (Value.int IntKind.i64 0).cells (grownCap w m 0 (ρ.t 3) - m)) q4 q2 hg (by simp only [a3g,zci]; simp [q3]; omega) (fun j v hv=>by
   rw [a2c (by simp; exact (v6.1 hv).1)]
   simpa using hv)
  exact ⟨_,φ',rfl,S⟩
 ·-- a row
  rename_i b off len cap _
  split at e
  case h_2=>cases e
  rename_i k old hk hold
  split at e
  case isFalse=>cases e
  rename_i hc
  obtain ⟨hI,hWb,hkt,hne,hoi,hb⟩:=hc
  cases e
  cases r0 with
  | row b off len cap a c hl hc ha hn hp =>
  obtain ⟨cb,δ,cos,g1,g2,g3,g4,g5⟩:=qs6 R hn hold
  obtain ⟨cb',δ',cc,g6,g7,g8,g9⟩:=qdv R hn hk
  rw [g1] at g6
  cases g6
  have ho1:∀ u∈cos,u.oneCell'=true:=g4.one (qre hoi)
  obtain ⟨p1,cc0,ty0,fz0,p2,p3⟩:=hp _ _ g1
  rw [g7] at p2
  injection p2 with p2
  injection p2 with p2 p2' p2''
  subst p2 p2' p2''
  rw [hkt,hsz,Nat.mul_one] at p3
  have hcb:cvb≠cb:=fun e3=>hne (R.inj b vb cb δ δv g1 (e3▸q1))
  have hall:LRel sz φ L w (old.take I++xs++old.drop I) (cos.take I++cxs++cos.drop I):=((g4.take I).append q4).append (g4.drop I)
  have hnl:(old.take I++xs++old.drop I).length=len+m:=by simp [g2,q2]; omega
  have hspl:∀ (j:Nat) v,(cos.take I++cxs++cos.drop I)[j]? = some v→(j<I∧cos[j]? = some v)∨(I≤j∧j<I+m∧cxs[j - I]? = some v)∨(I+m≤j∧j<len+m∧cos[j - m]? = some v):=by
   intro j v hv
   have hj:j<len+m:=by
    have:=(v6.1 hv).1
    simp [g3,q3] at this
    omega
   by_cases h1:j<I
   ·left
    rw [a0f,a0h (by simp [g3]; omega),a1z,if_pos h1] at hv
    exact ⟨h1,hv⟩
   ·right
    by_cases h2:j<I+m
    ·left
     rw [a0f,a0u (by simp [g3]; omega),a0h (by simp [g3,q3]; omega)] at hv
     refine ⟨by omega,h2,?_⟩
     rw [←hv]; congr 1; simp [g3]; omega
    ·right
     rw [a0u (by simp [g3,q3]; omega),a1f] at hv
     refine ⟨by omega,hj,?_⟩
     rw [←hv]; congr 1; simp [g3,q3]; omega
  have hsp:∀ j,j<c→(w.cell? ⟨cb,off+δ+j,none⟩).isSome=true:=fun j hj=>by
   rw [qil g7,a01 (by omega)]; rfl
  rcases Nat.lt_or_ge I len with hIl | hIl
  ·have ha2:=p1 (by omega)
   subst ha2
   by_cases hroom:len+m≤c
   ·refine (Any2.slices_Insert_int_shift LL cb (off+δ) len c I cvb (vo+δv) m vc cos cxs w hIl hm hroom hc.2 hcb g3 q3 g5 (fun j hj=>hsp j (by omega)) (fun j hj=>qmw g7) q5 ho1 hx1 kv.ty k.ty ccv.size cc.size (qo2 q7) (qo2 g7) (by omega) (qmw q7) (qmw q7)).mono ?_
    rintro e w' ⟨rfl,rfl⟩
    obtain ⟨z1,z2,z3,z4,z5,z6⟩:=qgf (b:=cb) (cos.drop I) w.drew (off+δ+(I+m))
    obtain ⟨y1,y2,y3,y4,y5,y6⟩:=qgf (b:=cb) cxs (w.drew.setCells cb (off+δ+(I+m)) (cos.drop I)) (off+δ+I)
    have hc1:=qdt (b:=cb) (cos.drop I) w.drew (off+δ+(I+m)) g7
    have hc2:=qdt (b:=cb) cxs _ (off+δ+I) hc1
    obtain ⟨φ',S⟩:=qoy (d:=w.drawn+1) R hW hWb hk g1 g7 (by rw [hkt]; exact hsz) p3 hc.2 (y1.trans z1) (y2.trans z2) (y3.trans z3) (y4.trans z4) (y5.trans z5) (fun k hk=>(y6 k hk).trans (z6 k hk)) hc2 (by rw [qdl,qdl]) hall hnl hroom (by omega) (fun j v hv=>by
     rcases hspl j v hv with ⟨h1,h2⟩ | ⟨h1,h2,h3⟩ | ⟨h1,h2,h3⟩
     ·rw [World.cell?_setCells_out _ _ _ _ _ (fun _ _=>by show off+δ+j<off+δ+I∨_; omega),World.cell?_setCells_out _ _ _ _ _ (fun _ _=>by show off+δ+j<off+δ+(I+m)∨_; omega)]
      exact g5 j v h2
     ·have hx:=World.cell?_setCells_in cb cxs (off+δ+I) (w.drew.setCells cb (off+δ+(I+m)) (cos.drop I)) (fun j hj=>by
       rw [qil hc1,a01 (by rw [qdl]; omega)]; rfl) (j - I) (by omega)
      rw [show off+δ+I+(j - I)=off+δ+j by omega] at hx
      rw [hx,← a0b]
      exact h3
     ·rw [World.cell?_setCells_out _ _ _ _ _ (fun _ _=>by show _∨off+δ+I+cxs.length≤off+δ+j; omega)]
      have hx:=World.cell?_setCells_in cb (cos.drop I) (off+δ+(I+m)) w.drew (fun j hj=>by
       simp only [a2b,g3] at hj
       have:=hsp (I+m+j) (by omega)
       rw [show off+δ+(I+m)+j=off+δ+(I+m+j) by omega]
       exact this) (j - (I+m)) (by simp [g3]; omega)
      rw [show off+δ+(I+m)+(j - (I+m))=off+δ+j by omega] at hx
      rw [hx,← a0b,a1f,← h3]
      congr 1
      omega)
    rw [hkt] at S
    exact ⟨_,φ',rfl,S⟩
   ·refine (Any2.slices_Insert_int_grow LL cb (off+δ) len c I cvb (vo+δv) m vc cos cxs w hIl hm (by omega) (by omega) (by omega) g3 q3 g5 q5 ho1 hx1).mono ?_
    rintro e w' ⟨rfl,rfl⟩
    have hg:=qnq w (need:=len+m) (old:=c) (e:=ρ.t 3) (by omega)
    generalize hG:grownCap w (len+m) c (ρ.t 3)=G at *
    have hrs:((cos.take I).toArray++Builtin.zeroCells (Value.int IntKind.i64 0).cells (len+m - I)++Builtin.zeroCells (Value.int IntKind.i64 0).cells (G - (len+m))).size=G:=by
     simp only [a3g,zci]; simp [g3]; omega
    generalize hROW:(cos.take I).toArray++Builtin.zeroCells (Value.int IntKind.i64 0).cells (len+m - I)++Builtin.zeroCells (Value.int IntKind.i64 0).cells (G - (len+m))=ROW at *
    have e1:(((w.alloc (.cells ROW (ρ.t 3))).drew.setCells w.heap.size I cxs).drew).setCells w.heap.size (I+m) (cos.drop I)={ w with drawn:=w.drawn+2,heap:=w.heap.push (.cells (qfp (qfp ROW I cxs) (I+m) (cos.drop I)) (ρ.t 3)) }:=by
     have:=qn5 { w with drawn:=w.drawn+1 } (ρ.t 3) cxs I ROW
     have e2:(w.alloc (.cells ROW (ρ.t 3))).drew.setCells w.heap.size I cxs=({ w with drawn:=w.drawn+1 } : World).alloc (.cells (qfp ROW I cxs) (ρ.t 3)):=this
     rw [e2]
     exact qn5 { w with drawn:=w.drawn+2 } (ρ.t 3) (cos.drop I) (I+m) (qfp ROW I cxs)
    have hcell:∀ (j:Nat) v,(cos.take I++cxs++cos.drop I)[j]? = some v→(qfp (qfp ROW I cxs) (I+m) (cos.drop I))[j]? = some v:=by
     intro j v hv
     have key:((((w.alloc (.cells ROW (ρ.t 3))).drew.setCells w.heap.size I cxs).drew).setCells w.heap.size (I+m) (cos.drop I)).cell? ⟨w.heap.size,j,none⟩=some v:=by
      have hA:(w.alloc (.cells ROW (ρ.t 3))).heap[w.heap.size]? = some (.cells ROW (ρ.t 3)):=by
       show (w.heap.push (.cells ROW (ρ.t 3)))[w.heap.size]? = _
       simp
      have hB:=qdt (b:=w.heap.size) cxs (w.alloc (.cells ROW (ρ.t 3))).drew I hA
      rcases hspl j v hv with ⟨h1,h2⟩ | ⟨h1,h2,h3⟩ | ⟨h1,h2,h3⟩
      ·rw [World.cell?_setCells_out _ _ _ _ _ (fun _ _=>by show j<I+m∨_; omega)]
       show ((w.alloc (.cells ROW (ρ.t 3))).drew.setCells w.heap.size I cxs).cell? _=_
       rw [World.cell?_setCells_out _ _ _ _ _ (fun _ _=>by show j<I∨_; omega)]
       show (w.alloc (.cells ROW (ρ.t 3))).cell? _=_
       rw [qil hA,← hROW,Array.append_assoc,a2c (by simp [g3]; omega)]
       simp [a1z,h1,h2]
      ·rw [World.cell?_setCells_out _ _ _ _ _ (fun _ _=>by show j<I+m∨_; omega)]
       show ((w.alloc (.cells ROW (ρ.t 3))).drew.setCells w.heap.size I cxs).cell? _=_
       have hx:=World.cell?_setCells_in w.heap.size cxs I (w.alloc (.cells ROW (ρ.t 3))).drew (fun j hj=>by
        have:(w.alloc (.cells ROW (ρ.t 3))).cell? ⟨w.heap.size,I+j,none⟩=ROW[I+j]? := qil hA
        show ((w.alloc (.cells ROW (ρ.t 3))).cell? ⟨w.heap.size,I+j,none⟩).isSome=true
        rw [this,a01 (by omega)]; rfl) (j - I) (by omega)
       rw [show I+(j - I)=j by omega] at hx
       rw [hx,← a0b]
       exact h3
      ·have hx:=World.cell?_setCells_in w.heap.size (cos.drop I) (I+m) ((w.alloc (.cells ROW (ρ.t 3))).drew.setCells w.heap.size I cxs).drew (fun j hj=>by
        simp only [a2b,g3] at hj
        have:((w.alloc (.cells ROW (ρ.t 3))).drew.setCells w.heap.size I cxs).cell? ⟨w.heap.size,I+m+j,none⟩=(qfp ROW I cxs)[I+m+j]? := qil hB
        show (((w.alloc (.cells ROW (ρ.t 3))).drew.setCells w.heap.size I cxs).cell? ⟨w.heap.size,I+m+j,none⟩).isSome=true
        rw [this,a01 (by rw [qdl]; omega)]; rfl) (j - (I+m)) (by simp [g3]; omega)
       rw [show I+m+(j - (I+m))=j by omega] at hx
       rw [hx,← a0b,a1f,← h3]
       congr 1
       omega
     rw [e1] at key
     rw [←key]
     simp [World.cell?]
    rw [e1]
    obtain ⟨φ',S⟩:=qos (d:=w.drawn+2) R hW hWb hk hn hsz hall hnl hg (by rw [qdl,qdl,hrs]) hcell
    exact ⟨_,φ',rfl,S⟩
  ·obtain rfl:I=len:=by omega
   have htk:cos.take I=cos:=List.take_of_length_le (by omega)
   have hdr:cos.drop I=[]:=List.drop_eq_nil_of_le (by omega)
   by_cases hroom:I+m≤c
   ·have ha2:=p1 (by omega)
    subst ha2
    refine (Any2.slices_Insert_int_end_room LL cb (off+δ) I c cvb (vo+δv) m vc cxs w hm hroom hc.2 q3 (fun j hj=>by rw [a3k]; exact hsp _ (by omega)) (fun j hj=>qmw g7) q5 hx1).mono ?_
    rintro e w' ⟨rfl,rfl⟩
    obtain ⟨z1,z2,z3,z4,z5,z6⟩:=qgf (b:=cb) cxs w (off+δ+I)
    have hc1:=qdt (b:=cb) cxs w (off+δ+I) g7
    obtain ⟨φ',S⟩:=qoy (d:=w.drawn) R hW hWb hk g1 g7 (by rw [hkt]; exact hsz) p3 hc.2 z1 z2 z3 z4 z5 z6 hc1 (by rw [qdl]) hall hnl hroom (by omega) (fun j v hv=>by
     rcases hspl j v hv with ⟨h1,h2⟩ | ⟨h1,h2,h3⟩ | ⟨h1,h2,h3⟩
     ·rw [World.cell?_setCells_out _ _ _ _ _ (fun _ _=>by show off+δ+j<off+δ+I∨_; omega)]
      exact g5 j v h2
     ·have hx:=World.cell?_setCells_in cb cxs (off+δ+I) w (fun j hj=>by
       have:=hsp (I+j) (by omega)
       rwa [←a3k] at this) (j - I) (by omega)
      rw [show off+δ+I+(j - I)=off+δ+j by omega] at hx
      rw [hx,← a0b]
      exact h3
     ·omega)
    rw [hkt] at S
    exact ⟨_,φ',rfl,S⟩
   ·refine (Any2.slices_Insert_int_end_grow LL a I c cvb (vo+δv) m vc cos cxs w hm (by omega) (by omega) (by omega) g3 q3 (fun h0=>?_) (fun ad had j v hv=>?_) q5 hx1).mono ?_
    ·rcases Nat.eq_zero_or_pos c with h1 | h1
     ·omega
     ·rw [p1 h1] at h0; cases h0
    ·have hj:j<I:=by rw [←g3]; exact (v6.1 hv).1
     rw [p1 (by omega)] at had
     cases had
     rw [ua]
     exact g5 j v hv
    ·rintro e w' ⟨rfl,rfl⟩
     have hg:=qnq w (need:=I+m) (old:=c) (e:=ρ.t 3) (by omega)
     rw [htk,hdr,List.append_nil] at hall
     have e9:old.take I++xs++old.drop I=old.take I++xs++old.drop I:=rfl
     obtain ⟨φ',S⟩:=qos (d:=w.drawn+1) R hW hWb hk hn hsz (cc:=(cos++cxs).toArray++Builtin.zeroCells (Value.int IntKind.i64 0).cells (grownCap w (I+m) c (ρ.t 3) - (I+m))) hall hnl hg (by simp only [a3g,zci]; simp [g3,q3]; omega) (fun j v hv=>by
      rw [a2c (by simp; have:=(v6.1 hv).1; simpa using this)]
      simpa using hv)
     exact ⟨_,φ',rfl,S⟩
 ·cases e
end
end Go.Proofs.Ytohofoampalhoaa.X
