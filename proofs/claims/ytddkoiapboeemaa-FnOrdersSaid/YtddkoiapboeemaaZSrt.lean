/- slices.Sort at rows of numbers answers as X has it: by the library's own contract. -/
import Derived.Test.YtddkoiapboeemaaZOrc
import Derived.Shelf.SortG.Plain
import Derived.Shelf.SortG.SortNone
set_option linter.unusedVariables false
set_option linter.unusedSimpArgs false
namespace Go.Proofs.Ytddkoiapboeemaa.X
open Go
section
variable {P:Program}{sz:TypeId→Nat}{φ φ':Phi}{L:Nat}{W:Nat→Bool}{w w':World}{h h':Heap}{b o n:Nat}

theorem qxa (R:Rel sz φ L h w)(hW:∀ b,W b=true→L≤b){vs:List XV}{cvs:List Value}{k:Blk}{cb δ:Nat}(hk:za h b=some k)(hWb:W b=true)(hle:o+vs.length≤k.cells.length)(h1:φ b = .at cb δ)(hp:Put w w' cb (o+δ) cvs)(hv:LRel sz φ L w vs cvs) :
  Ext L W φ φ w w'∧Rel sz φ L (h.set b { k with cells:=jk k.cells o vs }) w':=by
 have hn:φ b ≠ .none:=by rw [h1]; exact fun e=>by cases e
 obtain ⟨cb2,δ2,cc,h1',h2,h3,h4⟩:=qa6 R hn hk
 rw [h1] at h1'
 cases h1'
 obtain ⟨hkb,hkl,hblt⟩:=xp hk
 have hE:Ext L W φ φ w w':=by
  refine ⟨hp.os,hp.tape,hp.output,Nat.le_of_eq hp.size.symm,fun _ _ _ e => .inl e,fun _ e=>e,fun _ _ _ e => .inl e,fun cb' _ hcb'=>hp.other cb' (fun e=>hcb' b δ hWb (e▸h1)),fun cb' cc' ty fz e=>?_⟩
  by_cases hcb:cb'=cb
  ·subst hcb
   obtain ⟨c2,h5,h6,_⟩:=hp.self _ _ _ e
   exact ⟨c2,h5,h6⟩
  ·exact ⟨cc',by rw [hp.other cb' hcb]; exact e,rfl⟩
 refine ⟨hE,⟨fun b' cb' δ' e=>?_,R.inj,fun b' e=>?_,fun b' hb'=>R.new b' (by simpa using hb')⟩⟩
 ·by_cases hbb:b'=b
  ·subst hbb
   rw [h1] at e
   cases e
   obtain ⟨c2,h5,h6,h7⟩:=hp.self _ _ _ h2
   refine ⟨{ k with cells:=jk k.cells o vs },c2,by rw [List.getElem?_set_self hblt],hkl,h5,by rw [h6]; simp only [qau _ _ _ hle]; exact h3,fun i v hiv=>?_⟩
   simp only [qef _ _ _ _ hle] at hiv
   have hlt:δ+i<cc.size:=by
    split at hiv
    ·omega
    ·have:=(List.getElem?_eq_some_iff.1 hiv).1
     omega
   rw [h7 _ hlt]
   split at hiv
   ·rename_i hin
    rw [if_pos (by rw [←hv.len]; omega)]
    obtain ⟨cv,h8,h9⟩:=hv.get hiv
    refine ⟨cv,?_,h9.ext hE hW⟩
    rw [←h8]
    congr 1
    omega
   ·rename_i hin
    rw [if_neg (by rw [←hv.len]; omega)]
    obtain ⟨cv,h8,h9⟩:=h4 i v hiv
    exact ⟨cv,h8,h9.ext hE hW⟩
  ·obtain ⟨k',c',h5,h6,h7,h8,h9⟩:=R.live b' cb' δ' e
   refine ⟨k',c',by rw [List.getElem?_set_ne (fun e=>hbb e.symm)]; exact h5,h6,?_,h8,fun i v hiv=>?_⟩
   ·rw [hp.other cb' (fun e2=>hbb (R.inj b' b cb' δ' δ e (e2▸h1)))]
    exact h7
   ·obtain ⟨cv,h10,h11⟩:=h9 i v hiv
    exact ⟨cv,h10,h11.ext hE hW⟩
 ·have h5:=R.dead b' e
  unfold za at h5 ⊢
  by_cases hbb:b'=b
  ·subst hbb
   rw [h1] at e
   cases e
  ·rw [List.getElem?_set_ne (fun e=>hbb e.symm)]
   exact h5
theorem qpk (R:Rel sz φ L h w)(hW:∀ b,W b=true→L≤b)(os:Array Go.Obj) : Ext L W φ φ w (Go.Sort.grow w os)∧Rel sz φ L h (Go.Sort.grow w os):=by
 have hget:∀ (cb:Nat) o,w.heap[cb]? = some o→(Go.Sort.grow w os).heap[cb]? = some o:=fun cb o e=>by
  show (w.heap++os)[cb]? = some o
  rw [Array.getElem?_append_left (Array.getElem?_eq_some_iff.1 e).1]
  exact e
 have hE:Ext L W φ φ w (Go.Sort.grow w os):=by
  refine ⟨rfl,rfl,rfl,by show w.heap.size≤(w.heap++os).size; rw [Array.size_append]; omega,fun _ _ _ e => .inl e,fun _ e=>e,fun _ _ _ e => .inl e,fun cb hcb _=>?_,fun cb cc ty fz e=>⟨cc,hget _ _ e,rfl⟩⟩
  show (w.heap++os)[cb]? = _
  rw [Array.getElem?_append_left hcb]
 refine ⟨hE,⟨fun b cb δ e=>?_,R.inj,R.dead,R.new⟩⟩
 obtain ⟨k,cc,h1,h2,h3,h4,h5⟩:=R.live b cb δ e
 refine ⟨k,cc,h1,h2,hget _ _ h3,h4,fun i v hv=>?_⟩
 obtain ⟨cv,h6,h7⟩:=h5 i v hv
 exact ⟨cv,h6,h7.ext hE hW⟩
theorem qlf {cb off d:Nat}{zs:List Int} : Put w (Go.Sort.putRow (Value.int .i64) (Go.Sort.ahead w d) cb off zs.toArray) cb off (zs.map fun z=>Value.int .i64 z):=by
 have hg:∀ k:Nat,(Go.Sort.putRow (Value.int .i64) (Go.Sort.ahead w d) cb off zs.toArray).heap[k]? = if k=cb then (w.heap[k]?).map (Go.Sort.onCells (Go.Sort.putCells (Value.int .i64) off zs.toArray)) else w.heap[k]? := by
  intro k
  show (w.heap.modify cb _)[k]? = _
  rw [Array.getElem?_modify]
  by_cases e:k=cb
  ·subst e; rw [if_pos rfl]
  ·rw [if_neg (Ne.symm e),if_neg e]
 refine ⟨rfl,rfl,rfl,by show (w.heap.modify cb _).size=_; simp,fun k hk=>by rw [hg,if_neg hk],fun cc ty fz e=>?_⟩
 refine ⟨Go.Sort.putCells (Value.int .i64) off zs.toArray cc,by rw [hg,if_pos rfl,e]; rfl,by simp [Go.Sort.putCells],fun j hj=>?_⟩
 unfold Go.Sort.putCells
 rw [Array.getElem?_mapIdx,Array.getElem?_eq_getElem hj,List.length_map]
 simp only [Option.map_some,List.size_toArray]
 by_cases hin:off≤j∧j<off+zs.length
 ·rw [if_pos hin,if_pos hin,List.getElem?_map]
  have hlt:j - off<zs.length:=by omega
  rw [List.getElem?_eq_getElem hlt]
  simp [getElem!_pos,hlt]
 ·rw [if_neg hin,if_neg hin]
theorem qwm {vs:List XV}{cvs:List Value}(H:LRel sz φ L w vs cvs)(e:vs.all qd6=true) : cvs=(vs.map qb1).map (fun z=>Value.int .i64 z)∧vs=(vs.map qb1).map (fun z=>XV.int .i64 z):=by
 have h1:∀ v∈vs,v = .int .i64 (qb1 v):=fun v hv=>by
  have:=List.all_eq_true.1 e v hv
  unfold qd6 at this
  split at this
  ·rfl
  ·cases this
 constructor
 ·apply List.ext_getElem?
  intro i
  by_cases hi:i<vs.length
  ·have hx:vs[i]? = some vs[i]:=List.getElem?_eq_getElem hi
   obtain ⟨cv,h2,h3⟩:=H.get hx
   rw [h2,List.getElem?_map,List.getElem?_map,hx]
   have:=h1 _ (List.mem_of_getElem? hx)
   rw [this] at h3
   cases h3
   rfl
  ·rw [List.getElem?_eq_none (by rw [←H.len]; omega),List.getElem?_eq_none (by simp; omega)]
 ·rw [List.map_map]
  have:∀ v∈vs,((fun z=>XV.int .i64 z) ∘ qb1) v=v:=fun v hv=>(h1 v hv).symm
  rw [List.map_congr_left this]
  simp
theorem qna (zs:List Int) : LRel sz φ L w (zs.map fun z=>XV.int .i64 z) (zs.map fun z=>Value.int .i64 z):=by
 refine ⟨by simp,fun i a c ha hc=>?_⟩
 rw [List.getElem?_map] at ha hc
 cases hz:zs[i]? with
 | none=>rw [hz] at ha; cases ha
 | some z =>
  rw [hz] at ha hc
  cases ha
  cases hc
  exact .int _ _
theorem qxt {ρ:Go.Shelf.Ren}(LL:Go.Proofs.SlLaysN.n53 P ρ){ty:Nat}(hsz:sz ty=1)(hex:∃ fn,P.funcs[ρ.f 53]? = some fn∧fn.name ≠ "runtime.NumGoroutine" ∧ fn.body.isSome=true) : OrcOk P sz (ρ.f 53) (.srt ty):=by
 intro W args h v h' e φ L w cargs hW R ha
 refine ⟨hex,?_⟩
 unfold qee at e
 dsimp only at e
 obtain ⟨l⟩:=cargs
 obtain ⟨hlen,hat⟩:=ha
 have hself:Ext L W φ φ w w:=⟨rfl,rfl,rfl,Nat.le_refl _,fun _ _ _ e => .inl e,fun _ e=>e,fun _ _ _ e => .inl e,fun _ _ _=>rfl,fun _ cc _ _ e=>⟨cc,e,rfl⟩⟩
 split at e
 ·-- nil
  cases e
  match l,hlen,hat with
  | [],hlen,_=>simp at hlen
  | _::_::_,hlen,_=>simp at hlen
  | [cv],_,hat =>
  have r0:=hat 0 _ _ rfl rfl
  cases r0
  refine (AnyG.slices_Sort_int_none LL none 0 w).mono ?_
  rintro e w' ⟨rfl,rfl⟩
  exact ⟨_,φ,rfl,hself,R,.tup _ _ rfl (fun i a c ha=>by simp at ha),fun b hb => .inl hb,fun _ _ _=>rfl,Nat.le_refl _⟩
 ·rename_i b off len cap
  split at e
  case h_2=>cases e
  rename_i k old hk hold
  split at e
  case isFalse=>cases e
  rename_i hc
  obtain ⟨hoi,hkt,hl63⟩:=hc
  split at e
  case h_2=>cases e
  rename_i h2 hset
  cases e
  obtain ⟨k',hk',hWb,hle,_,rfl⟩:=y9 hset
  rw [hk] at hk'
  cases hk'
  match l,hlen,hat with
  | [],hlen,_=>simp at hlen
  | _::_::_,hlen,_=>simp at hlen
  | [cv],_,hat =>
  have r0:=hat 0 _ _ rfl rfl
  cases r0 with
  | row b off len cap a c hl hc ha hn hp =>
  obtain ⟨cb,δ,cos,g1,g2,g3,g4,g5⟩:=qyg R hn hold
  obtain ⟨e1,e2⟩:=qwm g4 hoi
  have hsl:(qbl old).length=len:=by simp [qbl,g2]
  have hLr:LRel sz φ L w (qbl old) (((old.map qb1).mergeSort fun x y=>decide (x≤y)).map fun z=>Value.int .i64 z):=qna _
  have fin:∀ (w1:World) (os:Array Go.Obj),Put w w1 cb (off+δ) (((old.map qb1).mergeSort fun x y=>decide (x≤y)).map fun z=>Value.int .i64 z)→∃ cv φ',(Ending.returned (.tuple #[]))=Ending.returned cv∧Sim sz φ L W h w (.tup []) (h.set b { k with cells:=jk k.cells off (qbl old) }) φ' (Go.Sort.grow w1 os) cv:=by
   intro w1 os hput
   obtain ⟨s1,s2⟩:=qxa R hW hk hWb hle g1 hput hLr
   obtain ⟨t1,t2⟩:=qpk (W:=W) s2 hW os
   refine ⟨_,φ,rfl,s1.trans t1,t2,.tup _ _ rfl (fun i a c ha=>by simp at ha),fun b hb => .inl hb,fun x hx hxn=>?_,by simp⟩
   rw [List.getElem?_set_ne]
   rintro rfl
   rcases hxn with hxn | hxn
   ·rw [g1] at hxn; cases hxn
   ·rw [hWb] at hxn; cases hxn
  rcases Nat.eq_zero_or_pos len with h0 | h0
  ·subst h0
   refine (AnyG.slices_Sort_int_none LL a c w).mono ?_
   intro e w' hq
   obtain ⟨he,hw⟩:=hq
   subst he
   rw [hw]
   have hz:old=[]:=List.length_eq_zero_iff.1 g2
   have hput:Put w w cb (off+δ) (((old.map qb1).mergeSort fun x y=>decide (x≤y)).map fun z=>Value.int .i64 z):=by
    subst hz
    refine ⟨rfl,rfl,rfl,rfl,fun _ _=>rfl,fun cc ty fz e=>⟨cc,e,rfl,fun j hj=>?_⟩⟩
    rw [if_neg (by simp),Array.getElem?_eq_getElem hj]
   have:=fin w #[] hput
   have e3:Go.Sort.grow w #[]=w:=by simp [Go.Sort.grow]
   rw [e3] at this
   exact this
  ·have ha2:=(hp _ _ g1).1 (by omega)
   subst ha2
   have hzl:(old.map qb1).length=len:=by simp [g2]
   have hcb:=R.live b cb δ g1
   obtain ⟨kk,cc,q1,q2,q3,q4,q5⟩:=hcb
   have:=AnyG.slices_Sort_int LL cb (off+δ) c (old.map qb1) w (fun j hj=>by
    rw [List.size_toArray,hzl] at hj
    refine ⟨?_,qx0 q3⟩
    have hj2:j<(old.map qb1).length:=by omega
    have:=g5 j (Value.int .i64 ((old.map qb1)[j])) (by rw [e1,List.getElem?_map,List.getElem?_eq_getElem hj2]; rfl)
    rw [this]
    rw [getElem!_pos _ j (by rw [List.size_toArray]; exact hj2),List.getElem_toArray]) (by exact (Array.getElem?_eq_some_iff.1 q3).1) (by omega)
   rw [hzl] at this
   refine this.mono ?_
   rintro e w' ⟨rfl,d,os,rfl⟩
   exact fin _ os qlf
 ·cases e
end
end Go.Proofs.Ytddkoiapboeemaa.X
