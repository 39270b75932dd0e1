/- slices.Delete of owned rows, by its code; slices.Insert of owned rows of numbers, by what it answers. -/
import Derived.Test.YtddkoiapboeemaaZSlW
set_option linter.unusedVariables false
set_option linter.unusedSimpArgs false
namespace Go.Proofs.Ytddkoiapboeemaa.X
open Go
open Nat (reduceEqDiff)
section
variable {E:Env}{W:Nat→Bool}{k:List It}{Q:XV→Heap→Prop}{h:Heap}{lo:Nat→Prop}{S:List Obj}{b:Nat}{ty:TypeId}{α:Type}{R:Rep α}{f:α→List XV}{l l2 l3:List α}{sz:TypeId→Nat}{n bytes:Nat}{v x:XV}{c c2:List Obj}{z cs:List XV}

theorem All3.take {css:List (List XV)}{oss:List (List Obj)}(H:All3 R l css oss) : ∀ i,All3 R (l.take i) (css.take i) (oss.take i):=by
 induction H with
 | nil=>intro i; simpa using .nil
 | cons h H ih =>
  intro i
  cases i with
  | zero=>exact .nil
  | succ i=>exact .cons h (ih i)
theorem All3.drop {css:List (List XV)}{oss:List (List Obj)}(H:All3 R l css oss) : ∀ i,All3 R (l.drop i) (css.drop i) (oss.drop i):=by
 induction H with
 | nil=>intro i; simpa using .nil
 | cons h H ih =>
  intro i
  cases i with
  | zero=>exact .cons h H
  | succ i=>exact ih i
end
section
variable {E:Env}{W:Nat→Bool}{h:Heap}{lo:Nat→Prop}{S:List Obj}{ty:TypeId}{l l2:List Int}{v x:XV}{c c2:List Obj}
theorem qi7:((l.map cI).flatten).all qd6=true:=by
 rw [List.all_flatten,List.all_map,List.all_eq_true]
 intro a _
 rfl
theorem qi9:∀ a:Int,(cI a).length=1:=fun _=>rfl
theorem qxh {cs junk:List XV}{b:Nat}{m:Nat}(hb:za h b=some ⟨cs++junk,ty,true⟩)(hm:cs.length=m) : zw h b 0 m=some cs:=qfb hb hm.symm
theorem qpi:((l.map cI).flatten).length=l.length:=by rw [kx qi9,Nat.mul_one]
theorem qkp {vs:List XV}(e:vs.all qd6=true) : vs.all XV.one=true:=by
 rw [List.all_eq_true] at e ⊢
 intro v hv
 have:=e v hv
 cases v <;> first | rfl | (cases this; done)
def qiw (l:List Int) : Option (List Int):=if l.length<4611686018427387904 then some (l.mergeSort fun x y=>decide (x≤y)) else none
theorem qe2 {l:List Int} : qbl (l.map cI).flatten=((l.mergeSort fun x y=>decide (x≤y)).map cI).flatten:=by
 have e:∀ q:List Int,(q.map cI).flatten=q.map (XV.int .i64):=by
  intro q
  induction q with
  | nil=>rfl
  | cons a r ih=>rw [List.map_cons,List.flatten_cons,ih]; rfl
 unfold qbl
 rw [e,e,List.map_map]
 have:(qb1 ∘ XV.int .i64)=id:=rfl
 rw [this,List.map_id]
theorem qyr {fid:Nat}(hf:E.fns fid=none)(ho:E.orc fid=some (.srt ty))(hW:∀ b,lo b→W b=true)(H:SlF cI 1 ty v l c){r:List Int}(hr:qiw l=some r)(hS:Sep h lo (c++S)) :
  Ret E W fid [v] h (fun v' h'=>∃ ic,v' = .tup []∧SlF cI 1 ty v r ic∧Sep h' lo (ic++S)):=by
 have hlt:l.length<4611686018427387904:=by
  unfold qiw at hr
  split at hr
  ·assumption
  ·cases hr
 have hr:r=l.mergeSort fun x y=>decide (x≤y):=by
  unfold qiw at hr
  rw [if_pos hlt] at hr
  cases hr
  rfl
 subst hr
 have key:∀ {v' h'},qee W [v] h (.srt ty)=some (v',h')→∀ {P:XV→Heap→Prop},P v' h'→Ret E W fid [v] h P:=by
  intro v' h' e P hP
  refine ⟨1,v',h',hP,fun n hn=>?_⟩
  obtain ⟨n,rfl⟩ : ∃ m,n=m+1:=⟨n - 1,by omega⟩
  simp only [k5,hf,ho]
  exact e
 rcases H with ⟨rfl,rfl,rfl⟩ | ⟨b,cap,junk,rfl,hcp,hj,rfl,hjf⟩
 ·exact key (v' := .tup []) (h':=h) rfl ⟨[],rfl,.inl ⟨rfl,by simp,rfl⟩,hS⟩
 ·have hbk:=Sep.bk _ _ _ hS
  have hwb:=hW b (Sep.ge hS)
  have hgo:zw h b 0 l.length=some (l.map cI).flatten:=qxh hbk qpi
  have hls:(l.mergeSort fun x y=>decide (x≤y)).length=l.length:=List.length_mergeSort _
  have hlf:((l.map cI).flatten).length=l.length:=by have:=kx (f:=cI) (l:=l) qi9; omega
  have hsl:(qbl (l.map cI).flatten).length=l.length:=by
   rw [qe2]
   have:=kx (f:=cI) (l:=l.mergeSort fun x y=>decide (x≤y)) qi9
   omega
  have hset:=qie (vs:=qbl (l.map cI).flatten) (o:=0) hwb hbk (by rw [hsl,List.length_append,hlf]; omega) (by
   rw [qe2]
   exact qkp qi7)
  refine key (v' := .tup []) (h':=h.set b ⟨jk ((l.map cI).flatten++junk) 0 (qbl (l.map cI).flatten),ty,true⟩) ?_ ⟨[Blk1 b (jk ((l.map cI).flatten++junk) 0 (qbl (l.map cI).flatten)) ty],rfl,.inr ⟨b,cap,junk,by rw [hls],by omega,by rw [hls]; exact hj,?_,hjf⟩,Sep.set hS _⟩
  ·simp only [qee,hbk,hgo]
   rw [if_pos ⟨qi7,(by trivial),hlt⟩,hset]
  ·congr 1
   unfold jk
   rw [hsl,qe2,List.take_zero,List.nil_append,Nat.zero_add]
   congr 1
   rw [←hlf,List.drop_left]
end
end Go.Proofs.Ytddkoiapboeemaa.X
